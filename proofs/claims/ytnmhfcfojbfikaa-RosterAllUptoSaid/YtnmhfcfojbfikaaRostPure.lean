/- What the lists of sections come to, as plain lists. Conditions: as each theorem says. -/
import Derived.Test.YtnmhfcfojbfikaaRostLays
namespace Go.Proofs.Ytnmhfcfojbfikaa.QRosterLays
open Go.RowKit Go.Proofs.YtnmhfcfojbfikaaW.PrintWords Go.Proofs.YtnmhfcfojbfikaaW.PrintLast Go.Proofs.YtnmhfcfojbfikaaW.PrintMore
set_option linter.unusedVariables false
set_option linter.unusedSimpArgs false
set_option linter.unusedSectionVars false
/-- With fuel enough it answers r. -/
def Ev {α : Type} (f : Nat → Option α) (r : α) : Prop := ∃ K, ∀ k, K ≤ k → f k = some r
section
variable {α β : Type}
theorem Ev.base {f : Nat → Option α} {r : α} (hs : ∀ k, f (k + 1) = some r) : Ev f r := ⟨1, fun k hk => by
  obtain ⟨m, rfl⟩ : ∃ m, k = m + 1 := ⟨k - 1, by omega⟩
  exact hs m⟩
theorem Ev.step {f g : Nat → Option α} {r : α} (h : Ev g r) (hs : ∀ k, f (k + 1) = g k) : Ev f r := by
  obtain ⟨K, hK⟩ := h
  refine ⟨K + 1, fun k hk => ?_⟩
  obtain ⟨m, rfl⟩ : ∃ m, k = m + 1 := ⟨k - 1, by omega⟩
  rw [hs]
  exact hK m (by omega)
theorem Ev.step2 {f g : Nat → Option α} {a : Nat → Option β} {r : α} {x : β} (ha : Ev a x) (h : Ev g r) (hs : ∀ k, a k = some x → f (k + 1) = g k) : Ev f r := by
  obtain ⟨K, hK⟩ := h
  obtain ⟨L, hL⟩ := ha
  refine ⟨K + L + 1, fun k hk => ?_⟩
  obtain ⟨m, rfl⟩ : ∃ m, k = m + 1 := ⟨k - 1, by omega⟩
  rw [hs m (hL m (by omega))]
  exact hK m (by omega)
theorem Ev.same {f g : Nat → Option α} {r : α} (h : Ev g r) (hs : ∀ k, f k = g k) : Ev f r := by
  obtain ⟨K, hK⟩ := h
  exact ⟨K, fun k hk => by rw [hs]; exact hK k hk⟩
end
theorem wj (j : Nat) (h : j < 9223372036854775807) : wrap64 ((j : Int) + 1) = ((j + 1 : Nat) : Int) := by unfold wrap64; omega
theorem rd101 (l : List S101) (j : Nat) (h : j < l.length) : rd_T101 l (j : Int) = l[j] := by
  unfold rd_T101
  rw [Int.toNat_natCast, List.getD_eq_getElem?_getD, List.getElem?_eq_getElem h]
  rfl
theorem rd34 (l : List S34) (j : Nat) (h : j < l.length) : rd_T34 l (j : Int) = l[j] := by
  unfold rd_T34
  rw [Int.toNat_natCast, List.getD_eq_getElem?_getD, List.getElem?_eq_getElem h]
  rfl
theorem drop_nil {α : Type} {l : List α} {j : Nat} (h : ¬ j < l.length) : l.drop j = [] := List.drop_eq_nil_of_le (by omega)
/-! ### the searches -/
def fi (nm : ByteArray) : List S101 → Nat → Int
  | [], _ => -1
  | x :: t, j => if x.f0.toList = nm.toList then (j : Int) else fi nm t (j + 1)
theorem fi_lt (nm : ByteArray) (l : List S101) : ∀ j, fi nm l j < (j + l.length : Nat) := by
  induction l with
  | nil => intro j; unfold fi; omega
  | cons x t ih =>
    intro j
    unfold fi
    split
    · simp only [List.length_cons]; omega
    · have := ih (j + 1); simp only [List.length_cons]; omega
def wi (nm : ByteArray) : List S34 → ByteArray × Bool
  | [] => ((⟨#[]⟩ : ByteArray), false)
  | x :: t => if x.f0.toList = nm.toList then (x.f1, true) else wi nm t
def hi (nm : ByteArray) : List S34 → Nat → Int
  | [], _ => -1
  | x :: t, j => if x.f0.toList = nm.toList then (j : Int) else hi nm t (j + 1)
theorem hi_wi (nm : ByteArray) (l : List S34) : ∀ (n j : Nat), l.length - j = n → (hi nm (l.drop j) j = -1 ∧ (wi nm (l.drop j)).2 = false) ∨ ∃ m : Nat, m < l.length ∧ hi nm (l.drop j) j = (m : Int) ∧ wi nm (l.drop j) = ((rd_T34 l (m : Int)).f1, true) := by
  intro n
  induction n with
  | zero =>
    intro j hj
    rw [drop_nil (by omega)]
    exact .inl ⟨rfl, rfl⟩
  | succ n ih =>
    intro j hj
    have hl : j < l.length := by omega
    rw [List.drop_eq_getElem_cons hl]
    unfold hi wi
    split
    · exact .inr ⟨j, hl, rfl, by rw [rd34 l j hl]⟩
    · exact ih (j + 1) (by omega)
theorem find_l0 (l : List S101) (nm : ByteArray) (hl : l.length < 9223372036854775807) : ∀ (n j : Nat), l.length - j = n → Ev (fun k => sluiceref07_find.l0 k l nm (j : Int)) (fi nm (l.drop j) j) := by
  intro n
  induction n with
  | zero =>
    intro j hj
    rw [drop_nil (by omega)]
    exact Ev.base (fun k => by rw [sluiceref07_find.l0, if_neg (by omega)]; rfl)
  | succ n ih =>
    intro j hj
    have hjl : j < l.length := by omega
    rw [List.drop_eq_getElem_cons hjl]
    unfold fi
    split
    · rename_i he
      exact Ev.base (fun k => by rw [sluiceref07_find.l0, if_pos (by omega), if_pos (by omega), rd101 l j hjl, if_pos he])
    · rename_i he
      refine Ev.step (ih (j + 1) (by omega)) (fun k => ?_)
      rw [sluiceref07_find.l0, if_pos (by omega), if_pos (by omega), rd101 l j hjl, if_neg he, wj j (by omega)]
theorem find_f (l : List S101) (nm : ByteArray) (hl : l.length < 9223372036854775807) : Ev (fun k => sluiceref07_find.f k l nm) (fi nm l 0) := find_l0 l nm hl l.length 0 (by omega)
theorem at_l0 (l : List S101) (nm : ByteArray) (hl : l.length < 9223372036854775807) : ∀ (n j : Nat), l.length - j = n → Ev (fun k => roster_at.l0 k nm l (l.length : Int) (j : Int)) (fi nm (l.drop j) j) := by
  intro n
  induction n with
  | zero =>
    intro j hj
    rw [drop_nil (by omega)]
    exact Ev.base (fun k => by rw [roster_at.l0, if_neg (by omega)]; rfl)
  | succ n ih =>
    intro j hj
    have hjl : j < l.length := by omega
    rw [List.drop_eq_getElem_cons hjl]
    unfold fi
    split
    · rename_i he
      exact Ev.base (fun k => by rw [roster_at.l0, if_pos (by omega), if_pos (by omega), if_pos (by omega), rd101 l j hjl, if_pos he])
    · rename_i he
      refine Ev.step (ih (j + 1) (by omega)) (fun k => ?_)
      rw [roster_at.l0, if_pos (by omega), if_pos (by omega), if_pos (by omega), rd101 l j hjl, if_neg he, wj j (by omega)]
theorem at_f (l : List S101) (nm : ByteArray) (hl : l.length < 9223372036854775807) : Ev (fun k => roster_at.f k l nm) (fi nm l 0) := at_l0 l nm hl l.length 0 (by omega)
theorem has_l0 (s : ByteArray) (l : List S34) (nm : ByteArray) (hl : l.length < 9223372036854775807) : ∀ (n j : Nat), l.length - j = n → Ev (fun k => sluiceref07_has.l0 k nm (j : Int) s l) (hi nm (l.drop j) j) := by
  intro n
  induction n with
  | zero =>
    intro j hj
    rw [drop_nil (by omega)]
    exact Ev.base (fun k => by rw [sluiceref07_has.l0, if_neg (by omega)]; rfl)
  | succ n ih =>
    intro j hj
    have hjl : j < l.length := by omega
    rw [List.drop_eq_getElem_cons hjl]
    unfold hi
    split
    · rename_i he
      exact Ev.base (fun k => by rw [sluiceref07_has.l0, if_pos (by omega), if_pos (by omega), rd34 l j hjl, if_pos he])
    · rename_i he
      refine Ev.step (ih (j + 1) (by omega)) (fun k => ?_)
      rw [sluiceref07_has.l0, if_pos (by omega), if_pos (by omega), rd34 l j hjl, if_neg he, wj j (by omega)]
theorem has_f (s : ByteArray) (l : List S34) (nm : ByteArray) (hl : l.length < 9223372036854775807) : Ev (fun k => sluiceref07_has.f k s l nm) (hi nm l 0) := has_l0 s l nm hl l.length 0 (by omega)
theorem within_l0 (l : List S34) (nm : ByteArray) (hl : l.length < 9223372036854775807) : ∀ (n j : Nat), l.length - j = n → Ev (fun k => roster_within.l0 k nm l (l.length : Int) (j : Int)) (wi nm (l.drop j)) := by
  intro n
  induction n with
  | zero =>
    intro j hj
    rw [drop_nil (by omega)]
    exact Ev.base (fun k => by rw [roster_within.l0, if_neg (by omega)]; rfl)
  | succ n ih =>
    intro j hj
    have hjl : j < l.length := by omega
    rw [List.drop_eq_getElem_cons hjl]
    unfold wi
    split
    · rename_i he
      exact Ev.base (fun k => by rw [roster_within.l0, if_pos (by omega), if_pos (by omega), if_pos (by omega), rd34 l j hjl, if_pos he])
    · rename_i he
      refine Ev.step (ih (j + 1) (by omega)) (fun k => ?_)
      rw [roster_within.l0, if_pos (by omega), if_pos (by omega), if_pos (by omega), rd34 l j hjl, if_neg he, wj j (by omega)]
theorem within_f (s : ByteArray) (l : List S34) (nm : ByteArray) (hl : l.length < 9223372036854775807) : Ev (fun k => roster_within.f k s l nm) (wi nm l) := within_l0 l nm hl l.length 0 (by omega)
/-! ### same -/
theorem sameE_l0 (l : List S34) (hl : l.length < 9223372036854775807) : ∀ (n j : Nat), l.length - j = n → Ev (fun k => sluicelaw07_sameEntries.l0 k l l (j : Int)) true := by
  intro n
  induction n with
  | zero =>
    intro j hj
    exact Ev.base (fun k => by rw [sluicelaw07_sameEntries.l0, if_neg (by omega)])
  | succ n ih =>
    intro j hj
    refine Ev.step (ih (j + 1) (by omega)) (fun k => ?_)
    rw [sluicelaw07_sameEntries.l0, if_pos (by omega), if_pos (by omega), if_pos (by omega), if_neg (by simp), wj j (by omega)]
theorem sameE_f (l : List S34) (hl : l.length < 9223372036854775807) : Ev (fun k => sluicelaw07_sameEntries.f k l l) true := (sameE_l0 l hl l.length 0 (by omega)).same (fun k => by rw [sluicelaw07_sameEntries.f, if_pos rfl]; rfl)
theorem same_l0 (l : List S101) (hl : l.length < 9223372036854775807) (hx : ∀ x ∈ l, x.f1.length < 9223372036854775807) : ∀ (n j : Nat), l.length - j = n → Ev (fun k => sluicelaw07_same.l0 k l l (j : Int)) true := by
  intro n
  induction n with
  | zero =>
    intro j hj
    exact Ev.base (fun k => by rw [sluicelaw07_same.l0, if_neg (by omega)])
  | succ n ih =>
    intro j hj
    have hjl : j < l.length := by omega
    refine Ev.step2 (sameE_f (l[j]).f1 (hx _ (List.getElem_mem hjl))) (ih (j + 1) (by omega)) (fun k h => ?_)
    rw [sluicelaw07_same.l0, if_pos (by omega), if_pos (by omega), if_pos (by omega), rd101 l j hjl, if_pos rfl, h, Option.bind_some, if_pos rfl, wj j (by omega)]
theorem same_f (l : List S101) (hl : l.length < 9223372036854775807) (hx : ∀ x ∈ l, x.f1.length < 9223372036854775807) : Ev (fun k => sluicelaw07_same.f k l l) true := (same_l0 l hl hx l.length 0 (by omega)).same (fun k => by rw [sluicelaw07_same.f, if_pos rfl]; rfl)
/-! ### twin, vast -/
theorem cut_off (f : List S34) (m : S34) (h : f.length < 4398046511104) : (f ++ [m]).take (wrap64 (((f ++ [m]).length : Int) - 1)).toNat = f := by
  have e : (wrap64 (((f ++ [m]).length : Int) - 1)).toNat = f.length := by
    rw [List.length_append, List.length_singleton]
    unfold wrap64
    omega
  rw [e, List.take_left' rfl]
theorem off_ok {α : Type} (f : List α) (m : α) (h : f.length < 4398046511104) : 0 ≤ wrap64 (((f ++ [m]).length : Int) - 1) ∧ wrap64 (((f ++ [m]).length : Int) - 1) ≤ ((f ++ [m]).length : Int) := by
  rw [List.length_append, List.length_singleton]
  unfold wrap64
  omega
theorem twin_l0 (l : List S101) (hl : l.length ≤ 100000) (hx : ∀ x ∈ l, x.f1.length ≤ 100000) : ∀ (n j : Nat) (acc : List (Option S101)), l.length - j = n → acc.length + n ≤ 100000 → Ev (fun k => twinM.l0 k l acc (j : Int)) (acc ++ (l.drop j).map some ++ [none]) := by
  intro n
  induction n with
  | zero =>
    intro j acc hj ha
    rw [drop_nil (by omega)]
    refine Ev.base (fun k => ?_)
    have ho := off_ok acc (none : Option S101) (by omega)
    rw [twinM.l0, if_neg (by omega), if_pos (by omega), Option.bind_some, if_pos ho.1, if_pos ho.2, List.map_nil, List.append_nil]
  | succ n ih =>
    intro j acc hj ha
    have hjl : j < l.length := by omega
    have hf := hx _ (List.getElem_mem hjl)
    have ih' := ih (j + 1) (acc ++ [some l[j]]) (by omega) (by rw [List.length_append, List.length_singleton]; omega)
    rw [List.drop_eq_getElem_cons hjl, List.map_cons]
    rw [List.append_assoc acc, List.singleton_append] at ih'
    refine Ev.step ih' (fun k => ?_)
    have ho := off_ok (l[j]).f1 (⟨(⟨#[109, 97, 114, 107]⟩ : ByteArray), (⟨#[98, 101, 104, 105, 110, 100]⟩ : ByteArray)⟩ : S34) (by omega)
    rw [twinM.l0, if_pos (by omega), if_pos (by omega), rd101 l j hjl, if_pos (by simp only [List.length_nil]; omega), Option.bind_some, List.nil_append, if_pos (by omega), Option.bind_some, if_pos ho.1, if_pos ho.2, if_pos (by omega), cut_off _ _ (by omega), wj j (by omega)]
theorem twin_f (l : List S101) (hl : l.length ≤ 100000) (hx : ∀ x ∈ l, x.f1.length ≤ 100000) : Ev (fun k => twinM.f k l) (l.map some ++ [none]) := twin_l0 l hl hx l.length 0 [] (by omega) (by simp only [List.length_nil]; omega)
def tot : List S101 → Nat
  | [] => 0
  | x :: t => x.f1.length + 1 + tot t
theorem tot_le (l : List S101) : l.length ≤ tot l ∧ ∀ x ∈ l, x.f1.length ≤ tot l := by
  induction l with
  | nil => exact ⟨Nat.le_refl _, fun x hx => by cases hx⟩
  | cons y t ih =>
    refine ⟨by simp only [List.length_cons]; unfold tot; omega, fun x hx => ?_⟩
    unfold tot
    rcases List.mem_cons.1 hx with rfl | hx
    · omega
    · have := ih.2 x hx; omega
theorem vast_l0 (l : List S101) (hl : l.length ≤ 9223372036854775807) (hx : ∀ x ∈ l, x.f1.length ≤ 9223372036854775807) : ∀ (n j : Nat) (m : Int), l.length - j = n → m ≤ 100000 → -9223372036854775808 ≤ m → ∃ b, Ev (fun k => sluicelaw07_vast.l0 k l m (j : Int)) b ∧ (b = false → (tot (l.drop j) : Int) ≤ m) := by
  intro n
  induction n with
  | zero =>
    intro j m hj hm hm0
    rw [drop_nil (by omega)]
    refine ⟨decide (m < 0), Ev.base (fun k => by rw [sluicelaw07_vast.l0, if_neg (by omega)]), fun hb => ?_⟩
    have := of_decide_eq_false hb
    unfold tot
    omega
  | succ n ih =>
    intro j m hj hm hm0
    have hjl : j < l.length := by omega
    have hf := hx _ (List.getElem_mem hjl)
    by_cases hm1 : m ≥ 0
    · have hw : wrap64 ((wrap64 (m - 1)) - ((l[j]).f1.length : Int)) = m - 1 - ((l[j]).f1.length : Int) := by
        have h1 : wrap64 (m - 1) = m - 1 := by unfold wrap64; omega
        rw [h1]
        unfold wrap64
        omega
      obtain ⟨b, hb, ht⟩ := ih (j + 1) (m - 1 - ((l[j]).f1.length : Int)) (by omega) (by omega) (by omega)
      refine ⟨b, Ev.step hb (fun k => ?_), fun h => ?_⟩
      · rw [sluicelaw07_vast.l0, if_pos (by omega), if_pos hm1, if_pos (by omega), rd101 l j hjl, hw, wj j (by omega)]
      · have := ht h
        rw [List.drop_eq_getElem_cons hjl]
        unfold tot
        omega
    · refine ⟨decide (m < 0), Ev.base (fun k => by rw [sluicelaw07_vast.l0, if_pos (by omega), if_neg hm1]), fun hb => ?_⟩
      have := of_decide_eq_false hb
      omega
theorem vast_f (l : List S101) (hl : l.length ≤ 9223372036854775807) (hx : ∀ x ∈ l, x.f1.length ≤ 9223372036854775807) : ∃ b, Ev (fun k => sluicelaw07_vast.f k l) b ∧ (b = false → l.length ≤ 100000 ∧ ∀ x ∈ l, x.f1.length ≤ 100000) := by
  obtain ⟨b, hb, ht⟩ := vast_l0 l hl hx l.length 0 100000 (by omega) (by omega) (by omega)
  refine ⟨b, hb, fun h => ?_⟩
  have := ht h
  rw [List.drop_zero] at this
  obtain ⟨h1, h2⟩ := tot_le l
  exact ⟨by omega, fun x hx => by have := h2 x hx; omega⟩
/-! ### one list over another -/
def m1 (os : List S34) (e : S34) : S34 := if (wi e.f0 os).2 = true then ⟨e.f0, (wi e.f0 os).1⟩ else ⟨e.f0, e.f1⟩
def m2 (es : List S34) (o : S34) : Bool := !(wi o.f0 es).2
def mergeE (es os : List S34) : List S34 := es.map (m1 os) ++ os.filter (m2 es)
def sec (l1 : List S101) (s : S101) : S101 := ⟨s.f0, mergeE s.f1 (moreOf l1 (fi s.f0 l1 0)).f1⟩
def fresh (l0 : List S101) (s : S101) : Bool := decide (fi s.f0 l0 0 < 0)
def LayP (l0 l1 : List S101) : List S101 := l0.map (sec l1) ++ l1.filter (fresh l0)
theorem mergeE_len (es os : List S34) : (mergeE es os).length ≤ es.length + os.length := by
  unfold mergeE
  rw [List.length_append, List.length_map]
  have := List.length_filter_le (m2 es) os
  omega
theorem more_mem (l1 : List S101) (t : Int) (h : t < (l1.length : Int)) (n : Nat) (hx : ∀ x ∈ l1, x.f1.length ≤ n) : (moreOf l1 t).f1.length ≤ n := by
  unfold moreOf
  split
  · exact Nat.zero_le _
  · obtain ⟨m, rfl⟩ : ∃ m : Nat, t = (m : Int) := ⟨t.toNat, by omega⟩
    rw [rd101 l1 m (by omega)]
    exact hx _ (List.getElem_mem _)
section
variable {l0 l1 : List S101} (h0 : l0.length ≤ 100000) (h1 : l1.length ≤ 100000) (x0 : ∀ x ∈ l0, x.f1.length ≤ 100000) (x1 : ∀ x ∈ l1, x.f1.length ≤ 100000)
include h0 h1 x0 x1
theorem ref_l3 : ∀ (n j : Nat) (acc : List S101), l1.length - j = n → acc.length + n ≤ 1000000 → Ev (fun k => sluiceref07_Lay.l3 k l0 l1 acc (j : Int)) (acc ++ (l1.drop j).filter (fresh l0)) := by
  intro n
  induction n with
  | zero =>
    intro j acc hj ha
    rw [drop_nil (by omega)]
    exact Ev.base (fun k => by rw [sluiceref07_Lay.l3, if_neg (by omega), List.filter_nil, List.append_nil])
  | succ n ih =>
    intro j acc hj ha
    have hjl : j < l1.length := by omega
    have hf := x1 _ (List.getElem_mem hjl)
    rw [List.drop_eq_getElem_cons hjl]
    by_cases hq : fi (l1[j]).f0 l0 0 < 0
    · have ih' := ih (j + 1) (acc ++ [l1[j]]) (by omega) (by rw [List.length_append, List.length_singleton]; omega)
      rw [List.append_assoc, List.singleton_append] at ih'
      rw [List.filter_cons, if_pos (show fresh l0 l1[j] = true from decide_eq_true hq)]
      refine Ev.step2 (find_f l0 (l1[j]).f0 (by omega)) ih' (fun k h => ?_)
      rw [sluiceref07_Lay.l3, if_pos (by omega), if_pos (by omega), rd101 l1 j hjl, h, Option.bind_some, if_pos hq, if_pos (by simp only [List.length_nil]; omega), if_pos (by omega), List.nil_append, wj j (by omega)]
    · rw [List.filter_cons, if_neg (by unfold fresh; simpa using hq)]
      refine Ev.step2 (find_f l0 (l1[j]).f0 (by omega)) (ih (j + 1) acc (by omega) (by omega)) (fun k h => ?_)
      rw [sluiceref07_Lay.l3, if_pos (by omega), if_pos (by omega), rd101 l1 j hjl, h, Option.bind_some, if_neg hq, wj j (by omega)]
theorem ref_l2 (r acc : List S101) (i : Nat) (hi : i < l0.length) (on nm : ByteArray) (os : List S34) (hos : os.length ≤ 100000) (hacc : acc.length ≤ 1000000) : ∀ (n j : Nat) (es : List S34), os.length - j = n → es.length + n ≤ 1000000 → Ev (fun k => sluiceref07_Lay.l0 k l0 l1 (acc ++ [⟨nm, es ++ (os.drop j).filter (m2 (l0[i]).f1)⟩]) ((i + 1 : Nat) : Int)) r → Ev (fun k => sluiceref07_Lay.l2 k l0 l1 acc (i : Int) (j : Int) on os nm es) r := by
  intro n
  induction n with
  | zero =>
    intro j es hj he hn
    rw [drop_nil (by omega), List.filter_nil, List.append_nil] at hn
    exact Ev.step hn (fun k => by rw [sluiceref07_Lay.l2, if_neg (by omega), if_pos (by omega), wj i (by omega)])
  | succ n ih =>
    intro j es hj he hn
    have hjl : j < os.length := by omega
    have hf := x0 _ (List.getElem_mem hi)
    rw [List.drop_eq_getElem_cons hjl] at hn
    have hhas := has_f (l0[i]).f0 (l0[i]).f1 (os[j]).f0 (by omega)
    rcases hi_wi (os[j]).f0 (l0[i]).f1 _ 0 rfl with ⟨hh, hw⟩ | ⟨m, hm, hh, hw⟩
    · rw [List.drop_zero] at hh hw
      rw [List.filter_cons, if_pos (by unfold m2; rw [hw]; rfl)] at hn
      refine Ev.step2 hhas (ih (j + 1) (es ++ [os[j]]) (by omega) (by rw [List.length_append, List.length_singleton]; omega) (by rw [List.append_assoc, List.singleton_append]; exact hn)) (fun k h => ?_)
      rw [sluiceref07_Lay.l2, if_pos (by omega), if_pos (by omega), if_pos (by omega), if_pos (by omega), rd101 l0 i hi, rd34 os j hjl, h, Option.bind_some, hh, if_pos (by omega), if_pos (by omega), wj j (by omega)]
    · rw [List.drop_zero] at hh hw
      rw [List.filter_cons, if_neg (by unfold m2; rw [hw]; simp)] at hn
      refine Ev.step2 hhas (ih (j + 1) es (by omega) (by omega) hn) (fun k h => ?_)
      rw [sluiceref07_Lay.l2, if_pos (by omega), if_pos (by omega), if_pos (by omega), if_pos (by omega), rd101 l0 i hi, rd34 os j hjl, h, Option.bind_some, hh, if_neg (by omega), wj j (by omega)]
theorem ref_l1 (r acc : List S101) (i : Nat) (hi : i < l0.length) (on nm : ByteArray) (os : List S34) (hos : os.length ≤ 100000) (hacc : acc.length ≤ 1000000) : ∀ (n j : Nat) (es : List S34), (l0[i]).f1.length - j = n → es.length + n ≤ 100000 → Ev (fun k => sluiceref07_Lay.l0 k l0 l1 (acc ++ [⟨nm, es ++ ((l0[i]).f1.drop j).map (m1 os) ++ os.filter (m2 (l0[i]).f1)⟩]) ((i + 1 : Nat) : Int)) r → Ev (fun k => sluiceref07_Lay.l1 k l0 l1 acc (i : Int) (j : Int) on os nm es) r := by
  intro n
  induction n with
  | zero =>
    intro j es hj he hn
    rw [drop_nil (by omega), List.map_nil, List.append_nil] at hn
    refine Ev.step (ref_l2 h0 h1 x0 x1 r acc i hi on nm os hos hacc os.length 0 es (by omega) (by omega) hn) (fun k => ?_)
    rw [sluiceref07_Lay.l1, if_pos (by omega), if_pos (by omega), rd101 l0 i hi, if_neg (by omega)]
    rfl
  | succ n ih =>
    intro j es hj he hn
    have hjl : j < (l0[i]).f1.length := by omega
    have hf := x0 _ (List.getElem_mem hi)
    rw [List.drop_eq_getElem_cons hjl, List.map_cons] at hn
    have hhas := has_f on os ((l0[i]).f1[j]).f0 (by omega)
    have hn' : Ev (fun k => sluiceref07_Lay.l0 k l0 l1 (acc ++ [⟨nm, (es ++ [m1 os ((l0[i]).f1[j])]) ++ ((l0[i]).f1.drop (j + 1)).map (m1 os) ++ os.filter (m2 (l0[i]).f1)⟩]) ((i + 1 : Nat) : Int)) r := by
      rw [List.append_assoc es, List.singleton_append]
      exact hn
    refine Ev.step2 hhas (ih (j + 1) _ (by omega) (by rw [List.length_append, List.length_singleton]; omega) hn') (fun k h => ?_)
    rcases hi_wi ((l0[i]).f1[j]).f0 os _ 0 rfl with ⟨hh, hw⟩ | ⟨m, hm, hh, hw⟩
    · rw [List.drop_zero] at hh hw
      rw [sluiceref07_Lay.l1, if_pos (by omega), if_pos (by omega), rd101 l0 i hi, if_pos (by omega), if_pos (by omega), rd34 _ j hjl, h, Option.bind_some, hh, if_neg (by omega), if_pos (by omega), wj j (by omega)]
      unfold m1
      rw [hw, if_neg (by simp)]
    · rw [List.drop_zero] at hh hw
      rw [sluiceref07_Lay.l1, if_pos (by omega), if_pos (by omega), rd101 l0 i hi, if_pos (by omega), if_pos (by omega), rd34 _ j hjl, h, Option.bind_some, hh, if_pos (by omega), if_pos (by omega), if_pos (by omega), if_pos (by omega), wj j (by omega)]
      unfold m1
      rw [hw, if_pos rfl]
theorem ref_l0 : ∀ (n i : Nat) (acc : List S101), l0.length - i = n → acc.length + n ≤ 100000 → Ev (fun k => sluiceref07_Lay.l0 k l0 l1 acc (i : Int)) (acc ++ (l0.drop i).map (sec l1) ++ l1.filter (fresh l0)) := by
  intro n
  induction n with
  | zero =>
    intro i acc hi ha
    rw [drop_nil (by omega), List.map_nil, List.append_nil]
    exact Ev.step (ref_l3 h0 h1 x0 x1 l1.length 0 acc (by omega) (by omega)) (fun k => by rw [sluiceref07_Lay.l0, if_neg (by omega)]; rfl)
  | succ n ih =>
    intro i acc hi ha
    have hil : i < l0.length := by omega
    rw [List.drop_eq_getElem_cons hil, List.map_cons]
    have ih' := ih (i + 1) (acc ++ [sec l1 l0[i]]) (by omega) (by rw [List.length_append, List.length_singleton]; omega)
    rw [List.append_assoc acc, List.singleton_append] at ih'
    have hlt : fi (l0[i]).f0 l1 0 < (l1.length : Int) := by have := fi_lt (l0[i]).f0 l1 0; omega
    have hm := more_mem l1 _ hlt 100000 x1
    have hf := x0 _ (List.getElem_mem hil)
    refine Ev.step2 (find_f l1 (l0[i]).f0 (by omega)) (ref_l1 h0 h1 x0 x1 _ acc i hil (moreOf l1 (fi (l0[i]).f0 l1 0)).f0 (l0[i]).f0 (moreOf l1 (fi (l0[i]).f0 l1 0)).f1 hm (by omega) _ 0 [] rfl (by simp only [List.length_nil]; omega) ih') (fun k h => ?_)
    rw [sluiceref07_Lay.l0, if_pos (by omega), if_pos (by omega), rd101 l0 i hil, h, Option.bind_some, if_pos hlt]
    rfl
theorem ref_f : Ev (fun k => sluiceref07_Lay.f k l0 l1) (LayP l0 l1) := ref_l0 h0 h1 x0 x1 l0.length 0 [] (by omega) (by simp only [List.length_nil]; omega)
theorem ros_l3 : ∀ (n j : Nat) (acc : List S101), l1.length - j = n → acc.length + n ≤ 1000000 → Ev (fun k => roster_Lay.l3 k l0 acc l1 (l1.length : Int) (j : Int)) (acc ++ (l1.drop j).filter (fresh l0)) := by
  intro n
  induction n with
  | zero =>
    intro j acc hj ha
    rw [drop_nil (by omega)]
    exact Ev.base (fun k => by rw [roster_Lay.l3, if_neg (by omega), List.filter_nil, List.append_nil])
  | succ n ih =>
    intro j acc hj ha
    have hjl : j < l1.length := by omega
    have hf := x1 _ (List.getElem_mem hjl)
    rw [List.drop_eq_getElem_cons hjl]
    by_cases hq : fi (l1[j]).f0 l0 0 < 0
    · have ih' := ih (j + 1) (acc ++ [l1[j]]) (by omega) (by rw [List.length_append, List.length_singleton]; omega)
      rw [List.append_assoc, List.singleton_append] at ih'
      rw [List.filter_cons, if_pos (show fresh l0 l1[j] = true from decide_eq_true hq)]
      refine Ev.step2 (at_f l0 (l1[j]).f0 (by omega)) ih' (fun k h => ?_)
      rw [roster_Lay.l3, if_pos (by omega), if_pos (by omega), if_pos (by omega), rd101 l1 j hjl, h, Option.bind_some, if_pos hq, if_pos (by simp only [List.length_nil]; omega), if_pos (by omega), List.nil_append, wj j (by omega)]
    · rw [List.filter_cons, if_neg (by unfold fresh; simpa using hq)]
      refine Ev.step2 (at_f l0 (l1[j]).f0 (by omega)) (ih (j + 1) acc (by omega) (by omega)) (fun k h => ?_)
      rw [roster_Lay.l3, if_pos (by omega), if_pos (by omega), if_pos (by omega), rd101 l1 j hjl, h, Option.bind_some, if_neg hq, wj j (by omega)]
theorem ros_l2 (r acc : List S101) (i : Nat) (hi : i < l0.length) (sn nm : ByteArray) (ss os : List S34) (hss : ss.length ≤ 100000) (hos : os.length ≤ 100000) (hacc : acc.length ≤ 1000000) : ∀ (n j : Nat) (es : List S34), os.length - j = n → es.length + n ≤ 1000000 → Ev (fun k => roster_Lay.l0 k l0 l1 (acc ++ [⟨nm, es ++ (os.drop j).filter (m2 ss)⟩]) l0 (l0.length : Int) ((i + 1 : Nat) : Int)) r → Ev (fun k => roster_Lay.l2 k l0 l1 acc l0 (l0.length : Int) (i : Int) os (os.length : Int) (j : Int) sn ss nm es) r := by
  intro n
  induction n with
  | zero =>
    intro j es hj he hn
    rw [drop_nil (by omega), List.filter_nil, List.append_nil] at hn
    exact Ev.step hn (fun k => by rw [roster_Lay.l2, if_neg (by omega), if_pos (by omega), wj i (by omega)])
  | succ n ih =>
    intro j es hj he hn
    have hjl : j < os.length := by omega
    rw [List.drop_eq_getElem_cons hjl] at hn
    have hhas := within_f sn ss (os[j]).f0 (by omega)
    by_cases hw : (wi (os[j]).f0 ss).2 = true
    · rw [List.filter_cons, if_neg (by unfold m2; rw [hw]; simp)] at hn
      refine Ev.step2 hhas (ih (j + 1) es (by omega) (by omega) hn) (fun k h => ?_)
      rw [roster_Lay.l2, if_pos (by omega), if_pos (by omega), if_pos (by omega), rd34 os j hjl, h, Option.bind_some, if_pos hw, wj j (by omega)]
    · rw [List.filter_cons, if_pos (show m2 ss os[j] = true by unfold m2; simpa using hw)] at hn
      refine Ev.step2 hhas (ih (j + 1) (es ++ [os[j]]) (by omega) (by rw [List.length_append, List.length_singleton]; omega) (by rw [List.append_assoc, List.singleton_append]; exact hn)) (fun k h => ?_)
      rw [roster_Lay.l2, if_pos (by omega), if_pos (by omega), if_pos (by omega), rd34 os j hjl, h, Option.bind_some, if_neg hw, if_pos (by omega), wj j (by omega)]
theorem ros_l1 (r acc : List S101) (i : Nat) (hi : i < l0.length) (sn on nm : ByteArray) (ss os : List S34) (hss : ss.length ≤ 100000) (hos : os.length ≤ 100000) (hacc : acc.length ≤ 1000000) : ∀ (n j : Nat) (es : List S34), ss.length - j = n → es.length + n ≤ 100000 → Ev (fun k => roster_Lay.l0 k l0 l1 (acc ++ [⟨nm, es ++ (ss.drop j).map (m1 os) ++ os.filter (m2 ss)⟩]) l0 (l0.length : Int) ((i + 1 : Nat) : Int)) r → Ev (fun k => roster_Lay.l1 k l0 l1 acc l0 (l0.length : Int) (i : Int) ss (ss.length : Int) (j : Int) sn ss nm es on os) r := by
  intro n
  induction n with
  | zero =>
    intro j es hj he hn
    rw [drop_nil (by omega), List.map_nil, List.append_nil] at hn
    refine Ev.step (ros_l2 h0 h1 x0 x1 r acc i hi sn nm ss os hss hos hacc os.length 0 es (by omega) (by omega) hn) (fun k => ?_)
    rw [roster_Lay.l1, if_neg (by omega)]
    rfl
  | succ n ih =>
    intro j es hj he hn
    have hjl : j < ss.length := by omega
    rw [List.drop_eq_getElem_cons hjl, List.map_cons] at hn
    have hhas := within_f on os (ss[j]).f0 (by omega)
    have hn' : Ev (fun k => roster_Lay.l0 k l0 l1 (acc ++ [⟨nm, (es ++ [m1 os (ss[j])]) ++ (ss.drop (j + 1)).map (m1 os) ++ os.filter (m2 ss)⟩]) l0 (l0.length : Int) ((i + 1 : Nat) : Int)) r := by
      rw [List.append_assoc es, List.singleton_append]
      exact hn
    refine Ev.step2 hhas (ih (j + 1) _ (by omega) (by rw [List.length_append, List.length_singleton]; omega) hn') (fun k h => ?_)
    by_cases hw : (wi (ss[j]).f0 os).2 = true
    · rw [roster_Lay.l1, if_pos (by omega), if_pos (by omega), if_pos (by omega), rd34 _ j hjl, h, Option.bind_some, if_pos hw, if_pos (by omega), wj j (by omega)]
      unfold m1
      rw [if_pos hw]
    · rw [roster_Lay.l1, if_pos (by omega), if_pos (by omega), if_pos (by omega), rd34 _ j hjl, h, Option.bind_some, if_neg hw, if_pos (by omega), wj j (by omega)]
      unfold m1
      rw [if_neg hw]
theorem ros_l0 : ∀ (n i : Nat) (acc : List S101), l0.length - i = n → acc.length + n ≤ 100000 → Ev (fun k => roster_Lay.l0 k l0 l1 acc l0 (l0.length : Int) (i : Int)) (acc ++ (l0.drop i).map (sec l1) ++ l1.filter (fresh l0)) := by
  intro n
  induction n with
  | zero =>
    intro i acc hi ha
    rw [drop_nil (by omega), List.map_nil, List.append_nil]
    exact Ev.step (ros_l3 h0 h1 x0 x1 l1.length 0 acc (by omega) (by omega)) (fun k => by rw [roster_Lay.l0, if_neg (by omega)]; rfl)
  | succ n ih =>
    intro i acc hi ha
    have hil : i < l0.length := by omega
    rw [List.drop_eq_getElem_cons hil, List.map_cons]
    have ih' := ih (i + 1) (acc ++ [sec l1 l0[i]]) (by omega) (by rw [List.length_append, List.length_singleton]; omega)
    rw [List.append_assoc acc, List.singleton_append] at ih'
    have hlt : fi (l0[i]).f0 l1 0 < (l1.length : Int) := by have := fi_lt (l0[i]).f0 l1 0; omega
    have hm := more_mem l1 _ hlt 100000 x1
    have hf := x0 _ (List.getElem_mem hil)
    refine Ev.step2 (at_f l1 (l0[i]).f0 (by omega)) (ros_l1 h0 h1 x0 x1 _ acc i hil (l0[i]).f0 (moreOf l1 (fi (l0[i]).f0 l1 0)).f0 (l0[i]).f0 (l0[i]).f1 (moreOf l1 (fi (l0[i]).f0 l1 0)).f1 hf hm (by omega) _ 0 [] rfl (by simp only [List.length_nil]; omega) ih') (fun k h => ?_)
    rw [roster_Lay.l0, if_pos (by omega), if_pos (by omega), if_pos (by omega), rd101 l0 i hil, h, Option.bind_some, if_pos hlt]
    rfl
theorem ros_f : Ev (fun k => roster_Lay.f k l0 l1) (LayP l0 l1) := ros_l0 h0 h1 x0 x1 l0.length 0 [] (by omega) (by simp only [List.length_nil]; omega)
theorem lay_small : (LayP l0 l1).length ≤ 200000 ∧ ∀ x ∈ LayP l0 l1, x.f1.length ≤ 200000 := by
  unfold LayP
  refine ⟨?_, fun x hx => ?_⟩
  · rw [List.length_append, List.length_map]
    have := List.length_filter_le (fresh l0) l1
    omega
  · rcases List.mem_append.1 hx with hx | hx
    · obtain ⟨s, hs, rfl⟩ := List.mem_map.1 hx
      have h2 := x0 s hs
      have hlt : fi s.f0 l1 0 < (l1.length : Int) := by have := fi_lt s.f0 l1 0; omega
      have hm := more_mem l1 _ hlt 100000 x1
      have := mergeE_len s.f1 (moreOf l1 (fi s.f0 l1 0)).f1
      show (mergeE s.f1 (moreOf l1 (fi s.f0 l1 0)).f1).length ≤ 200000
      omega
    · have := x1 x (List.mem_filter.1 hx).1
      omega
end
/-- All that the law's walk asks. -/
theorem pure_all (l0 l1 : List S101) (hl0 : l0.length ≤ 9223372036854775807) (hl1 : l1.length ≤ 9223372036854775807) (hx0 : ∀ x ∈ l0, x.f1.length ≤ 9223372036854775807) (hx1 : ∀ x ∈ l1, x.f1.length ≤ 9223372036854775807) :
    ∃ (k : Nat) (b0 b1 : Bool), sluicelaw07_vast.f k l0 = some b0 ∧ sluicelaw07_vast.f k l1 = some b1 ∧ (b0 = false → b1 = false → Facts k l0 l1 (LayP l0 l1)) := by
  obtain ⟨b0, ⟨K0, e0⟩, s0⟩ := vast_f l0 hl0 hx0
  obtain ⟨b1, ⟨K1, e1⟩, s1⟩ := vast_f l1 hl1 hx1
  by_cases hb : b0 = false ∧ b1 = false
  · obtain ⟨h0, x0⟩ := s0 hb.1
    obtain ⟨h1, x1⟩ := s1 hb.2
    obtain ⟨L, y⟩ := lay_small h0 h1 x0 x1
    obtain ⟨K2, e2⟩ := twin_f l0 h0 x0
    obtain ⟨K3, e3⟩ := twin_f l1 h1 x1
    obtain ⟨K4, e4⟩ := ref_f h0 h1 x0 x1
    obtain ⟨K5, e5⟩ := ros_f h0 h1 x0 x1
    obtain ⟨K6, e6⟩ := same_f (LayP l0 l1) (by omega) (fun x hx => by have := y x hx; omega)
    obtain ⟨K7, e7⟩ := same_f l0 (by omega) (fun x hx => by have := x0 x hx; omega)
    obtain ⟨K8, e8⟩ := same_f l1 (by omega) (fun x hx => by have := x1 x hx; omega)
    exact ⟨K0 + K1 + K2 + K3 + K4 + K5 + K6 + K7 + K8, b0, b1, e0 _ (by omega), e1 _ (by omega), fun _ _ => ⟨e2 _ (by omega), e3 _ (by omega), e4 _ (by omega), e5 _ (by omega), e6 _ (by omega), e7 _ (by omega), e8 _ (by omega), by omega, by omega, by omega, fun x hx => by have := y x hx; omega⟩⟩
  · exact ⟨K0 + K1, b0, b1, e0 _ (by omega), e1 _ (by omega), fun h0 h1 => absurd ⟨h0, h1⟩ hb⟩
end Go.Proofs.Ytnmhfcfojbfikaa.QRosterLays
