/- LoomChecks: Plain RunQ RunP Nan Step. Conditions: as each theorem says. -/
import Derived.ChangeKeysEq
import Derived.Laws.Externs
import Derived.Test.YtcpcpmojallcdaaLcQ
namespace Go.Proofs.Ytcpcpmojallcdaa.QLoomChecks
open Go.RowKit Go.Proofs.YtcpcpmojallcdaaW.PrintWords Go.Proofs.YtcpcpmojallcdaaW.PrintLast Go.Proofs.YtcpcpmojallcdaaW.PrintMore
set_option linter.unusedVariables false
set_option linter.unusedSimpArgs false
section Plain
/-- Does a place stand as one run from f on says? -/
def fitsT (ks : List Int) (f i : Nat) : Bool := (ks.getD i 0 == 4) == (decide (f ≤ i) && decide (i < f + 6))
/-- Where the one run of six tallies begins (-1: there is none), and whether they stand so. -/
def runP (ks : List Int) : Int × Bool := match ks.findIdx? (· == 4) with
  | none => (-1, true)
  | some f => if (List.range 8).all (fitsT ks f) then ((f : Int), decide (f + 6 ≤ 8)) else (-1, false)
def plainB (k : Int) : Bool := decide (1 ≤ k) && decide (k ≤ 3)
def idxT (ks : List Int) : Int := match ks.findIdx? (· == 4) with
  | none => -1
  | some f => (f : Int)
theorem runP_none {ks : List Int} (h : ks.findIdx? (· == 4) = none) : runP ks = (-1, true) := by
  unfold runP
  rw [h]
theorem runP_some {ks : List Int} {f : Nat} (h : ks.findIdx? (· == 4) = some f) (ha : ∀ i, i < 8 → fitsT ks f i = true) : runP ks = ((f : Int), decide (f + 6 ≤ 8)) := by
  unfold runP
  rw [h]
  show (if (List.range 8).all (fitsT ks f) then _ else _) = _
  rw [if_pos (List.all_eq_true.2 (fun i hi => ha i (List.mem_range.1 hi)))]
theorem runP_bad {ks : List Int} {f i : Nat} (h : ks.findIdx? (· == 4) = some f) (hi : i < 8) (ha : fitsT ks f i = false) : runP ks = (-1, false) := by
  unfold runP
  rw [h]
  show (if (List.range 8).all (fitsT ks f) then _ else _) = _
  rw [if_neg (fun hh => by have := List.all_eq_true.1 hh i (List.mem_range.2 hi); rw [ha] at this; cases this)]
theorem find_some (ks : List Int) (f : Nat) (hf : f < ks.length) (h1 : ks.getD f 0 = 4) (h2 : ∀ j, j < f → ks.getD j 0 ≠ 4) : ks.findIdx? (· == 4) = some f := by
  rw [List.findIdx?_eq_some_iff_getElem]
  refine ⟨hf, ?_, fun j hj => ?_⟩
  · have : ks[f] = 4 := by rw [List.getD_eq_getElem?_getD, List.getElem?_eq_getElem hf] at h1; exact h1
    simp [this]
  have h := h2 j hj
  rw [List.getD_eq_getElem?_getD, List.getElem?_eq_getElem (by omega)] at h
  simpa using h
theorem find_none (ks : List Int) (h : ∀ j, j < ks.length → ks.getD j 0 ≠ 4) : ks.findIdx? (· == 4) = none := by
  rw [List.findIdx?_eq_none_iff]
  intro x hx
  obtain ⟨j, hj, rfl⟩ := List.getElem_of_mem hx
  have := h j hj
  rw [List.getD_eq_getElem?_getD, List.getElem?_eq_getElem hj] at this
  simpa using this
/-- The document's way: what is known of the run behind i places. -/
def RQ (ks : List Int) (fr : Int) (n i : Nat) : Prop := (fr = -1 ∧ n = 0 ∧ ∀ j, j < i → ks.getD j 0 ≠ 4) ∨ ∃ f : Nat, fr = (f : Int) ∧ 1 ≤ n ∧ f + n ≤ i ∧ ∀ j, j < i → (ks.getD j 0 = 4 ↔ (f ≤ j ∧ j < f + n))
theorem RQ.zero (ks : List Int) : RQ ks (-1) 0 0 := .inl ⟨rfl, rfl, fun j hj => by omega⟩
theorem RQ.le {ks : List Int} {fr : Int} {n i : Nat} (h : RQ ks fr n i) (hi : i < 8) : n ≤ 8 := by
  rcases h with ⟨h1, h2, h3⟩ | ⟨f, h1, h2, h3, h4⟩ <;> omega
theorem RQ.fr_le {ks : List Int} {fr : Int} {n i : Nat} (h : RQ ks fr n i) (hf : ¬ fr < 0) : fr + n ≤ i := by
  rcases h with ⟨h1, h2, h3⟩ | ⟨f, h1, h2, h3, h4⟩ <;> omega
theorem RQ.skip {ks : List Int} {fr : Int} {n i : Nat} (h : RQ ks fr n i) (hk : ks.getD i 0 ≠ 4) : RQ ks fr n (i + 1) := by
  rcases h with ⟨h1, h2, h3⟩ | ⟨f, h1, h2, h3, h4⟩
  · refine .inl ⟨h1, h2, fun j hj => ?_⟩
    by_cases e : j = i
    · subst e; exact hk
    exact h3 j (by omega)
  refine .inr ⟨f, h1, h2, by omega, fun j hj => ?_⟩
  by_cases e : j = i
  · subst e
    exact ⟨fun h => absurd h hk, fun h => by omega⟩
  exact h4 j (by omega)
theorem RQ.first {ks : List Int} {fr : Int} {n i : Nat} (h : RQ ks fr n i) (hf : fr < 0) (hk : ks.getD i 0 = 4) : n = 0 ∧ RQ ks (i : Int) 1 (i + 1) := by
  rcases h with ⟨h1, h2, h3⟩ | ⟨f, h1, h2, h3, h4⟩
  · refine ⟨h2, .inr ⟨i, rfl, by omega, by omega, fun j hj => ?_⟩⟩
    by_cases e : j = i
    · subst e
      exact ⟨fun _ => by omega, fun _ => hk⟩
    exact ⟨fun h => absurd h (h3 j (by omega)), fun h => by omega⟩
  omega
theorem RQ.next {ks : List Int} {fr : Int} {n i : Nat} (h : RQ ks fr n i) (hf : ¬ fr < 0) (hk : ks.getD i 0 = 4) (hi : (i : Int) = fr + n) : RQ ks fr (n + 1) (i + 1) := by
  rcases h with ⟨h1, h2, h3⟩ | ⟨f, h1, h2, h3, h4⟩
  · omega
  refine .inr ⟨f, h1, by omega, by omega, fun j hj => ?_⟩
  by_cases e : j = i
  · subst e
    exact ⟨fun _ => by omega, fun _ => hk⟩
  have := h4 j (by omega)
  omega
theorem fits_false {ks : List Int} {f i : Nat} (h : ¬ (ks.getD i 0 = 4 ↔ (f ≤ i ∧ i < f + 6))) : fitsT ks f i = false := by
  unfold fitsT
  by_cases a : ks.getD i 0 = 4 <;> by_cases b : f ≤ i <;> by_cases c : i < f + 6 <;> simp_all
theorem fits_true {ks : List Int} {f i : Nat} (h : ks.getD i 0 = 4 ↔ (f ≤ i ∧ i < f + 6)) : fitsT ks f i = true := by
  unfold fitsT
  have e1 : (ks.getD i 0 == 4) = decide (f ≤ i ∧ i < f + 6) := by
    rw [← decide_eq_decide.2 h]
    rfl
  rw [e1, Bool.decide_and]
  exact beq_self_eq_true _
theorem RQ.bad {ks : List Int} {fr : Int} {n i : Nat} (h : RQ ks fr n i) (hf : ¬ fr < 0) (hk : ks.getD i 0 = 4) (hi : ¬ (i : Int) = fr + n) (h8 : ks.length = 8) (hi8 : i < 8) : (runP ks).2 = false := by
  rcases h with ⟨h1, h2, h3⟩ | ⟨f, h1, h2, h3, h4⟩
  · omega
  have hF := find_some ks f (by omega) ((h4 f (by omega)).2 (by omega)) (fun j hj h => by have := (h4 j (by omega)).1 h; omega)
  by_cases c : n < 6
  · rw [runP_bad (i := f + n) hF (by omega) (fits_false (fun h => by have h5 := h4 (f + n) (by omega); have := h5.1 (h.2 (by omega)); omega))]
  rw [runP_bad (i := i) hF hi8 (fits_false (fun h => by have := h.1 hk; omega))]
theorem RQ.done {ks : List Int} {fr : Int} {n : Nat} (h : RQ ks fr n 8) (h8 : ks.length = 8) : (runP ks).2 = (decide (n = 0) || decide (n = 6)) ∧ ((runP ks).2 = true → fr = (runP ks).1) := by
  rcases h with ⟨h1, h2, h3⟩ | ⟨f, h1, h2, h3, h4⟩
  · rw [runP_none (find_none ks (fun j hj => h3 j (by omega)))]
    subst h1 h2
    exact ⟨rfl, fun _ => rfl⟩
  have hF := find_some ks f (by omega) ((h4 f (by omega)).2 (by omega)) (fun j hj h => by have := (h4 j (by omega)).1 h; omega)
  have e0 : decide (n = 0) = false := decide_eq_false (by omega)
  rw [e0, Bool.false_or]
  by_cases c : n = 6
  · rw [runP_some hF (fun i hi => fits_true (by have := h4 i hi; omega)), decide_eq_true c, decide_eq_true (by omega)]
    exact ⟨rfl, fun _ => h1⟩
  rw [decide_eq_false c]
  by_cases d : n < 6
  · by_cases g : f + n = 8
    · rw [runP_some hF (fun i hi => fits_true (by have := h4 i hi; omega)), decide_eq_false (by omega)]
      exact ⟨rfl, fun h => by cases h⟩
    rw [runP_bad (i := f + n) hF (by omega) (fits_false (fun h => by have h5 := h4 (f + n) (by omega); have := h5.1 (h.2 (by omega)); omega))]
    exact ⟨rfl, fun h => by cases h⟩
  rw [runP_bad (i := f + 6) hF (by omega) (fits_false (fun h => by have h5 := h4 (f + 6) (by omega); have := h.1 (h5.2 (by omega)); omega))]
  exact ⟨rfl, fun h => by cases h⟩
end Plain
section RunQ
theorem k8_cell {w : World} {g : Nat} {k0 k1 k2 k3 k4 k5 k6 k7 : Int} {t : TypeId} (h : w.heap[g]? = some (.cells #[.int .i64 k0, .int .i64 k1, .int .i64 k2, .int .i64 k3, .int .i64 k4, .int .i64 k5, .int .i64 k6, .int .i64 k7] t (0, 0))) (i : Nat) (hi : i < 8) : w.cell? ⟨g, i, none⟩ = some (.int .i64 ([k0, k1, k2, k3, k4, k5, k6, k7].getD i 0)) := by
  rw [blk_cell h i]
  have : i = 0 ∨ i = 1 ∨ i = 2 ∨ i = 3 ∨ i = 4 ∨ i = 5 ∨ i = 6 ∨ i = 7 := by omega
  rcases this with rfl | rfl | rfl | rfl | rfl | rfl | rfl | rfl <;> rfl
set_option maxHeartbeats 8000000 in
set_option maxRecDepth 100000 in
theorem runQR (k0 k1 k2 k3 k4 k5 k6 k7 : Int) (w : World) :
    Calls Try.prog 25 #[.agg #[.int .i64 k0, .int .i64 k1, .int .i64 k2, .int .i64 k3, .int .i64 k4, .int .i64 k5, .int .i64 k6, .int .i64 k7]] w fun e w' => ∃ r : Int, e = .returned (.tuple #[.int .i64 r, .bool (runP [k0, k1, k2, k3, k4, k5, k6, k7]).2]) ∧ ((runP [k0, k1, k2, k3, k4, k5, k6, k7]).2 = true → r = (runP [k0, k1, k2, k3, k4, k5, k6, k7]).1) ∧ Below w.heap.size w w' := by
  have HE := Aside0.mk (heap_alloc_new w (.cells #[.int .i64 k0, .int .i64 k1, .int .i64 k2, .int .i64 k3, .int .i64 k4, .int .i64 k5, .int .i64 k6, .int .i64 k7] 23))
  have HB := Aside0.mk (below_alloc (Below.refl w.heap.size w) (.cells #[.int .i64 k0, .int .i64 k1, .int .i64 k2, .int .i64 k3, .int .i64 k4, .int .i64 k5, .int .i64 k6, .int .i64 k7] 23))
  obtain ⟨L, hL⟩ : ∃ L, L = [k0, k1, k2, k3, k4, k5, k6, k7] := ⟨_, rfl⟩
  rw [← hL]
  have HL := Aside0.mk hL
  have H8 := Aside0.mk (show L.length = 8 by rw [hL]; rfl)
  clear hL
  go_enter Try.func25, Try.ntmps25
  go_wp2
  go_loopg [4, 5, 6] 8 (fun kq v4 v5 v6 w' => ∃ (fr : Int) (n i : Nat), v4 = .int .i64 fr ∧ v5 = .int .i64 (n : Int) ∧ v6 = .int .i64 (i : Int) ∧ Aside0 (kq + i = 8) ∧ Aside0 (RQ L fr n i) ∧ Aside0 (w'.heap[w.heap.size]? = some (.cells #[.int .i64 k0, .int .i64 k1, .int .i64 k2, .int .i64 k3, .int .i64 k4, .int .i64 k5, .int .i64 k6, .int .i64 k7] 23 (0, 0))) ∧ Aside0 (Below w.heap.size w w'))
  case atStart => exact ⟨-1, 0, 0, rfl, rfl, rfl, ⟨rfl⟩, ⟨RQ.zero _⟩, HE, HB⟩
  case round =>
    clear HE HB
    obtain ⟨fr, n, i, rfl, rfl, rfl, HI, HQ, HE, HB⟩ := hrel
    by_cases h1 : i < 8
    · have c1 : decide ((i : Int) < 8) = true := decide_eq_true (by omega)
      have H1 := Aside0.mk h1
      obtain ⟨v, hv⟩ : ∃ v, v = L.getD i 0 := ⟨_, rfl⟩
      have hcell := k8_cell HE.out i h1
      rw [← HL.out, ← hv] at hcell
      have HV := Aside0.mk hv
      have hq8 := eq_true h1
      have hp8 := eq_true (show 0 ≤ (i : Int) by omega)
      have hq9 := eq_true (show (i : Int) < 8 by omega)
      have hwr : wrap64 ((i : Int) + 1) = ((i + 1 : Nat) : Int) := by
        unfold wrap64
        omega
      have HWR := Aside0.mk hwr
      clear h1 hv hwr
      obtain ⟨k1, rfl⟩ : ∃ k1, gk = k1 + 1 := ⟨gk - 1, by have := HI.out; have := H1.out; omega⟩
      by_cases h2 : v = 4
      · have c2 : (v == 4) = true := beq_iff_eq.mpr h2
        have H2 := Aside0.mk h2
        clear h2
        have hn8 : n ≤ 8 := HQ.out.le H1.out
        have hwn : wrap64 ((n : Int) + 1) = ((n + 1 : Nat) : Int) := by
          unfold wrap64
          omega
        have HWN := Aside0.mk hwn
        clear hwn hn8
        by_cases h3 : fr < 0
        · have c3 : decide (fr < 0) = true := decide_eq_true h3
          have hq := HQ.out.first h3 (by rw [← HV.out]; exact H2.out)
          have c4 : ((i : Int) != wrap64 ((i : Int) + (n : Int))) = false := by
            rw [hq.1]
            have := H1.out
            have e : wrap64 ((i : Int) + ((0 : Nat) : Int)) = (i : Int) := by
              unfold wrap64
              omega
            rw [e]
            exact bne_self_eq_false _
          have HQ2 := Aside0.mk hq
          clear h3 hq
          go_wp2
          rw [HWR.out, HWN.out]
          go_roundg k1
          case measure => omega
          case rel => exact ⟨(i : Int), n + 1, i + 1, rfl, rfl, rfl, ⟨by have := HI.out; omega⟩, ⟨by rw [HQ2.out.1]; exact HQ2.out.2⟩, HE, HB⟩
        have c3 : decide (fr < 0) = false := decide_eq_false h3
        have hfr := HQ.out.fr_le h3
        by_cases h4 : (i : Int) = fr + (n : Int)
        · have c4 : ((i : Int) != wrap64 (fr + (n : Int))) = false := by
            have := H1.out
            have e : wrap64 (fr + (n : Int)) = (i : Int) := by
              unfold wrap64
              omega
            rw [e]
            exact bne_self_eq_false _
          have HQ2 := Aside0.mk (HQ.out.next h3 (by rw [← HV.out]; exact H2.out) h4)
          clear h3 h4 hfr
          go_wp2
          rw [HWR.out, HWN.out]
          go_roundg k1
          case measure => omega
          case rel => exact ⟨fr, n + 1, i + 1, rfl, rfl, rfl, ⟨by have := HI.out; omega⟩, HQ2, HE, HB⟩
        have c4 : ((i : Int) != wrap64 (fr + (n : Int))) = true := by
          have := H1.out
          have e : wrap64 (fr + (n : Int)) = fr + (n : Int) := by
            unfold wrap64
            omega
          rw [e]
          exact bne_iff_ne.mpr h4
        have HQ2 := Aside0.mk (HQ.out.bad h3 (by rw [← HV.out]; exact H2.out) h4 H8.out H1.out)
        clear h3 h4 hfr
        go_wp2
        go_ret2
        have h2 := HQ2.out
        exact ⟨-1, by (rw [h2]; rfl), fun h => by rw [h2] at h; exact Bool.noConfusion h, HB.out⟩
      have c2 : (v == 4) = false := beq_eq_false_iff_ne.mpr h2
      have H2 := Aside0.mk h2
      clear h2
      go_wp2
      rw [HWR.out]
      go_roundg k1
      case measure => omega
      case rel => exact ⟨fr, n, i + 1, rfl, rfl, rfl, ⟨by have := HI.out; omega⟩, ⟨HQ.out.skip (by rw [← HV.out]; exact H2.out)⟩, HE, HB⟩
    have c1 : decide ((i : Int) < 8) = false := decide_eq_false (by omega)
    obtain rfl : i = 8 := by have := HI.out; omega
    clear h1
    have HD := Aside0.mk (RQ.done HQ.out H8.out)
    by_cases h2 : n = 0
    · subst h2
      go_wp2
      go_ret2
      exact ⟨fr, by rw [HD.out.1]; rfl, HD.out.2, HB.out⟩
    have c2 : ((n : Int) == 0) = false := beq_eq_false_iff_ne.mpr (by omega)
    have c5 : (n == 0) = false := beq_eq_false_iff_ne.mpr h2
    have e0 : decide (n = 0) = false := decide_eq_false h2
    by_cases h3 : n = 6
    · subst h3
      go_wp2
      go_ret2
      exact ⟨fr, by rw [HD.out.1]; rfl, HD.out.2, HB.out⟩
    have c3 : ((n : Int) == 6) = false := beq_eq_false_iff_ne.mpr (by omega)
    have HE0 := Aside0.mk e0
    have HE6 := Aside0.mk (decide_eq_false h3 : decide (n = 6) = false)
    clear h2 h3 e0
    go_wp2
    go_ret2
    exact ⟨fr, by rw [HD.out.1, HE0.out, HE6.out]; rfl, HD.out.2, HB.out⟩
end RunQ
section RunP
theorem idx_l0 (ks : List Int) (h8 : ks.length = 8) (f : Nat) (hf : f ≤ 8) (ha : ∀ j, j < f → ks.getD j 0 ≠ 4) (hb : f < 8 → ks.getD f 0 = 4) : ∀ (d k i : Nat), i + d = f → d < k →
    api_WordKind_34.l0 k ks 4 8 (i : Int) = some (if f = 8 then -1 else (f : Int))
  | d, 0, i, _, hk => by omega
  | 0, k + 1, i, hi, _ => by
    obtain rfl : i = f := by omega
    unfold api_WordKind_34.l0
    by_cases c : i = 8
    · subst c
      rw [if_neg (by decide), if_pos rfl]
    have e : (4 : Int) = rd ks (i : Int) := by
      rw [← hb (by omega)]
      rfl
    rw [if_pos (by omega), if_pos (by omega), if_pos (by omega), if_pos e, if_neg c]
  | d + 1, k + 1, i, hi, hk => by
    have ih := idx_l0 ks h8 f hf ha hb d k (i + 1) (by omega) (by omega)
    unfold api_WordKind_34.l0
    have e : ¬ (4 : Int) = rd ks (i : Int) := fun h => ha i (by omega) h.symm
    have hw : wrap64 ((i : Int) + 1) = ((i + 1 : Nat) : Int) := by
      unfold wrap64
      omega
    rw [if_pos (by omega), if_pos (by omega), if_pos (by omega), if_neg e, hw]
    exact ih
theorem idx_val (ks : List Int) (h8 : ks.length = 8) : api_WordKind_34.f 20 ks 4 = some (idxT ks) := by
  unfold api_WordKind_34.f idxT
  rw [h8]
  rcases h : ks.findIdx? (· == 4) with _ | f
  · rw [List.findIdx?_eq_none_iff] at h
    have := idx_l0 ks h8 8 (by omega) (fun j hj => by
      have := h (ks[j]'(by omega)) (List.getElem_mem _)
      rw [List.getD_eq_getElem?_getD, List.getElem?_eq_getElem (by omega)]
      simpa using this) (fun h => by omega) 8 20 0 rfl (by omega)
    exact this
  rw [List.findIdx?_eq_some_iff_getElem] at h
  obtain ⟨hf, h1, h2⟩ := h
  have := idx_l0 ks h8 f (by omega) (fun j hj => by
    have := h2 j hj
    rw [List.getD_eq_getElem?_getD, List.getElem?_eq_getElem (by omega)]
    simpa using this) (fun _ => by
    rw [List.getD_eq_getElem?_getD, List.getElem?_eq_getElem hf]
    simpa using h1) f 20 0 (by omega) (by omega)
  rw [if_neg (by omega)] at this
  exact this
theorem k8_C {w : World} {g : Nat} {k0 k1 k2 k3 k4 k5 k6 k7 : Int} {t : TypeId} (h : w.heap[g]? = some (.cells #[.int .i64 k0, .int .i64 k1, .int .i64 k2, .int .i64 k3, .int .i64 k4, .int .i64 k5, .int .i64 k6, .int .i64 k7] t (0, 0))) : (Kd.int .i64).C w (some ⟨g, 0, none⟩) 8 [k0, k1, k2, k3, k4, k5, k6, k7] := by
  refine Kd.C_of_reads (d := (0 : Int)) (h1 := fun _ => rfl) ⟨rfl, by decide, fun _ => ⟨_, rfl, fun j hj => ?_⟩⟩
  rw [add_plain]
  try rw [Nat.zero_add]
  exact k8_cell h j hj
theorem size22 (W : World) : (sizeOf 22).run Try.prog W = .ok 1 W := by
  have hi : (Try.prog.info? 22).isSome = true := by kernel_rfl
  obtain ⟨i, hi⟩ := Option.isSome_iff_exists.mp hi
  have hc : Try.prog.cellsOf 22 = 1 := by kernel_rfl
  rw [run_sizeOf W hi, hc]
theorem index23 (k0 k1 k2 k3 k4 k5 k6 k7 : Int) (W : World) (i : Nat) (hi : i < 8) : (Instr.index 23 (.agg #[.int .i64 k0, .int .i64 k1, .int .i64 k2, .int .i64 k3, .int .i64 k4, .int .i64 k5, .int .i64 k6, .int .i64 k7]) (.int .i64 (i : Int))).run Try.prog W = .ok (.int .i64 ([k0, k1, k2, k3, k4, k5, k6, k7].getD i 0)) W := by
  have hp : (part 22 #[.int .i64 k0, .int .i64 k1, .int .i64 k2, .int .i64 k3, .int .i64 k4, .int .i64 k5, .int .i64 k6, .int .i64 k7] (i * 1)).run Try.prog W = .ok (.int .i64 ([k0, k1, k2, k3, k4, k5, k6, k7].getD i 0)) W := by
    refine run_part_plain W (by kernel_rfl) ?_
    rw [Nat.mul_one]
    have : i = 0 ∨ i = 1 ∨ i = 2 ∨ i = 3 ∨ i = 4 ∨ i = 5 ∨ i = 6 ∨ i = 7 := by omega
    rcases this with rfl | rfl | rfl | rfl | rfl | rfl | rfl | rfl <;> rfl
  simp only [Instr.index, asIntOf, Sem.run_bind, run_underlying Try.underlying23, Result.andThen_ok, Sem.run_pure]
  rw [if_pos (by omega)]
  simp only [Sem.run_bind, size22, Result.andThen_ok, Int.toNat_natCast]
  exact hp
theorem idx_neg {ks : List Int} : idxT ks < 0 ↔ ks.findIdx? (· == 4) = none := by
  unfold idxT
  split
  · rename_i h
    exact ⟨fun _ => h, fun _ => by decide⟩
  rename_i f h
  exact ⟨fun h2 => by omega, fun h2 => by rw [h] at h2; cases h2⟩
set_option maxHeartbeats 8000000 in
set_option maxRecDepth 100000 in
theorem runPR (k0 k1 k2 k3 k4 k5 k6 k7 : Int) (w : World) :
    Calls Try.prog 16 #[.agg #[.int .i64 k0, .int .i64 k1, .int .i64 k2, .int .i64 k3, .int .i64 k4, .int .i64 k5, .int .i64 k6, .int .i64 k7]] w fun e w' => e = .returned (.tuple #[.int .i64 (runP [k0, k1, k2, k3, k4, k5, k6, k7]).1, .bool (runP [k0, k1, k2, k3, k4, k5, k6, k7]).2]) ∧ Below w.heap.size w w' := by
  have HE := Aside0.mk (heap_alloc_new w (.cells #[.int .i64 k0, .int .i64 k1, .int .i64 k2, .int .i64 k3, .int .i64 k4, .int .i64 k5, .int .i64 k6, .int .i64 k7] 23))
  have HB := Aside0.mk (below_alloc (Below.refl w.heap.size w) (.cells #[.int .i64 k0, .int .i64 k1, .int .i64 k2, .int .i64 k3, .int .i64 k4, .int .i64 k5, .int .i64 k6, .int .i64 k7] 23))
  obtain ⟨L, hL⟩ : ∃ L, L = [k0, k1, k2, k3, k4, k5, k6, k7] := ⟨_, rfl⟩
  rw [← hL]
  have HL := Aside0.mk hL
  have H8 := Aside0.mk (show L.length = 8 by rw [hL]; rfl)
  clear hL
  go_enter Try.func16, Try.ntmps16
  have HX := Aside0.mk (idx_val L H8.out)
  have HIT : Aside0 (∀ W, W.heap[w.heap.size]? = some (.cells #[.int .i64 k0, .int .i64 k1, .int .i64 k2, .int .i64 k3, .int .i64 k4, .int .i64 k5, .int .i64 k6, .int .i64 k7] 23 (0, 0)) → Calls Try.prog 34 #[.slice (some ⟨w.heap.size, 0, none⟩) 8 8, .int .i64 4] W fun e w' => e = .returned (.int .i64 (idxT L)) ∧ Drawn0 W w') := ⟨fun W h => by
    have h1 := k8_C h
    rw [← HL.out] at h1
    have h2 := api_WordKind_34.calls 20 (some ⟨w.heap.size, 0, none⟩) 8 L 4 (idxT L) W (by rw [H8.out]; exact h1) (by rw [H8.out]; exact Nat.le_refl _) HX.out
    rw [H8.out] at h2
    exact h2⟩
  go_upto_region 2 with (go_at_call 34; refine (HIT.out _ HE.out).mono ?_; rintro e w1 ⟨rfl, ⟨nd, rfl⟩⟩)
  rcases hF : L.findIdx? (· == 4) with _ | f
  · have c1 : decide (idxT L < 0) = true := decide_eq_true (idx_neg.2 hF)
    have HR := Aside0.mk (runP_none hF)
    clear hF
    go_wp2
    go_ret2
    exact ⟨by rw [HR.out]; rfl, pw_below_drewN HB.out _⟩
  have hid : idxT L = (f : Int) := by
    unfold idxT
    rw [hF]
  rw [hid]
  have HF := Aside0.mk hF
  have hf8 : f < 8 := by
    rw [List.findIdx?_eq_some_iff_getElem] at hF
    obtain ⟨h, _⟩ := hF
    have := H8.out
    omega
  have HF8 := Aside0.mk hf8
  clear hid hF hf8
  have hfz : decide ((f : Int) < 0) = false := decide_eq_false (by omega)
  go_wp2
  have n0_ := Aside0.mk (pw_below_drewN HB.out nd)
  clear HB HE HIT hfz
  have HB := n0_
  clear n0_
  go_loopg [12] 8 (fun kq v12 w' => ∃ i : Nat, v12 = .int .i64 (i : Int) ∧ Aside0 (kq + i = 8) ∧ Aside0 (∀ j, j < i → fitsT L f j = true) ∧ Aside0 (Below w.heap.size w w'))
  case atStart => exact ⟨0, rfl, ⟨rfl⟩, ⟨fun j hj => by omega⟩, HB⟩
  case round =>
    clear HB
    obtain ⟨i, rfl, HI, HQ, HB⟩ := hrel
    by_cases h1 : i < 8
    · have c1 : decide ((i : Int) < 8) = true := decide_eq_true (by omega)
      have H1 := Aside0.mk h1
      have hq8 := eq_true h1
      have hp8 := eq_true (show 0 ≤ (i : Int) by omega)
      have hq9 := eq_true (show (i : Int) < 8 by omega)
      clear h1
      have hix := fun W => index23 k0 k1 k2 k3 k4 k5 k6 k7 W i H1.out
      have hv0 : [k0, k1, k2, k3, k4, k5, k6, k7].getD i 0 = L.getD i 0 := by rw [HL.out]
      rw [hv0] at hix
      obtain ⟨v, hv⟩ : ∃ v, v = L.getD i 0 := ⟨_, rfl⟩
      rw [← hv] at hix
      have HV := Aside0.mk hv
      clear hv hv0
      have hwr : wrap64 ((i : Int) + 1) = ((i + 1 : Nat) : Int) := by
        have := H1.out
        unfold wrap64
        omega
      have HWR := Aside0.mk hwr
      clear hwr
      obtain ⟨k1_, rfl⟩ : ∃ k1_, gk = k1_ + 1 := ⟨gk - 1, by have := HI.out; have := H1.out; omega⟩
      have hw6 : wrap64 ((f : Int) + 6) = (f : Int) + 6 := by
        have := HF8.out
        unfold wrap64
        omega
      have HW6 := Aside0.mk hw6
      have hfit : fitsT L f i = ((v == 4) == (decide (f ≤ i) && decide (i < f + 6))) := by
        unfold fitsT
        rw [← HV.out]
      have HFIT := Aside0.mk hfit
      clear hw6 hfit
      by_cases ha : v = 4 <;> by_cases hb : f ≤ i <;> by_cases hc : i < f + 6
      all_goals
        have ca : (v == 4) = decide (v = 4) := rfl
        have cb : decide (f ≤ i) = decide (f ≤ i) := rfl
        have cc : decide ((i : Int) < wrap64 ((f : Int) + 6)) = decide (i < f + 6) := by
          rw [HW6.out]
          exact decide_eq_decide.2 (by omega)
        have cd : decide (i < f + 6) = decide (i < f + 6) := rfl
        have HFT := Aside0.mk HFIT.out
        first | rw [decide_eq_true ha] at ca | rw [decide_eq_false ha] at ca
        first | (rw [decide_eq_true hb] at HFT) | (rw [decide_eq_false hb] at HFT)
        first | (rw [decide_eq_true hc] at HFT cc) | (rw [decide_eq_false hc] at HFT cc)
        rw [ca] at HFT
        clear cb cd
      all_goals
        first | have cb : decide (f ≤ i) = true := decide_eq_true hb | have cb : decide (f ≤ i) = false := decide_eq_false hb
        have HA := Aside0.mk ha
        clear ha hb hc
        go_wp2
        first
        | (go_ret2
           have h2 := runP_bad HF.out H1.out HFT.out
           exact ⟨by (rw [h2]; rfl), HB.out⟩)
        | (rw [HWR.out]
           go_roundg k1_
           case measure => omega
           case rel => exact ⟨i + 1, rfl, ⟨by have := HI.out; omega⟩, ⟨fun j hj => by
             by_cases e : j = i
             · subst e
               exact HFT.out
             exact HQ.out j (by omega)⟩, HB⟩)
    have c1 : decide ((i : Int) < 8) = false := decide_eq_false (by omega)
    obtain rfl : i = 8 := by have := HI.out; omega
    clear h1
    have HD := Aside0.mk (runP_some HF.out HQ.out)
    have hw6 : wrap64 ((f : Int) + 6) = (f : Int) + 6 := by
      have := HF8.out
      unfold wrap64
      omega
    have hd6 : decide ((f : Int) + 6 ≤ 8) = decide (f + 6 ≤ 8) := decide_eq_decide.2 (by omega)
    go_wp2
    go_ret2
    exact ⟨by (rw [HD.out]; first | rfl | simp [hd6, hw6]), HB.out⟩
end RunP
section Nan
/-- Is a float32 of these bits no number? (f != f) -/
def nanB (u : Int) : Bool := !(Op.floatEq .f32 u.toNat u.toNat)
set_option maxHeartbeats 8000000 in
set_option maxRecDepth 100000 in
theorem isNaNR (u : Int) (h0 : 0 ≤ u) (h1 : u < 4294967296) (w : World) :
    Calls Try.prog 38 #[.int .u32 u] w fun e w' => e = .returned (.bool (nanB u)) ∧ w' = w := by
  have hd : ∀ W : World, (callFunc 53 #[.int .u32 u]).run Try.prog W = .ok (.value (.float .f32 u.toNat)) W := fun W => by
    rw [run_callFunc_extern (e := Extern.MathFloatBits.float32frombits) Try.func53 (by kernel_rfl) rfl (by kernel_rfl) (by kernel_rfl)]
    rfl
  have hn : ∀ W : World, (binOp .neq 96 (.float .f32 u.toNat) (.float .f32 u.toNat)).run Try.prog W = .ok (.bool (nanB u)) W := fun W => by
    simp only [binOp]
    simp [Op.equal, Op.maxDepth, Op.equalIn, run_underlying Try.underlying96, nanB, Op.floatCmp]
    rfl
  generalize nanB u = r at hn ⊢
  go_enter Try.func38, Try.ntmps38
  go_wp2
  go_ret
  exact ⟨rfl, rfl⟩
end Nan
section Step
/-- What goes with an instruction that is reached. -/
structure Sg where
  reached : Bool
  due : Bool
  stack : List Int
  locals : List Int
def Sg.zero : Sg := ⟨false, false, [], [0, 0, 0, 0, 0, 0, 0, 0]⟩
def popP (k : Int) (s : List Int) : Option (List Int) :=
  match s.getLast? with
  | none => none
  | some t => if k ≠ 0 ∧ t ≠ k then none else some s.dropLast
def popsP : List Int → List Int → Option (List Int)
  | [], s => some s
  | k :: r, s => (popP k s).bind (popsP r)
def pushP (k : Int) (s : List Int) : Option (List Int) := if 32 ≤ s.length then none else some (s ++ [k])
def pushesP : List Int → List Int → Option (List Int)
  | [], s => some s
  | k :: r, s => (pushP k s).bind (pushesP r)
/-- What the special instructions do (res: what the handler leaves; st, ag, ct: the kinds of the words). -/
def specP (res st ag ct : List Int) (op : Nat) (a : Nat) (s lo : List Int) : Option (List Int × List Int) :=
  if op = 0 then (if s = res then some (s, lo) else none)
  else if op = 4 then (match s.getLast? with
    | none => none
    | some k => ((pushP k s.dropLast).bind (pushP k)).map (fun s2 => (s2, lo)))
  else if op = 5 then (popP 0 s).map (fun s2 => (s2, lo))
  else if op = 6 then (match s.getLast?, s.dropLast.getLast? with
    | some y, some z => ((pushP y s.dropLast.dropLast).bind (pushP z)).map (fun s2 => (s2, lo))
    | _, _ => none)
  else if op = 7 then (if s.length < a + 1 then none else (pushP (s.getD (s.length - 1 - a) 0) s).map (fun s2 => (s2, lo)))
  else if op = 8 then (if lo.getD a 0 = 0 then none else (pushP (lo.getD a 0) s).map (fun s2 => (s2, lo)))
  else if op = 9 then (match s.getLast? with
    | none => none
    | some k => some (s.dropLast, lo.set a k))
  else if op = 10 then (pushP (st.getD a 0) s).map (fun s2 => (s2, lo))
  else if op = 11 then (popP (st.getD a 0) s).map (fun s2 => (s2, lo))
  else if op = 12 then (pushP (ag.getD a 0) s).map (fun s2 => (s2, lo))
  else if op = 13 then (popP (ag.getD a 0) s).map (fun s2 => (s2, lo))
  else if op = 14 then (pushP (ct.getD a 0) s).map (fun s2 => (s2, lo))
  else if op = 15 then (popP (ct.getD a 0) s).map (fun s2 => (s2, lo))
  else some (s, lo)
/-- The stack and the locals behind an instruction (p, q: what it takes and leaves; sp: it is a special one). -/
def afterP (res st ag ct p q : List Int) (sp : Bool) (op a : Nat) (s lo : List Int) : Option (List Int × List Int) :=
  (popsP p.reverse s).bind fun s1 => (if sp then specP res st ag ct op a s1 lo else some (s1, lo)).bind fun x => (pushesP q x.1).map fun s3 => (s3, x.2)
/-- Locals met by others, up to i; and whether one has been struck. -/
def meetTo (a b : List Int) (d : Bool) : Nat → List Int × Bool
  | 0 => (a, d)
  | i + 1 => if a.getD i 0 ≠ 0 ∧ a.getD i 0 ≠ b.getD i 0 then ((meetTo a b d i).1.set i 0, true) else meetTo a b d i
def reachP (s lo : List Int) (t : Sg) : Option Sg :=
  if t.reached then (if t.stack = s then some ⟨true, (meetTo t.locals lo t.due 8).2, t.stack, (meetTo t.locals lo t.due 8).1⟩ else none) else some ⟨true, true, s, lo⟩
def reachAll (s lo : List Int) : List Nat → List Sg → Option (List Sg)
  | [], ss => some ss
  | t :: r, ss => (reachP s lo (ss.getD t Sg.zero)).bind fun g => reachAll s lo r (ss.set t g)
/-- One look: aft: the stack and locals behind the instruction; nx: what may follow. -/
def lookP (aft : Nat → List Int → List Int → Option (List Int × List Int)) (nx : Nat → List Nat) (at_ : Nat) (ss : List Sg) : Option (List Sg) :=
  (aft at_ (ss.getD at_ Sg.zero).stack (ss.getD at_ Sg.zero).locals).bind fun x => reachAll x.1 x.2 (nx at_) (ss.set at_ { ss.getD at_ Sg.zero with due := false })
def dueAt (ss : List Sg) : Option Nat := ss.findIdx? (·.due)
/-- Looks till none is due: the first fault's place, or -1. -/
def runW (n : Nat) (aft : Nat → List Int → List Int → Option (List Int × List Int)) (nx : Nat → List Nat) : Nat → List Sg → Int
  | 0, _ => -1
  | k + 1, ss => match dueAt ss with
    | none => -1
    | some i => if i = n then (i : Int) else match lookP aft nx i ss with
      | none => (i : Int)
      | some ss' => runW n aft nx k ss'
def nz (l : List Int) : Nat := l.countP (· != 0)
def Sg.mu (s : Sg) : Nat := if s.reached then 2 * nz s.locals + (if s.due then 1 else 0) else 18
def mu (ss : List Sg) : Nat := (ss.map Sg.mu).sum
def Sg.ok (s : Sg) : Prop := s.locals.length = 8 ∧ s.stack.length ≤ 32 ∧ (s.due = true → s.reached = true)
def AllOk (ss : List Sg) : Prop := ∀ s ∈ ss, s.ok
theorem mu_set (ss : List Sg) (i : Nat) (hi : i < ss.length) (g : Sg) : mu (ss.set i g) + (ss.getD i Sg.zero).mu = mu ss + g.mu := by
  induction ss generalizing i with
  | nil => simp at hi
  | cons a r ih =>
    cases i with
    | zero => simp [mu]; omega
    | succ i =>
      have := ih i (by simpa using hi)
      simp only [mu, List.set_cons_succ, List.map_cons, List.sum_cons, List.getD_cons_succ] at this ⊢
      omega
theorem nz_set_zero (l : List Int) (i : Nat) (hi : i < l.length) (h : l.getD i 0 ≠ 0) : nz (l.set i 0) + 1 = nz l := by
  induction l generalizing i with
  | nil => simp at hi
  | cons a r ih =>
    cases i with
    | zero =>
      have ha : a ≠ 0 := by simpa using h
      simp [nz, List.countP_cons, ha]
    | succ i =>
      have := ih i (by simpa using hi) (by simpa using h)
      simp only [nz, List.set_cons_succ, List.countP_cons] at this ⊢
      omega
theorem nz_le (l : List Int) : nz l ≤ l.length := List.countP_le_length
theorem meet_len (a b : List Int) (d : Bool) : ∀ i, (meetTo a b d i).1.length = a.length
  | 0 => rfl
  | i + 1 => by
    unfold meetTo
    split
    · rw [List.length_set]
      exact meet_len a b d i
    exact meet_len a b d i
theorem meet_get (a b : List Int) (d : Bool) : ∀ i j, i ≤ j → (meetTo a b d i).1.getD j 0 = a.getD j 0
  | 0, j, _ => rfl
  | i + 1, j, h => by
    unfold meetTo
    split
    · have := meet_get a b d i j (by omega)
      rw [List.getD_eq_getElem?_getD, List.getElem?_set_ne (by omega), ← List.getD_eq_getElem?_getD]
      exact this
    exact meet_get a b d i j (by omega)
/-- What meeting costs: a local struck makes due. -/
theorem meet_mu (a b : List Int) (d : Bool) : ∀ i, i ≤ a.length → 2 * nz (meetTo a b d i).1 + (if (meetTo a b d i).2 then 1 else 0) ≤ 2 * nz a + (if d then 1 else 0)
  | 0, _ => Nat.le_refl _
  | i + 1, h => by
    have ih := meet_mu a b d i (by omega)
    unfold meetTo
    split
    · rename_i hc
      have := nz_set_zero (meetTo a b d i).1 i (by rw [meet_len]; omega) (by rw [meet_get a b d i i (Nat.le_refl _)]; exact hc.1)
      simp only [if_true]
      split at ih <;> split at ih <;> simp_all <;> omega
    exact ih
theorem reachP_mu {s lo : List Int} {t g : Sg} (ht : t.ok) (hl : lo.length = 8) (hs : s.length ≤ 32) (h : reachP s lo t = some g) : g.mu ≤ t.mu ∧ g.ok := by
  unfold reachP at h
  split at h
  · rename_i hr
    split at h
    · injection h with h
      subst h
      refine ⟨?_, ?_, ht.2.1, fun _ => rfl⟩
      · have := meet_mu t.locals lo t.due 8 (by rw [ht.1]; omega)
        simp only [Sg.mu, if_true, hr]
        exact this
      show (meetTo t.locals lo t.due 8).1.length = 8
      rw [meet_len]
      exact ht.1
    cases h
  rename_i hr
  injection h with h
  subst h
  refine ⟨?_, hl, hs, fun _ => rfl⟩
  have := nz_le lo
  have hr' : t.reached = false := by simpa using hr
  simp only [Sg.mu, if_true, hr']
  simp
  omega
theorem AllOk.getD {ss : List Sg} (h : AllOk ss) (i : Nat) : (ss.getD i Sg.zero).ok := by
  by_cases hi : i < ss.length
  · rw [List.getD_eq_getElem?_getD, List.getElem?_eq_getElem hi]
    exact h _ (List.getElem_mem hi)
  rw [List.getD_eq_getElem?_getD, List.getElem?_eq_none (by omega)]
  exact ⟨rfl, by decide, fun h => by cases h⟩
theorem AllOk.set {ss : List Sg} (h : AllOk ss) (i : Nat) {g : Sg} (hg : g.ok) : AllOk (ss.set i g) := by
  intro s hs
  rcases List.mem_or_eq_of_mem_set hs with h1 | h1
  · exact h s h1
  rw [h1]; exact hg
theorem reachAll_mu {s lo : List Int} (hl : lo.length = 8) (hs : s.length ≤ 32) : ∀ (ts : List Nat) (ss ss' : List Sg), AllOk ss → (∀ t ∈ ts, t < ss.length) → reachAll s lo ts ss = some ss' → mu ss' ≤ mu ss ∧ AllOk ss' ∧ ss'.length = ss.length
  | [], ss, ss', ho, _, h => by
    injection h with h
    subst h
    exact ⟨Nat.le_refl _, ho, rfl⟩
  | t :: r, ss, ss', ho, ht, h => by
    unfold reachAll at h
    rcases hg : reachP s lo (ss.getD t Sg.zero) with _ | g
    · rw [hg] at h; cases h
    rw [hg] at h
    obtain ⟨h1, h2⟩ := reachP_mu (ho.getD t) hl hs hg
    have hm := mu_set ss t (ht t List.mem_cons_self) g
    obtain ⟨h3, h4, h5⟩ := reachAll_mu hl hs r (ss.set t g) ss' (ho.set t h2) (fun t' h' => by rw [List.length_set]; exact ht t' (List.mem_cons_of_mem _ h')) h
    refine ⟨by omega, h4, by rw [h5, List.length_set]⟩
/-- What is asked of what follows an instruction. -/
structure AftOk (n : Nat) (aft : Nat → List Int → List Int → Option (List Int × List Int)) (nx : Nat → List Nat) : Prop where
  len : ∀ i s lo s' lo', lo.length = 8 → s.length ≤ 32 → aft i s lo = some (s', lo') → lo'.length = 8 ∧ s'.length ≤ 32
  nx : ∀ i, i < n → ∀ t ∈ nx i, t < n + 1
theorem lookP_mu {n : Nat} {aft : Nat → List Int → List Int → Option (List Int × List Int)} {nx : Nat → List Nat} (ha : AftOk n aft nx) {i : Nat} (hi : i < n) {ss ss' : List Sg} (hl : ss.length = n + 1) (ho : AllOk ss) (hd : (ss.getD i Sg.zero).due = true) (h : lookP aft nx i ss = some ss') : mu ss' < mu ss ∧ AllOk ss' ∧ ss'.length = n + 1 := by
  unfold lookP at h
  rcases hg : aft i (ss.getD i Sg.zero).stack (ss.getD i Sg.zero).locals with _ | ⟨s, lo⟩
  · rw [hg] at h; cases h
  rw [hg] at h
  have hok := ho.getD i
  obtain ⟨h1, h2⟩ := ha.len _ _ _ _ _ hok.1 hok.2.1 hg
  have hm := mu_set ss i (by omega) { ss.getD i Sg.zero with due := false }
  have hr := hok.2.2 hd
  have hm2 : ({ ss.getD i Sg.zero with due := false } : Sg).mu < (ss.getD i Sg.zero).mu := by
    simp only [Sg.mu, hr, hd, if_true]
    simp
  obtain ⟨h3, h4, h5⟩ := reachAll_mu h1 h2 (nx i) (ss.set i { ss.getD i Sg.zero with due := false }) ss' (ho.set i ⟨hok.1, hok.2.1, fun h => by cases h⟩) (fun t ht => by rw [List.length_set, hl]; exact ha.nx i hi t ht) h
  exact ⟨by omega, h4, by rw [h5, List.length_set, hl]⟩
end Step
end Go.Proofs.Ytcpcpmojallcdaa.QLoomChecks
