/- sluicelaw06.ReelForms: the walk. Conditions: as each theorem says. -/
import Derived.Test.YtnmhfcfojbfikaaReelWhole
import Derived.Deep.DeepCutAuto
namespace Go.Proofs.Ytnmhfcfojbfikaa.QReelForms
open Go.RowKit Go.Proofs.YtnmhfcfojbfikaaW.PrintWords Go.Proofs.YtnmhfcfojbfikaaW.PrintLast Go.Proofs.YtnmhfcfojbfikaaW.PrintMore
set_option linter.unusedVariables false
set_option linter.unusedSimpArgs false
theorem Kept.step {W W' W2 : World} {l : List (Nat × Obj)} (h : Kept W l) (k : Kept W l → Kept W' l) (hb : Below W'.heap.size W' W2) : Kept W2 l := (k h).below hb
theorem At8.step {t : TypeId} {g : Nat} {xs : List Int} {W W' W2 : World} (h : At8 t W g xs) (k : At8 t W g xs → At8 t W' g xs) (hb : Below W'.heap.size W' W2) : At8 t W2 g xs := (k h).below hb
theorem Off.at {g : Nat} {l : List (Nat × Obj)} (h : Off g l) (i : Nat) {k : Nat} {o : Obj} (e : l[i]? = some (k, o)) : k ≠ g := h (k, o) (List.mem_of_getElem? e)
/-- The three ways of the form of edges: what lies where. -/
def EF (w : World) (es ed eu us ua ub s0 s1 s2 s3 s4 s5 s6 s7 kind c : Int) (gf b1 b2 : Nat) (l : List (Nat × Obj)) : Prop :=
  (kind = 1 ∧ c = 0 ∧ l = (gf, (.cells #[.int .i64 8, .func (.func 89) #[] #[.pointer (some ⟨b1, 0, none⟩)], .func (.func 90) #[] #[.pointer (some ⟨b2, 0, none⟩)]] 73 (0, 0))) :: (b1, .cells #[.func (.func 68) #[] #[]] 120 (0, 0)) :: (b2, .cells #[.func (.func 69) #[] #[]] 122 (0, 0)) :: ((w.heap.size, (.cells #[.int .u32 es, .int .u32 ed, .int .u32 eu] 64 (0, 0))) :: (w.heap.size + 1, (.cells #[.int .u32 us, .int .u64 ua, .int .u64 ub] 67 (0, 0))) :: (w.heap.size + 1 + 1, (.cells #[.int .u64 s0, .int .u64 s1, .int .u64 s2, .int .u64 s3, .int .u64 s4, .int .u64 s5, .int .u64 s6, .int .u64 s7] 69 (0, 0))) :: []) ∧ w.heap.size + 1 + 1 < b1 ∧ w.heap.size + 1 + 1 < b2 ∧ w.heap.size + 1 + 1 < gf) ∨ (((kind = 2 ∨ kind = 3) ∧ c = 0 ∧ l = (gf, (.cells #[.int .i64 12, .func (.func 89) #[] #[.pointer (some ⟨b1, 0, none⟩)], .func (.func 90) #[] #[.pointer (some ⟨b2, 0, none⟩)]] 73 (0, 0))) :: (b1, .cells #[.func (.func 68) #[] #[]] 120 (0, 0)) :: (b2, .cells #[.func (.func 69) #[] #[]] 122 (0, 0)) :: ((w.heap.size, (.cells #[.int .u32 es, .int .u32 ed, .int .u32 eu] 64 (0, 0))) :: (w.heap.size + 1, (.cells #[.int .u32 us, .int .u64 ua, .int .u64 ub] 67 (0, 0))) :: (w.heap.size + 1 + 1, (.cells #[.int .u64 s0, .int .u64 s1, .int .u64 s2, .int .u64 s3, .int .u64 s4, .int .u64 s5, .int .u64 s6, .int .u64 s7] 69 (0, 0))) :: []) ∧ w.heap.size + 1 + 1 < b1 ∧ w.heap.size + 1 + 1 < b2 ∧ w.heap.size + 1 + 1 < gf) ∨ ((kind < 1 ∨ (1 ≤ kind ∧ kind > 3)) ∧ c = 2 ∧ l = (gf, (.cells #[.int .i64 0, .nilFunc, .nilFunc] 73 (0, 0))) :: ((w.heap.size, (.cells #[.int .u32 es, .int .u32 ed, .int .u32 eu] 64 (0, 0))) :: (w.heap.size + 1, (.cells #[.int .u32 us, .int .u64 ua, .int .u64 ub] 67 (0, 0))) :: (w.heap.size + 1 + 1, (.cells #[.int .u64 s0, .int .u64 s1, .int .u64 s2, .int .u64 s3, .int .u64 s4, .int .u64 s5, .int .u64 s6, .int .u64 s7] 69 (0, 0))) :: []) ∧ w.heap.size + 1 + 1 < gf))
/-- A word behind those that count, once it is set to 0. -/
def zs (n i j : Nat) (x : Int) : Int := if n ≤ j ∧ j < i then 0 else x
theorem zs_start (n j : Nat) (x : Int) : zs n n j x = x := if_neg (by omega)
theorem zs_end (n j : Nat) (x : Int) (h : j < 8) : zs n 8 j x = if j < n then x else 0 := by
  unfold zs
  by_cases c : j < n
  · rw [if_neg (by omega), if_pos c]
  · rw [if_pos (by omega), if_neg c]
theorem zs_step (n i j : Nat) (x : Int) (h : j ≠ i) : zs n (i + 1) j x = zs n i j x := by
  unfold zs
  by_cases c : n ≤ j ∧ j < i
  · rw [if_pos c, if_pos (by omega)]
  · rw [if_neg c, if_neg (by omega)]
theorem zs_here (n i : Nat) (x : Int) (h : n ≤ i) : zs n (i + 1) i x = 0 := if_pos (by omega)
theorem zs_some {w : World} {g n i : Nat} {s0 s1 s2 s3 s4 s5 s6 s7 : Int} (h : w.heap[g]? = some (.cells #[.int .u64 (zs n i 0 s0), .int .u64 (zs n i 1 s1), .int .u64 (zs n i 2 s2), .int .u64 (zs n i 3 s3), .int .u64 (zs n i 4 s4), .int .u64 (zs n i 5 s5), .int .u64 (zs n i 6 s6), .int .u64 (zs n i 7 s7)] 69 (0, 0))) (j : Nat) (hj : j < 8) : ∃ x, w.cell? ⟨g, j, none⟩ = some (.int .u64 x) := by
  rw [blk_cell h j]
  have : j = 0 ∨ j = 1 ∨ j = 2 ∨ j = 3 ∨ j = 4 ∨ j = 5 ∨ j = 6 ∨ j = 7 := by omega
  rcases this with rfl | rfl | rfl | rfl | rfl | rfl | rfl | rfl <;> exact ⟨_, rfl⟩
theorem zs_put {w : World} {g n i : Nat} {s0 s1 s2 s3 s4 s5 s6 s7 : Int} (h : w.heap[g]? = some (.cells #[.int .u64 (zs n i 0 s0), .int .u64 (zs n i 1 s1), .int .u64 (zs n i 2 s2), .int .u64 (zs n i 3 s3), .int .u64 (zs n i 4 s4), .int .u64 (zs n i 5 s5), .int .u64 (zs n i 6 s6), .int .u64 (zs n i 7 s7)] 69 (0, 0))) (hi : i < 8) (hn : n ≤ i) : (w.setCell ⟨g, i, none⟩ (.int .u64 0)).heap[g]? = some (.cells #[.int .u64 (zs n (i + 1) 0 s0), .int .u64 (zs n (i + 1) 1 s1), .int .u64 (zs n (i + 1) 2 s2), .int .u64 (zs n (i + 1) 3 s3), .int .u64 (zs n (i + 1) 4 s4), .int .u64 (zs n (i + 1) 5 s5), .int .u64 (zs n (i + 1) 6 s6), .int .u64 (zs n (i + 1) 7 s7)] 69 (0, 0)) := by
  refine blk_put h i _ ?_
  have : i = 0 ∨ i = 1 ∨ i = 2 ∨ i = 3 ∨ i = 4 ∨ i = 5 ∨ i = 6 ∨ i = 7 := by omega
  rcases this with rfl | rfl | rfl | rfl | rfl | rfl | rfl | rfl <;> simp only [List.setIfInBounds_toArray, List.set_cons_zero, List.set_cons_succ, zs_here n _ _ hn, zs_step n _ _ _ (by decide : (0 : Nat) ≠ 1)] <;> simp [zs_step, zs_here, hn]
theorem sW_congr (a b : List Int) : ∀ k, (∀ j, j < k → a.getD j 0 = b.getD j 0) → sW a k = sW b k
  | 0, _ => rfl
  | k + 1, h => by
    rw [sW, sW, sW_congr a b k (fun j hj => h j (by omega)), h k (by omega)]
theorem cut_getD (n j : Nat) (s0 s1 s2 s3 s4 s5 s6 s7 : Int) (hj : j < n) (h8 : n ≤ 8) : [s0, s1, s2, s3, s4, s5, s6, s7].getD j 0 = [(if 0 < n then s0 else 0), (if 1 < n then s1 else 0), (if 2 < n then s2 else 0), (if 3 < n then s3 else 0), (if 4 < n then s4 else 0), (if 5 < n then s5 else 0), (if 6 < n then s6 else 0), (if 7 < n then s7 else 0)].getD j 0 := by
  have : j = 0 ∨ j = 1 ∨ j = 2 ∨ j = 3 ∨ j = 4 ∨ j = 5 ∨ j = 6 ∨ j = 7 := by omega
  rcases this with rfl | rfl | rfl | rfl | rfl | rfl | rfl | rfl <;> exact (if_pos hj).symm
theorem cut_range (n : Nat) (s0 s1 s2 s3 s4 s5 s6 s7 : Int) (hv : ∀ i, i < 8 → 0 ≤ [s0, s1, s2, s3, s4, s5, s6, s7].getD i 0 ∧ [s0, s1, s2, s3, s4, s5, s6, s7].getD i 0 < 18446744073709551616) (i : Nat) (hi : i < 8) : 0 ≤ [(if 0 < n then s0 else 0), (if 1 < n then s1 else 0), (if 2 < n then s2 else 0), (if 3 < n then s3 else 0), (if 4 < n then s4 else 0), (if 5 < n then s5 else 0), (if 6 < n then s6 else 0), (if 7 < n then s7 else 0)].getD i 0 ∧ [(if 0 < n then s0 else 0), (if 1 < n then s1 else 0), (if 2 < n then s2 else 0), (if 3 < n then s3 else 0), (if 4 < n then s4 else 0), (if 5 < n then s5 else 0), (if 6 < n then s6 else 0), (if 7 < n then s7 else 0)].getD i 0 < 18446744073709551616 := by
  have h := hv i hi
  have e : [(if 0 < n then s0 else 0), (if 1 < n then s1 else 0), (if 2 < n then s2 else 0), (if 3 < n then s3 else 0), (if 4 < n then s4 else 0), (if 5 < n then s5 else 0), (if 6 < n then s6 else 0), (if 7 < n then s7 else 0)].getD i 0 = if i < n then [s0, s1, s2, s3, s4, s5, s6, s7].getD i 0 else 0 := by
    have : i = 0 ∨ i = 1 ∨ i = 2 ∨ i = 3 ∨ i = 4 ∨ i = 5 ∨ i = 6 ∨ i = 7 := by omega
    rcases this with rfl | rfl | rfl | rfl | rfl | rfl | rfl | rfl <;> rfl
  rw [e]
  split
  · exact h
  · decide
set_option maxHeartbeats 16000000 in
set_option maxRecDepth 100000 in
theorem lawAll (kind es ed eu us ua ub words : Int) (s0 s1 s2 s3 s4 s5 s6 s7 : Int) (es0 : 0 ≤ es) (es1 : es < 4294967296) (ed0 : 0 ≤ ed) (ed1 : ed < 4294967296) (eu0 : 0 ≤ eu) (eu1 : eu < 4294967296) (us0 : 0 ≤ us) (us1 : us < 4294967296) (ua0 : 0 ≤ ua) (ua1 : ua < 18446744073709551616) (ub0 : 0 ≤ ub) (ub1 : ub < 18446744073709551616) (hv : ∀ i, i < 8 → 0 ≤ [s0, s1, s2, s3, s4, s5, s6, s7].getD i 0 ∧ [s0, s1, s2, s3, s4, s5, s6, s7].getD i 0 < 18446744073709551616) (w : World) :
    Calls Try.prog 12 #[.int .i64 kind, .agg #[.int .u32 es, .int .u32 ed, .int .u32 eu], .agg #[.int .u32 us, .int .u64 ua, .int .u64 ub], .int .i64 words, .agg #[.int .u64 s0, .int .u64 s1, .int .u64 s2, .int .u64 s3, .int .u64 s4, .int .u64 s5, .int .u64 s6, .int .u64 s7]] w fun e w' => e = .returned (.bool true) ∧ Below w.heap.size w w' := by
  have Hes := Aside0.mk (And.intro es0 es1)
  clear es0 es1
  have Hed := Aside0.mk (And.intro ed0 ed1)
  clear ed0 ed1
  have Heu := Aside0.mk (And.intro eu0 eu1)
  clear eu0 eu1
  have Hus := Aside0.mk (And.intro us0 us1)
  clear us0 us1
  have Hua := Aside0.mk (And.intro ua0 ua1)
  clear ua0 ua1
  have Hub := Aside0.mk (And.intro ub0 ub1)
  clear ub0 ub1
  have HV := Aside0.mk hv
  clear hv
  go_enter Try.func12, Try.ntmps12
  go_upto_region 1 with (fail)
  have HK : Aside0 (Kept (((w.alloc (.cells #[.int .u32 es, .int .u32 ed, .int .u32 eu] 64 (0, 0))).alloc (.cells #[.int .u32 us, .int .u64 ua, .int .u64 ub] 67 (0, 0))).alloc (.cells #[.int .u64 s0, .int .u64 s1, .int .u64 s2, .int .u64 s3, .int .u64 s4, .int .u64 s5, .int .u64 s6, .int .u64 s7] 69 (0, 0))) ((w.heap.size, (.cells #[.int .u32 es, .int .u32 ed, .int .u32 eu] 64 (0, 0))) :: (w.heap.size + 1, (.cells #[.int .u32 us, .int .u64 ua, .int .u64 ub] 67 (0, 0))) :: (w.heap.size + 1 + 1, (.cells #[.int .u64 s0, .int .u64 s1, .int .u64 s2, .int .u64 s3, .int .u64 s4, .int .u64 s5, .int .u64 s6, .int .u64 s7] 69 (0, 0))) :: [])) := ⟨blk_alloc (blk_alloc (heap_alloc_new w _) _) _, blk_alloc (by have := heap_alloc_new (w.alloc (.cells #[.int .u32 es, .int .u32 ed, .int .u32 eu] 64 (0, 0))) (.cells #[.int .u32 us, .int .u64 ua, .int .u64 ub] 67 (0, 0)); rw [World.size_alloc] at this; exact this) _, by have := heap_alloc_new ((w.alloc (.cells #[.int .u32 es, .int .u32 ed, .int .u32 eu] 64 (0, 0))).alloc (.cells #[.int .u32 us, .int .u64 ua, .int .u64 ub] 67 (0, 0))) (.cells #[.int .u64 s0, .int .u64 s1, .int .u64 s2, .int .u64 s3, .int .u64 s4, .int .u64 s5, .int .u64 s6, .int .u64 s7] 69 (0, 0)); rw [World.size_alloc, World.size_alloc] at this; exact this, trivial⟩
  have HB := Aside0.mk (below_alloc (below_alloc (below_alloc (Below.refl w.heap.size w) (.cells #[.int .u32 es, .int .u32 ed, .int .u32 eu] 64 (0, 0))) (.cells #[.int .u32 us, .int .u64 ua, .int .u64 ub] 67 (0, 0))) (.cells #[.int .u64 s0, .int .u64 s1, .int .u64 s2, .int .u64 s3, .int .u64 s4, .int .u64 s5, .int .u64 s6, .int .u64 s7] 69 (0, 0)))
  generalize (((w.alloc (.cells #[.int .u32 es, .int .u32 ed, .int .u32 eu] 64 (0, 0))).alloc (.cells #[.int .u32 us, .int .u64 ua, .int .u64 ub] 67 (0, 0))).alloc (.cells #[.int .u64 s0, .int .u64 s1, .int .u64 s2, .int .u64 s3, .int .u64 s4, .int .u64 s5, .int .u64 s6, .int .u64 s7] 69 (0, 0))) = W0 at HK HB ⊢
  go_cut [11, 12] from 30 to 34 (fun v11 v12 W => ∃ (gf b1 b2 : Nat) (c : Int) (l : List (Nat × Obj)), v11 = .pointer (some ⟨gf, 0, none⟩) ∧ v12 = .int .i64 c ∧ Aside0 (EF w es ed eu us ua ub s0 s1 s2 s3 s4 s5 s6 s7 kind c gf b1 b2 l) ∧ Aside0 (Kept W l) ∧ Aside0 (Below w.heap.size w W))
  case first =>
    have hst : ∀ (a : Addr) (fn : Fn) (x y : Array Value) (w : World), Sem.run Try.prog (store a (.func fn x y)) w = match w.cell? a with
        | some _ => if w.frozen? a then .halt (.unsupported (.unsafePointer "a write to bytes that a string shares")) w else .ok () (w.setCell a (.func fn x y))
        | none => match w.farStore Try.prog a (.func fn x y) (Mode.plain == .atomic) with
          | .ok (w', _) => .ok () w'
          | .error h => .halt h w := fun a fn x y w => run_store _ _ _ _ _ rfl
    have hst2 : ∀ (a : Addr) (w : World), Sem.run Try.prog (store a .nilFunc) w = match w.cell? a with
        | some _ => if w.frozen? a then .halt (.unsupported (.unsafePointer "a write to bytes that a string shares")) w else .ok () (w.setCell a .nilFunc)
        | none => match w.farStore Try.prog a .nilFunc (Mode.plain == .atomic) with
          | .ok (w', _) => .ok () w'
          | .error h => .halt h w := fun a w => run_store _ _ _ _ _ rfl
    have hk : kind = 1 ∨ kind = 2 ∨ kind = 3 ∨ (kind < 1 ∨ (1 ≤ kind ∧ kind > 3)) := by omega
    rcases hk with rfl | rfl | rfl | hk
    · clear hst2
      go_wp2_with (go_at_call 35; refine (edgeForm1 _).mono ?_; rintro e w1 ⟨b1, b2, rfl, hb1, hb2, hH, hb⟩; unfold formVE; have HH := Aside0.mk hH; have HN := Aside0.mk (And.intro (Nat.lt_of_lt_of_le (blk_lt (HK.out.at 2 rfl)) hb1) (And.intro (Nat.lt_of_lt_of_le (blk_lt (HK.out.at 2 rfl)) hb2) (Nat.lt_of_lt_of_le (blk_lt (HK.out.at 2 rfl)) hb.size))); have n0_ := Aside0.mk (below_step (by repeat (first | (with_reducible first | exact HB.out | apply below_alloc | apply pw_below_drewN | apply below_drew1) | exact HB.out)) hb); have n1_ := Aside0.mk (Kept.step HK.out (fun h_ => by (with_reducible repeat (first | refine Kept.alloc ?_ _ | refine Kept.drewN ?_ _ | refine Kept.drew ?_)); exact h_) hb); clear HB HK hb; have HB := n0_; have HK := n1_; clear n0_ n1_; clear hb1 hb2 hH)
      have n0_ := HK.out.alloc (.cells #[.int .i64 8, .func (.func 89) #[] #[.pointer (some ⟨b1, 0, none⟩)], .func (.func 90) #[] #[.pointer (some ⟨b2, 0, none⟩)]] 73 (0, 0))
      have n1_ := n0_.more (blk_alloc HH.out.get (.cells #[.int .i64 8, .func (.func 89) #[] #[.pointer (some ⟨b1, 0, none⟩)], .func (.func 90) #[] #[.pointer (some ⟨b2, 0, none⟩)]] 73 (0, 0)))
      have n2_ := n1_.more (blk_alloc HH.out.put (.cells #[.int .i64 8, .func (.func 89) #[] #[.pointer (some ⟨b1, 0, none⟩)], .func (.func 90) #[] #[.pointer (some ⟨b2, 0, none⟩)]] 73 (0, 0)))
      have n3_ := n2_.more (heap_alloc_new w1 (.cells #[.int .i64 8, .func (.func 89) #[] #[.pointer (some ⟨b1, 0, none⟩)], .func (.func 90) #[] #[.pointer (some ⟨b2, 0, none⟩)]] 73 (0, 0)))
      have n4_ := below_alloc HB.out (.cells #[.int .i64 8, .func (.func 89) #[] #[.pointer (some ⟨b1, 0, none⟩)], .func (.func 90) #[] #[.pointer (some ⟨b2, 0, none⟩)]] 73 (0, 0))
      go_meet
      exact ⟨_, b1, b2, _, _, rfl, rfl, ⟨.inl ⟨rfl, rfl, rfl, HN.out⟩⟩, ⟨n3_⟩, ⟨n4_⟩⟩
    · clear hst2
      go_wp2_with (go_at_call 35; refine (edgeForm2 _).mono ?_; rintro e w1 ⟨b1, b2, rfl, hb1, hb2, hH, hb⟩; unfold formVE; have HH := Aside0.mk hH; have HN := Aside0.mk (And.intro (Nat.lt_of_lt_of_le (blk_lt (HK.out.at 2 rfl)) hb1) (And.intro (Nat.lt_of_lt_of_le (blk_lt (HK.out.at 2 rfl)) hb2) (Nat.lt_of_lt_of_le (blk_lt (HK.out.at 2 rfl)) hb.size))); have n0_ := Aside0.mk (below_step (by repeat (first | (with_reducible first | exact HB.out | apply below_alloc | apply pw_below_drewN | apply below_drew1) | exact HB.out)) hb); have n1_ := Aside0.mk (Kept.step HK.out (fun h_ => by (with_reducible repeat (first | refine Kept.alloc ?_ _ | refine Kept.drewN ?_ _ | refine Kept.drew ?_)); exact h_) hb); clear HB HK hb; have HB := n0_; have HK := n1_; clear n0_ n1_; clear hb1 hb2 hH)
      have n0_ := HK.out.alloc (.cells #[.int .i64 12, .func (.func 89) #[] #[.pointer (some ⟨b1, 0, none⟩)], .func (.func 90) #[] #[.pointer (some ⟨b2, 0, none⟩)]] 73 (0, 0))
      have n1_ := n0_.more (blk_alloc HH.out.get (.cells #[.int .i64 12, .func (.func 89) #[] #[.pointer (some ⟨b1, 0, none⟩)], .func (.func 90) #[] #[.pointer (some ⟨b2, 0, none⟩)]] 73 (0, 0)))
      have n2_ := n1_.more (blk_alloc HH.out.put (.cells #[.int .i64 12, .func (.func 89) #[] #[.pointer (some ⟨b1, 0, none⟩)], .func (.func 90) #[] #[.pointer (some ⟨b2, 0, none⟩)]] 73 (0, 0)))
      have n3_ := n2_.more (heap_alloc_new w1 (.cells #[.int .i64 12, .func (.func 89) #[] #[.pointer (some ⟨b1, 0, none⟩)], .func (.func 90) #[] #[.pointer (some ⟨b2, 0, none⟩)]] 73 (0, 0)))
      have n4_ := below_alloc HB.out (.cells #[.int .i64 12, .func (.func 89) #[] #[.pointer (some ⟨b1, 0, none⟩)], .func (.func 90) #[] #[.pointer (some ⟨b2, 0, none⟩)]] 73 (0, 0))
      go_meet
      exact ⟨_, b1, b2, _, _, rfl, rfl, ⟨.inr (.inl ⟨.inl rfl, rfl, rfl, HN.out⟩)⟩, ⟨n3_⟩, ⟨n4_⟩⟩
    · clear hst2
      go_wp2_with (go_at_call 35; refine (edgeForm3 _).mono ?_; rintro e w1 ⟨b1, b2, rfl, hb1, hb2, hH, hb⟩; unfold formVE; have HH := Aside0.mk hH; have HN := Aside0.mk (And.intro (Nat.lt_of_lt_of_le (blk_lt (HK.out.at 2 rfl)) hb1) (And.intro (Nat.lt_of_lt_of_le (blk_lt (HK.out.at 2 rfl)) hb2) (Nat.lt_of_lt_of_le (blk_lt (HK.out.at 2 rfl)) hb.size))); have n0_ := Aside0.mk (below_step (by repeat (first | (with_reducible first | exact HB.out | apply below_alloc | apply pw_below_drewN | apply below_drew1) | exact HB.out)) hb); have n1_ := Aside0.mk (Kept.step HK.out (fun h_ => by (with_reducible repeat (first | refine Kept.alloc ?_ _ | refine Kept.drewN ?_ _ | refine Kept.drew ?_)); exact h_) hb); clear HB HK hb; have HB := n0_; have HK := n1_; clear n0_ n1_; clear hb1 hb2 hH)
      have n0_ := HK.out.alloc (.cells #[.int .i64 12, .func (.func 89) #[] #[.pointer (some ⟨b1, 0, none⟩)], .func (.func 90) #[] #[.pointer (some ⟨b2, 0, none⟩)]] 73 (0, 0))
      have n1_ := n0_.more (blk_alloc HH.out.get (.cells #[.int .i64 12, .func (.func 89) #[] #[.pointer (some ⟨b1, 0, none⟩)], .func (.func 90) #[] #[.pointer (some ⟨b2, 0, none⟩)]] 73 (0, 0)))
      have n2_ := n1_.more (blk_alloc HH.out.put (.cells #[.int .i64 12, .func (.func 89) #[] #[.pointer (some ⟨b1, 0, none⟩)], .func (.func 90) #[] #[.pointer (some ⟨b2, 0, none⟩)]] 73 (0, 0)))
      have n3_ := n2_.more (heap_alloc_new w1 (.cells #[.int .i64 12, .func (.func 89) #[] #[.pointer (some ⟨b1, 0, none⟩)], .func (.func 90) #[] #[.pointer (some ⟨b2, 0, none⟩)]] 73 (0, 0)))
      have n4_ := below_alloc HB.out (.cells #[.int .i64 12, .func (.func 89) #[] #[.pointer (some ⟨b1, 0, none⟩)], .func (.func 90) #[] #[.pointer (some ⟨b2, 0, none⟩)]] 73 (0, 0))
      go_meet
      exact ⟨_, b1, b2, _, _, rfl, rfl, ⟨.inr (.inl ⟨.inr rfl, rfl, rfl, HN.out⟩)⟩, ⟨n3_⟩, ⟨n4_⟩⟩
    · have HKD := Aside0.mk hk
      clear hk hst
      go_wp2_with (go_at_call 35; refine (edgeForm0 kind (by have := HKD.out; omega) (by have := HKD.out; omega) (by have := HKD.out; omega) _).mono ?_; rintro e w1 ⟨rfl, hb⟩; have HN := Aside0.mk (Nat.lt_of_lt_of_le (blk_lt (HK.out.at 2 rfl)) hb.size); have n0_ := Aside0.mk (below_step (by repeat (first | (with_reducible first | exact HB.out | apply below_alloc | apply pw_below_drewN | apply below_drew1) | exact HB.out)) hb); have n1_ := Aside0.mk (Kept.step HK.out (fun h_ => by (with_reducible repeat (first | refine Kept.alloc ?_ _ | refine Kept.drewN ?_ _ | refine Kept.drew ?_)); exact h_) hb); clear HB HK hb; have HB := n0_; have HK := n1_; clear n0_ n1_)
      have n0_ := HK.out.alloc (.cells #[.int .i64 0, .nilFunc, .nilFunc] 73 (0, 0))
      have n3_ := n0_.more (heap_alloc_new w1 (.cells #[.int .i64 0, .nilFunc, .nilFunc] 73 (0, 0)))
      have n4_ := below_alloc HB.out (.cells #[.int .i64 0, .nilFunc, .nilFunc] 73 (0, 0))
      go_meet
      exact ⟨_, 0, 0, _, _, rfl, rfl, ⟨.inr (.inr ⟨HKD.out, rfl, rfl, HN.out⟩)⟩, ⟨n3_⟩, ⟨n4_⟩⟩
  case rest =>
    obtain ⟨gf, b1, b2, c, l, rfl, rfl, HEF, HK, HB⟩ := hcut
    go_upto_region 3 with (go_at_call 25; refine (bufferR _).mono ?_; rintro e w3 ⟨g, rfl, hg, hge, hb⟩; have HG := Aside0.mk hg; have HOFF := Aside0.mk (HK.out.off hge); have HGE := Aside0.mk (Nat.le_trans HB.out.size hge); have n0_ := Aside0.mk (below_step (by repeat (first | (with_reducible first | exact HB.out | apply below_alloc | apply pw_below_drewN | apply below_drew1) | exact HB.out)) hb); have n1_ := Aside0.mk (Kept.step HK.out (fun h_ => by (with_reducible repeat (first | refine Kept.alloc ?_ _ | refine Kept.drewN ?_ _ | refine Kept.drew ?_)); exact h_) hb); clear HB HK hb; have HB := n0_; have HK := n1_; clear n0_ n1_; clear hg hge)
    go_cut [41] from 36 to 41 (fun v41 W => ∃ bb : Bool, v41 = .bool bb ∧ Aside0 (bb = true ↔ (kind < 1 ∨ (1 ≤ kind ∧ kind > 3))) ∧ Aside0 (Kept W l) ∧ Aside0 (At8 5 W g (List.replicate 102 99)) ∧ Aside0 (Below w.heap.size w W))
    case first =>
      by_cases h1 : kind < 1
      · have c1 : decide (kind < 1) = true := decide_eq_true h1
        have HQ := Aside0.mk h1
        clear h1
        go_wp2
        go_meet
        exact ⟨true, rfl, ⟨⟨fun _ => .inl HQ.out, fun _ => rfl⟩⟩, ⟨by (with_reducible repeat (first | refine Kept.alloc ?_ _ | refine Kept.drewN ?_ _ | refine Kept.drew ?_)); exact HK.out⟩, ⟨by (with_reducible repeat (first | refine At8.alloc ?_ _ | refine At8.drewN ?_ _ | refine At8.drew ?_)); exact HG.out⟩, ⟨by repeat (first | (with_reducible first | exact HB.out | apply below_alloc | apply pw_below_drewN | apply below_drew1) | exact HB.out)⟩⟩
      · have c1 : decide (kind < 1) = false := decide_eq_false h1
        by_cases h2 : kind > 3
        · have c2 : decide (kind > 3) = true := decide_eq_true h2
          have HQ := Aside0.mk (And.intro h1 h2)
          clear h1 h2
          go_wp2
          go_meet
          exact ⟨true, rfl, ⟨⟨fun _ => .inr ⟨by have := HQ.out; omega, HQ.out.2⟩, fun _ => rfl⟩⟩, ⟨by (with_reducible repeat (first | refine Kept.alloc ?_ _ | refine Kept.drewN ?_ _ | refine Kept.drew ?_)); exact HK.out⟩, ⟨by (with_reducible repeat (first | refine At8.alloc ?_ _ | refine At8.drewN ?_ _ | refine At8.drew ?_)); exact HG.out⟩, ⟨by repeat (first | (with_reducible first | exact HB.out | apply below_alloc | apply pw_below_drewN | apply below_drew1) | exact HB.out)⟩⟩
        · have c2 : decide (kind > 3) = false := decide_eq_false h2
          have HQ := Aside0.mk (And.intro h1 h2)
          clear h1 h2
          go_wp2
          go_meet
          exact ⟨false, rfl, ⟨⟨fun h => by (cases h), fun h => by (exfalso; have := HQ.out; omega)⟩⟩, ⟨by (with_reducible repeat (first | refine Kept.alloc ?_ _ | refine Kept.drewN ?_ _ | refine Kept.drew ?_)); exact HK.out⟩, ⟨by (with_reducible repeat (first | refine At8.alloc ?_ _ | refine At8.drewN ?_ _ | refine At8.drew ?_)); exact HG.out⟩, ⟨by repeat (first | (with_reducible first | exact HB.out | apply below_alloc | apply pw_below_drewN | apply below_drew1) | exact HB.out)⟩⟩
    case rest =>
      clear HK HB HG
      obtain ⟨bb, rfl, HI, HK, HG, HB⟩ := hcut
      go_upto_if 41 with (fail)
      go_cut [] from 14 to 98 (fun W => Kept W [(w.heap.size + 1, (.cells #[.int .u32 us, .int .u64 ua, .int .u64 ub] 67 (0, 0))), (w.heap.size + 1 + 1, (.cells #[.int .u64 s0, .int .u64 s1, .int .u64 s2, .int .u64 s3, .int .u64 s4, .int .u64 s5, .int .u64 s6, .int .u64 s7] 69 (0, 0)))] ∧ Below w.heap.size w W)
      case first =>
        rcases HEF.out with ⟨rfl, rfl, rfl, hn⟩ | ⟨hk, rfl, rfl, hn⟩ | ⟨hk, rfl, rfl, hn⟩
        · obtain rfl : bb = false := by
            cases bb
            · rfl
            · have := HI.out.mp rfl
              omega
          have HN := Aside0.mk hn
          clear hn HEF HI
          go_upto_region 8 with (first | (refine wpList_load_row ?hg 73 (.tmp 11) ?ho (gf) ?hx 73 _ (0, 0) _ (HK.out.at 0 rfl) Try.underlying73 rfl (by kernel_rfl) ?_; (case hg => rfl); (case ho => rfl); (case hx => rfl)) | (refine wpList_load_row ?hg 64 (.tmp 6) ?ho (w.heap.size) ?hx 64 _ (0, 0) _ (HK.out.at 3 rfl) Try.underlying64 rfl (by kernel_rfl) ?_; (case hg => rfl); (case ho => rfl); (case hx => rfl)) | (go_at_call 36; refine (layE lenOk 8 b1 b2 g 100 102 es ed eu _ _ ⟨HK.out.at 1 rfl, HK.out.at 2 rfl⟩ HG.out (by rw [List.length_replicate]; omega) (by omega) (by decide) (by omega) Hes.out.1 Hes.out.2 Hed.out.1 Hed.out.2 Heu.out.1 Heu.out.2).mono ?_; rintro e w4 ⟨rfl, h1, h2⟩; have n0_ := Aside0.mk (show At8 5 w4 g (eW 8 es ed eu ++ rest 8) by rw [← edgeB_val 8 (by omega)]; exact h1); have n1_ := Aside0.mk (HK.out.onl h2 HOFF.out); have n2_ := Aside0.mk (Onl.fresh (Onl.trans ((Onl.refl (fun k => w.heap.size ≤ k) w).below HB.out) (h2.mono (fun k hk => by have := HGE.out; omega)))); clear HB HK HG h1 h2; have HG := n0_; have HK := n1_; have HB := n2_; clear n0_ n1_ n2_))
          have he2 := blk_cell (HK.out.at 3 rfl) 2
          have hf2 := blk_frozen (HK.out.at 3 rfl) 2
          go_upto_region 10 with (fail)
          have n0_ : Kept _ ((w.heap.size, (.cells #[.int .u32 es, .int .u32 ed, .int .u32 0] 64 (0, 0))) :: (w.heap.size + 1, (.cells #[.int .u32 us, .int .u64 ua, .int .u64 ub] 67 (0, 0))) :: (w.heap.size + 1 + 1, (.cells #[.int .u64 s0, .int .u64 s1, .int .u64 s2, .int .u64 s3, .int .u64 s4, .int .u64 s5, .int .u64 s6, .int .u64 s7] 69 (0, 0))) :: []) := ⟨blk_put (HK.out.at 3 rfl) 2 (.int .u32 0) rfl, Kept.far (g := w.heap.size) (i := 2) (u := .int .u32 0) (show Kept _ ((w.heap.size + 1, (.cells #[.int .u32 us, .int .u64 ua, .int .u64 ub] 67 (0, 0))) :: (w.heap.size + 1 + 1, (.cells #[.int .u64 s0, .int .u64 s1, .int .u64 s2, .int .u64 s3, .int .u64 s4, .int .u64 s5, .int .u64 s6, .int .u64 s7] 69 (0, 0))) :: []) from ⟨HK.out.at 4 rfl, HK.out.at 5 rfl, trivial⟩) ((Off.nil.cons (by omega)).cons (by omega))⟩
          have n1_ : Kept _ ((gf, (.cells #[.int .i64 8, .func (.func 89) #[] #[.pointer (some ⟨b1, 0, none⟩)], .func (.func 90) #[] #[.pointer (some ⟨b2, 0, none⟩)]] 73 (0, 0))) :: (b1, .cells #[.func (.func 68) #[] #[]] 120 (0, 0)) :: (b2, .cells #[.func (.func 69) #[] #[]] 122 (0, 0)) :: (w.heap.size, (.cells #[.int .u32 es, .int .u32 ed, .int .u32 0] 64 (0, 0))) :: (w.heap.size + 1, (.cells #[.int .u32 us, .int .u64 ua, .int .u64 ub] 67 (0, 0))) :: (w.heap.size + 1 + 1, (.cells #[.int .u64 s0, .int .u64 s1, .int .u64 s2, .int .u64 s3, .int .u64 s4, .int .u64 s5, .int .u64 s6, .int .u64 s7] 69 (0, 0))) :: []) := ⟨(Below.heap_setCell _ ⟨w.heap.size, 2, none⟩ (.int .u32 0) gf (by have := HN.out; simp only []; omega)).trans (HK.out.at 0 rfl), (Below.heap_setCell _ ⟨w.heap.size, 2, none⟩ (.int .u32 0) b1 (by have := HN.out; simp only []; omega)).trans (HK.out.at 1 rfl), (Below.heap_setCell _ ⟨w.heap.size, 2, none⟩ (.int .u32 0) b2 (by have := HN.out; simp only []; omega)).trans (HK.out.at 2 rfl), n0_⟩
          have n2_ := Aside0.mk (below_set (j := 2) (v := .int .u32 0) HB.out (Nat.le_refl _))
          have n3_ := Aside0.mk (HG.out.far' (g' := w.heap.size) (fun e => HOFF.out.at 3 rfl e.symm) 2 (.int .u32 0))
          clear HK HB HG he2 hf2 n0_
          have HK := Aside0.mk n1_
          have HB := n2_
          have HG := n3_
          clear n1_ n2_ n3_
          go_upto_region 11 with (first | (refine wpList_load_row ?hg 73 (.tmp 11) ?ho (gf) ?hx 73 _ (0, 0) _ (HK.out.at 0 rfl) Try.underlying73 rfl (by kernel_rfl) ?_; (case hg => rfl); (case ho => rfl); (case hx => rfl)) | (go_at_call 38; refine (takeE8v b1 b2 g es ed eu _ HG.out (HK.out.at 2 rfl) Hes.out.1 Hes.out.2 Hed.out.1 Hed.out.2 Heu.out.1 Heu.out.2).mono ?_; rintro e w5 ⟨rfl, hb⟩; have n0_ := Aside0.mk (below_step (by repeat (first | (with_reducible first | exact HB.out | apply below_alloc | apply pw_below_drewN | apply below_drew1) | exact HB.out)) hb); have n1_ := Aside0.mk (Kept.step HK.out (fun h_ => by (with_reducible repeat (first | refine Kept.alloc ?_ _ | refine Kept.drewN ?_ _ | refine Kept.drew ?_)); exact h_) hb); have n2_ := Aside0.mk (At8.step HG.out (fun h_ => by (with_reducible repeat (first | refine At8.alloc ?_ _ | refine At8.drewN ?_ _ | refine At8.drew ?_)); exact h_) hb); clear HB HK HG hb; have HB := n0_; have HK := n1_; have HG := n2_; clear n0_ n1_ n2_))
          have n0_ := Aside0.mk ((HK.out.alloc (.cells #[.int .u32 es, .int .u32 ed, .int .u32 0] 64 (0, 0))).more (heap_alloc_new w5 (.cells #[.int .u32 es, .int .u32 ed, .int .u32 0] 64 (0, 0))))
          have n1_ := Aside0.mk (HG.out.alloc (.cells #[.int .u32 es, .int .u32 ed, .int .u32 0] 64 (0, 0)))
          have n2_ := Aside0.mk (below_alloc HB.out (.cells #[.int .u32 es, .int .u32 ed, .int .u32 0] 64 (0, 0)))
          clear HK HG HB
          have HK := n0_
          have HG := n1_
          have HB := n2_
          clear n0_ n1_ n2_
          generalize w5.alloc (.cells #[.int .u32 es, .int .u32 ed, .int .u32 0] 64 (0, 0)) = w6 at HK HG HB ⊢
          generalize w5.heap.size = gx at HK HG HB ⊢
          have HEB := Aside0.mk (edgeBytes_val 1 8 (by omega) es ed 0 Hes.out.1 Hes.out.2 Hed.out.1 Hed.out.2 (by omega) (by omega))
          have HLA := Aside0.mk (show eW 8 es ed eu = eW 8 es ed 0 from rfl)
          go_upto_region 12 with (first | (refine wpList_load_row ?hg 64 (.tmp 6) ?ho (w.heap.size) ?hx 64 _ (0, 0) _ (HK.out.at 4 rfl) Try.underlying64 rfl (by kernel_rfl) ?_; (case hg => rfl); (case ho => rfl); (case hx => rfl)) | (go_at_call 39; refine (sluiceref06_EdgeBytes.calls 100 1 es ed 0 _ _ HEB.out).mono ?_; rintro e w7 ⟨v0, rfl, hR, hb⟩; have n0_ := Aside0.mk (below_step (by repeat (first | (with_reducible first | exact HB.out | apply below_alloc | apply pw_below_drewN | apply below_drew1) | exact HB.out)) hb); have n1_ := Aside0.mk (Kept.step HK.out (fun h_ => by (with_reducible repeat (first | refine Kept.alloc ?_ _ | refine Kept.drewN ?_ _ | refine Kept.drew ?_)); exact h_) hb); have n2_ := Aside0.mk (At8.step HG.out (fun h_ => by (with_reducible repeat (first | refine At8.alloc ?_ _ | refine At8.drewN ?_ _ | refine At8.drew ?_)); exact h_) hb); clear HB HK HG hb; have HB := n0_; have HK := n1_; have HG := n2_; clear n0_ n1_ n2_; obtain ⟨Ao, co, eo⟩ := Kd.R_slice hR; subst eo; have HC := Aside0.mk (Kd.R_reads' hR).2.2; have HCC := Aside0.mk (Kd.R_reads' hR).2.1; clear hR) | (go_at_call 29; refine (laidR g 8 co Ao (eW 8 es ed 0) _ (by rw [← HLA.out]; (with_reducible repeat (first | refine At8.alloc ?_ _ | refine At8.drewN ?_ _ | refine At8.drew ?_)); exact HG.out) (eW_len 8 (by omega) es ed 0) (by decide) HC.out HCC.out).mono ?_; rintro e w8 ⟨rfl, ⟨nd, rfl⟩⟩))
          have hne := neq64 es ed 0
          have hx0 := blk_cell (HK.out.at 0 rfl) 0
          have hy0 := blk_cell (HK.out.at 4 rfl) 0
          have hx1 := blk_cell (HK.out.at 0 rfl) 1
          have hy1 := blk_cell (HK.out.at 4 rfl) 1
          have hx2 := blk_cell (HK.out.at 0 rfl) 2
          have hy2 := blk_cell (HK.out.at 4 rfl) 2
          go_wp2_with (first | (refine wpList_load_row ?hg 64 (.tmp 16) ?ho (gx) ?hx 64 _ (0, 0) _ (HK.out.at 0 rfl) Try.underlying64 rfl (by kernel_rfl) ?_; (case hg => rfl); (case ho => rfl); (case hx => rfl)) | (refine wpList_load_row ?hg 64 (.tmp 6) ?ho (w.heap.size) ?hx 64 _ (0, 0) _ (HK.out.at 4 rfl) Try.underlying64 rfl (by kernel_rfl) ?_; (case hg => rfl); (case ho => rfl); (case hx => rfl)) | (go_at_call 14; refine (sluicelaw06_num.calls _ _ _ rfl).mono ?_; rintro e w9 ⟨rfl, ⟨nd2, rfl⟩⟩))
          go_meet
          exact ⟨⟨HK.out.at 5 rfl, HK.out.at 6 rfl, trivial⟩, by repeat (first | (with_reducible first | exact HB.out | apply below_alloc | apply pw_below_drewN | apply below_drew1) | exact HB.out)⟩
        · obtain rfl : bb = false := by
            cases bb
            · rfl
            · have := HI.out.mp rfl
              omega
          have HN := Aside0.mk hn
          have HKD := Aside0.mk hk
          have ck : (kind == 1) = false := beq_eq_false_iff_ne.mpr (by omega)
          clear hn hk HEF HI
          go_upto_region 8 with (first | (refine wpList_load_row ?hg 73 (.tmp 11) ?ho (gf) ?hx 73 _ (0, 0) _ (HK.out.at 0 rfl) Try.underlying73 rfl (by kernel_rfl) ?_; (case hg => rfl); (case ho => rfl); (case hx => rfl)) | (refine wpList_load_row ?hg 64 (.tmp 6) ?ho (w.heap.size) ?hx 64 _ (0, 0) _ (HK.out.at 3 rfl) Try.underlying64 rfl (by kernel_rfl) ?_; (case hg => rfl); (case ho => rfl); (case hx => rfl)) | (go_at_call 36; refine (layE lenOk 12 b1 b2 g 100 102 es ed eu _ _ ⟨HK.out.at 1 rfl, HK.out.at 2 rfl⟩ HG.out (by rw [List.length_replicate]; omega) (by omega) (by decide) (by omega) Hes.out.1 Hes.out.2 Hed.out.1 Hed.out.2 Heu.out.1 Heu.out.2).mono ?_; rintro e w4 ⟨rfl, h1, h2⟩; have n0_ := Aside0.mk (show At8 5 w4 g (eW 12 es ed eu ++ rest 12) by rw [← edgeB_val 12 (by omega)]; exact h1); have n1_ := Aside0.mk (HK.out.onl h2 HOFF.out); have n2_ := Aside0.mk (Onl.fresh (Onl.trans ((Onl.refl (fun k => w.heap.size ≤ k) w).below HB.out) (h2.mono (fun k hk => by have := HGE.out; omega)))); clear HB HK HG h1 h2; have HG := n0_; have HK := n1_; have HB := n2_; clear n0_ n1_ n2_))
          go_upto_region 10 with (fail)
          go_upto_region 11 with (first | (refine wpList_load_row ?hg 73 (.tmp 11) ?ho (gf) ?hx 73 _ (0, 0) _ (HK.out.at 0 rfl) Try.underlying73 rfl (by kernel_rfl) ?_; (case hg => rfl); (case ho => rfl); (case hx => rfl)) | (go_at_call 38; refine (takeE12v b1 b2 g es ed eu _ HG.out (HK.out.at 2 rfl) Hes.out.1 Hes.out.2 Hed.out.1 Hed.out.2 Heu.out.1 Heu.out.2).mono ?_; rintro e w5 ⟨rfl, hb⟩; have n0_ := Aside0.mk (below_step (by repeat (first | (with_reducible first | exact HB.out | apply below_alloc | apply pw_below_drewN | apply below_drew1) | exact HB.out)) hb); have n1_ := Aside0.mk (Kept.step HK.out (fun h_ => by (with_reducible repeat (first | refine Kept.alloc ?_ _ | refine Kept.drewN ?_ _ | refine Kept.drew ?_)); exact h_) hb); have n2_ := Aside0.mk (At8.step HG.out (fun h_ => by (with_reducible repeat (first | refine At8.alloc ?_ _ | refine At8.drewN ?_ _ | refine At8.drew ?_)); exact h_) hb); clear HB HK HG hb; have HB := n0_; have HK := n1_; have HG := n2_; clear n0_ n1_ n2_))
          have n0_ := Aside0.mk ((HK.out.alloc (.cells #[.int .u32 es, .int .u32 ed, .int .u32 eu] 64 (0, 0))).more (heap_alloc_new w5 (.cells #[.int .u32 es, .int .u32 ed, .int .u32 eu] 64 (0, 0))))
          have n1_ := Aside0.mk (HG.out.alloc (.cells #[.int .u32 es, .int .u32 ed, .int .u32 eu] 64 (0, 0)))
          have n2_ := Aside0.mk (below_alloc HB.out (.cells #[.int .u32 es, .int .u32 ed, .int .u32 eu] 64 (0, 0)))
          clear HK HG HB
          have HK := n0_
          have HG := n1_
          have HB := n2_
          clear n0_ n1_ n2_
          generalize w5.alloc (.cells #[.int .u32 es, .int .u32 ed, .int .u32 eu] 64 (0, 0)) = w6 at HK HG HB ⊢
          generalize w5.heap.size = gx at HK HG HB ⊢
          have HEB := Aside0.mk (edgeBytes_val kind 12 (by have := HKD.out; omega) es ed eu Hes.out.1 Hes.out.2 Hed.out.1 Hed.out.2 Heu.out.1 Heu.out.2)
          have HLA := Aside0.mk (show eW 12 es ed eu = eW 12 es ed eu from rfl)
          go_upto_region 12 with (first | (refine wpList_load_row ?hg 64 (.tmp 6) ?ho (w.heap.size) ?hx 64 _ (0, 0) _ (HK.out.at 4 rfl) Try.underlying64 rfl (by kernel_rfl) ?_; (case hg => rfl); (case ho => rfl); (case hx => rfl)) | (go_at_call 39; refine (sluiceref06_EdgeBytes.calls 100 kind es ed eu _ _ HEB.out).mono ?_; rintro e w7 ⟨v0, rfl, hR, hb⟩; have n0_ := Aside0.mk (below_step (by repeat (first | (with_reducible first | exact HB.out | apply below_alloc | apply pw_below_drewN | apply below_drew1) | exact HB.out)) hb); have n1_ := Aside0.mk (Kept.step HK.out (fun h_ => by (with_reducible repeat (first | refine Kept.alloc ?_ _ | refine Kept.drewN ?_ _ | refine Kept.drew ?_)); exact h_) hb); have n2_ := Aside0.mk (At8.step HG.out (fun h_ => by (with_reducible repeat (first | refine At8.alloc ?_ _ | refine At8.drewN ?_ _ | refine At8.drew ?_)); exact h_) hb); clear HB HK HG hb; have HB := n0_; have HK := n1_; have HG := n2_; clear n0_ n1_ n2_; obtain ⟨Ao, co, eo⟩ := Kd.R_slice hR; subst eo; have HC := Aside0.mk (Kd.R_reads' hR).2.2; have HCC := Aside0.mk (Kd.R_reads' hR).2.1; clear hR) | (go_at_call 29; refine (laidR g 12 co Ao (eW 12 es ed eu) _ (by (with_reducible repeat (first | refine At8.alloc ?_ _ | refine At8.drewN ?_ _ | refine At8.drew ?_)); exact HG.out) (eW_len 12 (by omega) es ed eu) (by decide) HC.out HCC.out).mono ?_; rintro e w8 ⟨rfl, ⟨nd, rfl⟩⟩))
          have hne := neq64 es ed eu
          have hx0 := blk_cell (HK.out.at 0 rfl) 0
          have hy0 := blk_cell (HK.out.at 4 rfl) 0
          have hx1 := blk_cell (HK.out.at 0 rfl) 1
          have hy1 := blk_cell (HK.out.at 4 rfl) 1
          have hx2 := blk_cell (HK.out.at 0 rfl) 2
          have hy2 := blk_cell (HK.out.at 4 rfl) 2
          go_wp2_with (first | (refine wpList_load_row ?hg 64 (.tmp 16) ?ho (gx) ?hx 64 _ (0, 0) _ (HK.out.at 0 rfl) Try.underlying64 rfl (by kernel_rfl) ?_; (case hg => rfl); (case ho => rfl); (case hx => rfl)) | (refine wpList_load_row ?hg 64 (.tmp 6) ?ho (w.heap.size) ?hx 64 _ (0, 0) _ (HK.out.at 4 rfl) Try.underlying64 rfl (by kernel_rfl) ?_; (case hg => rfl); (case ho => rfl); (case hx => rfl)) | (go_at_call 14; refine (sluicelaw06_num.calls _ _ _ rfl).mono ?_; rintro e w9 ⟨rfl, ⟨nd2, rfl⟩⟩))
          go_meet
          exact ⟨⟨HK.out.at 5 rfl, HK.out.at 6 rfl, trivial⟩, by repeat (first | (with_reducible first | exact HB.out | apply below_alloc | apply pw_below_drewN | apply below_drew1) | exact HB.out)⟩
        · obtain rfl : bb = true := HI.out.mpr hk
          clear hn hk HEF HI
          have he0 := width0E
          go_upto_region 5 with (first | (refine wpList_load_row ?hg 73 (.tmp 11) ?ho (gf) ?hx 73 _ (0, 0) _ (HK.out.at 0 rfl) Try.underlying73 rfl (by kernel_rfl) ?_; (case hg => rfl); (case ho => rfl); (case hx => rfl)) | (refine wpList_load_row ?hg 64 (.tmp 6) ?ho (w.heap.size) ?hx 64 _ (0, 0) _ (HK.out.at 1 rfl) Try.underlying64 rfl (by kernel_rfl) ?_; (case hg => rfl); (case ho => rfl); (case hx => rfl)) | (go_at_call 36; refine (lay0E _ 100 102 es ed eu _).mono ?_; rintro e w4 ⟨rfl, hb⟩; have n0_ := Aside0.mk (below_step (by repeat (first | (with_reducible first | exact HB.out | apply below_alloc | apply pw_below_drewN | apply below_drew1) | exact HB.out)) hb); have n1_ := Aside0.mk (Kept.step HK.out (fun h_ => by (with_reducible repeat (first | refine Kept.alloc ?_ _ | refine Kept.drewN ?_ _ | refine Kept.drew ?_)); exact h_) hb); clear HB HK hb; have HB := n0_; have HK := n1_; clear n0_ n1_))
          have hx0 := blk_cell (HK.out.at 0 rfl) 0
          have hx1 := blk_cell (HK.out.at 0 rfl) 1
          have hx2 := blk_cell (HK.out.at 0 rfl) 2
          go_wp2_with (first | (go_at_call 14; refine (sluicelaw06_num.calls _ _ _ rfl).mono ?_; rintro e w9 ⟨rfl, ⟨nd2, rfl⟩⟩) | (go_at_call 37; refine (width0E _).mono ?_; rintro e w4 ⟨rfl, hb⟩; have n0_ := Aside0.mk (below_step (by repeat (first | (with_reducible first | exact HB.out | apply below_alloc | apply pw_below_drewN | apply below_drew1) | exact HB.out)) hb); have n1_ := Aside0.mk (Kept.step HK.out (fun h_ => by (with_reducible repeat (first | refine Kept.alloc ?_ _ | refine Kept.drewN ?_ _ | refine Kept.drew ?_)); exact h_) hb); clear HB HK hb; have HB := n0_; have HK := n1_; clear n0_ n1_))
          go_meet
          exact ⟨⟨HK.out.at 2 rfl, HK.out.at 3 rfl, trivial⟩, by repeat (first | (with_reducible first | exact HB.out | apply below_alloc | apply pw_below_drewN | apply below_drew1) | exact HB.out)⟩
      case rest =>
        clear HK HB HG HEF HI HOFF HGE
        obtain ⟨hk, hb⟩ := hcut
        have HK := Aside0.mk hk
        have HB := Aside0.mk hb
        clear hk hb
        go_upto_region 15 with (go_at_call 25; refine (bufferR _).mono ?_; rintro e w3 ⟨g, rfl, hg, hge, hb⟩;  have HG := Aside0.mk hg; have HOFF := Aside0.mk (HK.out.off hge); have HGE := Aside0.mk (Nat.le_trans HB.out.size hge); have n0_ := Aside0.mk (below_step (by repeat (first | (with_reducible first | exact HB.out | apply below_alloc | apply pw_below_drewN | apply below_drew1) | exact HB.out)) hb); have n1_ := Aside0.mk (Kept.step HK.out (fun h_ => by (with_reducible repeat (first | refine Kept.alloc ?_ _ | refine Kept.drewN ?_ _ | refine Kept.drew ?_)); exact h_) hb); clear HB HK hb; have HB := n0_; have HK := n1_; clear n0_ n1_; clear hg hge)
        have hst : ∀ (a : Addr) (fn : Fn) (x y : Array Value) (w : World), Sem.run Try.prog (store a (.func fn x y)) w = match w.cell? a with
            | some _ => if w.frozen? a then .halt (.unsupported (.unsafePointer "a write to bytes that a string shares")) w else .ok () (w.setCell a (.func fn x y))
            | none => match w.farStore Try.prog a (.func fn x y) (Mode.plain == .atomic) with
              | .ok (w', _) => .ok () w'
              | .error h => .halt h w := fun a fn x y w => run_store _ _ _ _ _ rfl
        go_upto_region 16 with (go_at_call 40; refine (updForm _).mono ?_; rintro e w1 ⟨b1, b2, rfl, hb1, hb2, hH, hb⟩; unfold formVU; have HH := Aside0.mk hH; have HN := Aside0.mk (And.intro (Nat.lt_of_lt_of_le HG.out.lt hb1) (And.intro (Nat.lt_of_lt_of_le HG.out.lt hb2) (Nat.lt_of_lt_of_le HG.out.lt hb.size))); have n0_ := Aside0.mk (below_step (by repeat (first | (with_reducible first | exact HB.out | apply below_alloc | apply pw_below_drewN | apply below_drew1) | exact HB.out)) hb); have n1_ := Aside0.mk (Kept.step HK.out (fun h_ => by (with_reducible repeat (first | refine Kept.alloc ?_ _ | refine Kept.drewN ?_ _ | refine Kept.drew ?_)); exact h_) hb); have n2_ := Aside0.mk (At8.step HG.out (fun h_ => by (with_reducible repeat (first | refine At8.alloc ?_ _ | refine At8.drewN ?_ _ | refine At8.drew ?_)); exact h_) hb); clear HB HK HG hb; have HB := n0_; have HK := n1_; have HG := n2_; clear n0_ n1_ n2_; clear hb1 hb2 hH)
        have n0_ := HK.out.alloc (.cells #[.int .i64 20, .func (.func 96) #[] #[.pointer (some ⟨b1, 0, none⟩)], .func (.func 97) #[] #[.pointer (some ⟨b2, 0, none⟩)]] 83 (0, 0))
        have n1_ := n0_.more (blk_alloc HH.out.get (.cells #[.int .i64 20, .func (.func 96) #[] #[.pointer (some ⟨b1, 0, none⟩)], .func (.func 97) #[] #[.pointer (some ⟨b2, 0, none⟩)]] 83 (0, 0)))
        have n2_ := n1_.more (blk_alloc HH.out.put (.cells #[.int .i64 20, .func (.func 96) #[] #[.pointer (some ⟨b1, 0, none⟩)], .func (.func 97) #[] #[.pointer (some ⟨b2, 0, none⟩)]] 83 (0, 0)))
        have n3_ := Aside0.mk (n2_.more (heap_alloc_new w1 (.cells #[.int .i64 20, .func (.func 96) #[] #[.pointer (some ⟨b1, 0, none⟩)], .func (.func 97) #[] #[.pointer (some ⟨b2, 0, none⟩)]] 83 (0, 0))))
        have n4_ := Aside0.mk (below_alloc HB.out (.cells #[.int .i64 20, .func (.func 96) #[] #[.pointer (some ⟨b1, 0, none⟩)], .func (.func 97) #[] #[.pointer (some ⟨b2, 0, none⟩)]] 83 (0, 0)))
        have n5_ := Aside0.mk (HG.out.alloc (.cells #[.int .i64 20, .func (.func 96) #[] #[.pointer (some ⟨b1, 0, none⟩)], .func (.func 97) #[] #[.pointer (some ⟨b2, 0, none⟩)]] 83 (0, 0)))
        have n6_ : Aside0 (Off g _) := ⟨((HOFF.out.cons (o := .cells #[.func (.func 74) #[] #[]] 128 (0, 0)) (show b2 ≠ g by have := HN.out; omega)).cons (o := .cells #[.func (.func 73) #[] #[]] 126 (0, 0)) (show b1 ≠ g by have := HN.out; omega)).cons (o := (.cells #[.int .i64 20, .func (.func 96) #[] #[.pointer (some ⟨b1, 0, none⟩)], .func (.func 97) #[] #[.pointer (some ⟨b2, 0, none⟩)]] 83 (0, 0))) (show w1.heap.size ≠ g by have := HN.out; omega)⟩
        clear HK HB HG HH HOFF n0_ n1_ n2_ hst
        have HK := n3_
        have HB := n4_
        have HG := n5_
        have HOFF := n6_
        clear n3_ n4_ n5_ n6_
        generalize w1.alloc (.cells #[.int .i64 20, .func (.func 96) #[] #[.pointer (some ⟨b1, 0, none⟩)], .func (.func 97) #[] #[.pointer (some ⟨b2, 0, none⟩)]] 83 (0, 0)) = w2 at HK HB HG ⊢
        generalize w1.heap.size = gf at HK HB HN HOFF ⊢
        clear w1
        go_upto_region 17 with (first | (refine wpList_load_row ?hg 83 (.tmp 19) ?ho (gf) ?hx 83 _ (0, 0) _ (HK.out.at 0 rfl) Try.underlying83 rfl (by kernel_rfl) ?_; (case hg => rfl); (case ho => rfl); (case hx => rfl)) | (refine wpList_load_row ?hg 67 (.tmp 7) ?ho (w.heap.size + 1) ?hx 67 _ (0, 0) _ (HK.out.at 3 rfl) Try.underlying67 rfl (by kernel_rfl) ?_; (case hg => rfl); (case ho => rfl); (case hx => rfl)) | (go_at_call 41; refine (layU lenOk 20 b1 b2 g 100 102 us ua ub _ _ ⟨HK.out.at 1 rfl, HK.out.at 2 rfl⟩ HG.out (by rw [List.length_replicate]; omega) (by omega) (by decide) rfl Hus.out.1 Hus.out.2 Hua.out.1 Hua.out.2 Hub.out.1 Hub.out.2).mono ?_; rintro e w4 ⟨rfl, h1, h2⟩; have n0_ := Aside0.mk (show At8 5 w4 g (uW us ua ub ++ rest 20) by rw [← updB_val]; exact h1); have n1_ := Aside0.mk (HK.out.onl h2 HOFF.out); have n2_ := Aside0.mk (Onl.fresh (Onl.trans ((Onl.refl (fun k => w.heap.size ≤ k) w).below HB.out) (h2.mono (fun k hk => by have := HGE.out; omega)))); clear HB HK HG h1 h2; have HG := n0_; have HK := n1_; have HB := n2_; clear n0_ n1_ n2_))
        go_upto_region 18 with (first | (refine wpList_load_row ?hg 83 (.tmp 19) ?ho (gf) ?hx 83 _ (0, 0) _ (HK.out.at 0 rfl) Try.underlying83 rfl (by kernel_rfl) ?_; (case hg => rfl); (case ho => rfl); (case hx => rfl)) | (go_at_call 42; refine (takeUv b1 b2 g us ua ub _ HG.out (HK.out.at 2 rfl) Hus.out.1 Hus.out.2 Hua.out.1 Hua.out.2 Hub.out.1 Hub.out.2).mono ?_; rintro e w5 ⟨rfl, hb⟩; have n0_ := Aside0.mk (below_step (by repeat (first | (with_reducible first | exact HB.out | apply below_alloc | apply pw_below_drewN | apply below_drew1) | exact HB.out)) hb); have n1_ := Aside0.mk (Kept.step HK.out (fun h_ => by (with_reducible repeat (first | refine Kept.alloc ?_ _ | refine Kept.drewN ?_ _ | refine Kept.drew ?_)); exact h_) hb); have n2_ := Aside0.mk (At8.step HG.out (fun h_ => by (with_reducible repeat (first | refine At8.alloc ?_ _ | refine At8.drewN ?_ _ | refine At8.drew ?_)); exact h_) hb); clear HB HK HG hb; have HB := n0_; have HK := n1_; have HG := n2_; clear n0_ n1_ n2_))
        have n0_ := Aside0.mk ((HK.out.alloc (.cells #[.int .u32 us, .int .u64 ua, .int .u64 ub] 67 (0, 0))).more (heap_alloc_new w5 (.cells #[.int .u32 us, .int .u64 ua, .int .u64 ub] 67 (0, 0))))
        have n1_ := Aside0.mk (HG.out.alloc (.cells #[.int .u32 us, .int .u64 ua, .int .u64 ub] 67 (0, 0)))
        have n2_ := Aside0.mk (below_alloc HB.out (.cells #[.int .u32 us, .int .u64 ua, .int .u64 ub] 67 (0, 0)))
        clear HK HG HB
        have HK := n0_
        have HG := n1_
        have HB := n2_
        clear n0_ n1_ n2_
        generalize w5.alloc (.cells #[.int .u32 us, .int .u64 ua, .int .u64 ub] 67 (0, 0)) = w6 at HK HG HB ⊢
        generalize w5.heap.size = gy at HK HG HB ⊢
        have HUB := Aside0.mk (updateBytes_val us ua ub Hus.out.1 Hus.out.2 Hua.out.1 Hua.out.2 Hub.out.1 Hub.out.2)
        go_upto_region 19 with (first | (refine wpList_load_row ?hg 67 (.tmp 7) ?ho (w.heap.size + 1) ?hx 67 _ (0, 0) _ (HK.out.at 4 rfl) Try.underlying67 rfl (by kernel_rfl) ?_; (case hg => rfl); (case ho => rfl); (case hx => rfl)) | (go_at_call 43; refine (sluiceref06_UpdateBytes.calls 100 us ua ub _ _ HUB.out).mono ?_; rintro e w7 ⟨v0, rfl, hR, hb⟩; have n0_ := Aside0.mk (below_step (by repeat (first | (with_reducible first | exact HB.out | apply below_alloc | apply pw_below_drewN | apply below_drew1) | exact HB.out)) hb); have n1_ := Aside0.mk (Kept.step HK.out (fun h_ => by (with_reducible repeat (first | refine Kept.alloc ?_ _ | refine Kept.drewN ?_ _ | refine Kept.drew ?_)); exact h_) hb); have n2_ := Aside0.mk (At8.step HG.out (fun h_ => by (with_reducible repeat (first | refine At8.alloc ?_ _ | refine At8.drewN ?_ _ | refine At8.drew ?_)); exact h_) hb); clear HB HK HG hb; have HB := n0_; have HK := n1_; have HG := n2_; clear n0_ n1_ n2_; obtain ⟨Ao, co, eo⟩ := Kd.R_slice hR; subst eo; have HC := Aside0.mk (Kd.R_reads' hR).2.2; have HCC := Aside0.mk (Kd.R_reads' hR).2.1; clear hR) | (go_at_call 29; refine (laidR g 20 co Ao (uW us ua ub) _ (by (with_reducible repeat (first | refine At8.alloc ?_ _ | refine At8.drewN ?_ _ | refine At8.drew ?_)); exact HG.out) (uW_len us ua ub) (by decide) HC.out HCC.out).mono ?_; rintro e w8 ⟨rfl, ⟨nd, rfl⟩⟩))
        go_cut [24] from 115 to 119 (fun v24 W => v24 = .int .i64 67 ∧ Kept W ((gy, (.cells #[.int .u32 us, .int .u64 ua, .int .u64 ub] 67 (0, 0))) :: (gf, (.cells #[.int .i64 20, .func (.func 96) #[] #[.pointer (some ⟨b1, 0, none⟩)], .func (.func 97) #[] #[.pointer (some ⟨b2, 0, none⟩)]] 83 (0, 0))) :: (b1, .cells #[.func (.func 73) #[] #[]] 126 (0, 0)) :: (b2, .cells #[.func (.func 74) #[] #[]] 128 (0, 0)) :: (w.heap.size + 1, (.cells #[.int .u32 us, .int .u64 ua, .int .u64 ub] 67 (0, 0))) :: (w.heap.size + 1 + 1, (.cells #[.int .u64 s0, .int .u64 s1, .int .u64 s2, .int .u64 s3, .int .u64 s4, .int .u64 s5, .int .u64 s6, .int .u64 s7] 69 (0, 0))) :: []) ∧ Below w.heap.size w W)
        case first =>
          obtain ⟨i5, hi5, _, _, _⟩ := info_parts info5
          have hct := Cut.cut_to0 (P := Try.prog) 44 5 .i64 Try.underlying44 hi5 (some ⟨g, 0, none⟩) 100 102 19 (by decide) (by decide) (by decide)
          refine start_ (n := 6) (S := fun w' => Kept w' ((gy, (.cells #[.int .u32 us, .int .u64 ua, .int .u64 ub] 67 (0, 0))) :: (gf, (.cells #[.int .i64 20, .func (.func 96) #[] #[.pointer (some ⟨b1, 0, none⟩)], .func (.func 97) #[] #[.pointer (some ⟨b2, 0, none⟩)]] 83 (0, 0))) :: (b1, .cells #[.func (.func 73) #[] #[]] 126 (0, 0)) :: (b2, .cells #[.func (.func 74) #[] #[]] 128 (0, 0)) :: (w.heap.size + 1, (.cells #[.int .u32 us, .int .u64 ua, .int .u64 ub] 67 (0, 0))) :: (w.heap.size + 1 + 1, (.cells #[.int .u64 s0, .int .u64 s1, .int .u64 s2, .int .u64 s3, .int .u64 s4, .int .u64 s5, .int .u64 s6, .int .u64 s7] 69 (0, 0))) :: []) ∧ Below w.heap.size w w') (ds := []) #[false, false, false, false, false, false] (by kernel_rfl) rfl rfl ⟨by (with_reducible repeat (first | refine Kept.alloc ?_ _ | refine Kept.drewN ?_ _ | refine Kept.drew ?_)); exact HK.out, by repeat (first | (with_reducible first | exact HB.out | apply below_alloc | apply pw_below_drewN | apply below_drew1) | exact HB.out)⟩ (fun hHeld => ?_)
          refine pure_ (i := 1) (N := some 116) (v := ?_) (a' := ?_) #[false, true, false, false, false, false] rfl rfl (by kernel_rfl) (fun _ _ _ h => h) (Or.inl ⟨by rfl, ?_⟩) ?_ ?_
          rotate_left
          · intro w'
            go_simp
            with_reducible rfl
          rotate_left
          · simp only [Act.put, List.setIfInBounds_toArray, List.set_cons_zero, List.set_cons_succ, i64_w, i32_w]
            rfl
          refine take_ (i := 0) (N := some 115) (v := ?_) (a' := ?_) #[true, true, false, false, false, false] rfl rfl (by kernel_rfl) (fun _ _ _ h => h) (Or.inl ⟨by rfl, ?_⟩) hHeld ?_ ?_
          rotate_left
          · rintro w' ⟨s0, s1⟩
            have t0 := blk_cell (s0.at 1 rfl) 0
            have t1 := blk_cell (s0.at 1 rfl) 1
            have t2 := blk_cell (s0.at 1 rfl) 2
            go_simp
            with_reducible rfl
          rotate_left
          · simp only [Act.put, List.setIfInBounds_toArray, List.set_cons_zero, List.set_cons_succ, i64_w, i32_w]
            rfl
          refine take_ (i := 3) (N := some 118) (v := ?_) (a' := ?_) #[true, true, false, true, false, false] rfl rfl (by kernel_rfl) (fun _ _ _ h => h) (Or.inl ⟨by rfl, ?_⟩) hHeld ?_ ?_
          rotate_left
          · rintro w' ⟨s0, s1⟩
            have t0 := blk_cell (s0.at 4 rfl) 0
            have t1 := blk_cell (s0.at 4 rfl) 1
            have t2 := blk_cell (s0.at 4 rfl) 2
            go_simp
            with_reducible rfl
          rotate_left
          · simp only [Act.put, List.setIfInBounds_toArray, List.set_cons_zero, List.set_cons_succ, i64_w, i32_w]
            rfl
          refine pure_ (i := 2) (N := some 117) (v := ?_) (a' := ?_) #[true, true, true, true, false, false] rfl rfl (by kernel_rfl) (fun _ _ _ h => h) (Or.inl ⟨by rfl, ?_⟩) ?_ ?_
          rotate_left
          · intro w'
            go_simp
            with_reducible rfl
          rotate_left
          · simp only [Act.put, List.setIfInBounds_toArray, List.set_cons_zero, List.set_cons_succ, i64_w, i32_w]
            rfl
          refine one_ (i := 4) (N := some 119) #[true, true, true, true, true, false] rfl rfl (by kernel_rfl) (by decide) (fun K hK => ?_)
          refine goes_ Try.func41 (by kernel_rfl) rfl #[formVU 20 b1 b2, .slice (some ⟨g, 0, none⟩) 19 102, .agg #[.int .u32 us, .int .u64 ua, .int .u64 ub]] (by rfl) rfl rfl (by simp only [List.map_toArray, List.map_cons, List.map_nil]; rfl) ?_
          refine (layFailU 20 b1 b2 19 102 _ us ua ub _ 67 (by decide) (.inr rfl)).mono ?_
          rintro e_ w' ⟨rfl, h2⟩
          refine ⟨_, rfl, ?_⟩
          refine hK.out _ _ ⟨hHeld.1.below h2, below_step hHeld.2 h2⟩ (fun hHeld => ?_)
          clear hK K h2
          refine norm_ (a' := ?_) ?_ ?_
          rotate_left
          · show Act.put _ (some 119) _ = _
            simp only [Act.put, List.setIfInBounds_toArray, List.set_cons_zero, List.set_cons_succ, i64_w, i32_w]
            rfl
          refine pure_ (i := 5) (N := some 24) (v := ?_) (a' := ?_) #[true, true, true, true, true, true] rfl rfl (by kernel_rfl) (fun _ _ _ h => h) (Or.inl ⟨by rfl, ?_⟩) ?_ ?_
          rotate_left
          · intro w'
            go_simp
            with_reducible rfl
          rotate_left
          · simp only [Act.put, List.setIfInBounds_toArray, List.set_cons_zero, List.set_cons_succ, i64_w, i32_w]
            rfl
          refine done_ (by kernel_rfl) ?_
          have HKH := Aside0.mk hHeld.1
          have HBH := Aside0.mk hHeld.2
          clear hHeld
          go_wp2
          go_meet
          exact ⟨rfl, HKH.out, HBH.out⟩
        case rest =>
          obtain ⟨rfl, hk, hb⟩ := hcut
          clear HK HB HG HOFF HGE
          have HK := Aside0.mk hk
          have HB := Aside0.mk hb
          clear hk hb
          go_upto_region 20 with (fail)
          go_cut [25, 26] from 120 to 126 (fun v25 v26 W => v26 = .int .i64 67 ∧ Kept W ((gy, (.cells #[.int .u32 us, .int .u64 ua, .int .u64 ub] 67 (0, 0))) :: (gf, (.cells #[.int .i64 20, .func (.func 96) #[] #[.pointer (some ⟨b1, 0, none⟩)], .func (.func 97) #[] #[.pointer (some ⟨b2, 0, none⟩)]] 83 (0, 0))) :: (b1, .cells #[.func (.func 73) #[] #[]] 126 (0, 0)) :: (b2, .cells #[.func (.func 74) #[] #[]] 128 (0, 0)) :: (w.heap.size + 1, (.cells #[.int .u32 us, .int .u64 ua, .int .u64 ub] 67 (0, 0))) :: (w.heap.size + 1 + 1, (.cells #[.int .u64 s0, .int .u64 s1, .int .u64 s2, .int .u64 s3, .int .u64 s4, .int .u64 s5, .int .u64 s6, .int .u64 s7] 69 (0, 0))) :: []) ∧ Below w.heap.size w W)
          case first =>
            obtain ⟨i5, hi5, _, _, _⟩ := info_parts info5
            have hct := Cut.cut_to0 (P := Try.prog) 44 5 .i64 Try.underlying44 hi5 (some ⟨g, 0, none⟩) 100 102 19 (by decide) (by decide) (by decide)
            refine start_ (n := 10) (S := fun w' => Kept w' ((gy, (.cells #[.int .u32 us, .int .u64 ua, .int .u64 ub] 67 (0, 0))) :: (gf, (.cells #[.int .i64 20, .func (.func 96) #[] #[.pointer (some ⟨b1, 0, none⟩)], .func (.func 97) #[] #[.pointer (some ⟨b2, 0, none⟩)]] 83 (0, 0))) :: (b1, .cells #[.func (.func 73) #[] #[]] 126 (0, 0)) :: (b2, .cells #[.func (.func 74) #[] #[]] 128 (0, 0)) :: (w.heap.size + 1, (.cells #[.int .u32 us, .int .u64 ua, .int .u64 ub] 67 (0, 0))) :: (w.heap.size + 1 + 1, (.cells #[.int .u64 s0, .int .u64 s1, .int .u64 s2, .int .u64 s3, .int .u64 s4, .int .u64 s5, .int .u64 s6, .int .u64 s7] 69 (0, 0))) :: []) ∧ Below w.heap.size w w') (ds := [8]) #[false, false, false, false, false, false, false, false, false, false] (by kernel_rfl) rfl rfl ⟨by (with_reducible repeat (first | refine Kept.alloc ?_ _ | refine Kept.drewN ?_ _ | refine Kept.drew ?_)); exact HK.out, by repeat (first | (with_reducible first | exact HB.out | apply below_alloc | apply pw_below_drewN | apply below_drew1) | exact HB.out)⟩ (fun hHeld => ?_)
            refine pure_ (i := 1) (N := some 122) (v := ?_) (a' := ?_) #[false, true, false, false, false, false, false, false, false, false] rfl rfl (by kernel_rfl) (fun _ _ _ h => h) (Or.inl ⟨by rfl, ?_⟩) ?_ ?_
            rotate_left
            · intro w'
              go_simp
              with_reducible rfl
            rotate_left
            · simp only [Act.put, List.setIfInBounds_toArray, List.set_cons_zero, List.set_cons_succ, i64_w, i32_w]
              rfl
            refine take_ (i := 0) (N := some 121) (v := ?_) (a' := ?_) #[true, true, false, false, false, false, false, false, false, false] rfl rfl (by kernel_rfl) (fun _ _ _ h => h) (Or.inl ⟨by rfl, ?_⟩) hHeld ?_ ?_
            rotate_left
            · rintro w' ⟨s0, s1⟩
              have t0 := blk_cell (s0.at 1 rfl) 0
              have t1 := blk_cell (s0.at 1 rfl) 1
              have t2 := blk_cell (s0.at 1 rfl) 2
              go_simp
              with_reducible rfl
            rotate_left
            · simp only [Act.put, List.setIfInBounds_toArray, List.set_cons_zero, List.set_cons_succ, i64_w, i32_w]
              rfl
            refine pure_ (i := 2) (N := some 123) (v := ?_) (a' := ?_) #[true, true, true, false, false, false, false, false, false, false] rfl rfl (by kernel_rfl) (fun _ _ _ h => h) (Or.inl ⟨by rfl, ?_⟩) ?_ ?_
            rotate_left
            · intro w'
              go_simp
              with_reducible rfl
            rotate_left
            · simp only [Act.put, List.setIfInBounds_toArray, List.set_cons_zero, List.set_cons_succ, i64_w, i32_w]
              rfl
            refine two_ (i := 3) (j := 7) (Ni := some 124) (Nj := some 25) #[true, true, true, true, false, false, false, false, false, false] #[true, true, true, false, false, false, false, true, false, false] rfl rfl rfl rfl (by kernel_rfl) (by decide) (by decide) (fun K hK => ?_) (fun K hK => ?_)
            · refine goes_ Try.func42 (by kernel_rfl) rfl #[formVU 20 b1 b2, .slice (some ⟨g, 0, none⟩) 19 102] (by rfl) rfl rfl (by simp only [List.map_toArray, List.map_cons, List.map_nil]; rfl) ?_
              refine (takeFailU 20 b1 b2 19 102 _ _ 67 (by decide) (.inr rfl)).mono ?_
              rintro e_ w' ⟨rfl, h2⟩
              refine ⟨_, rfl, ?_⟩
              refine hK.out _ _ ⟨hHeld.1.below h2, below_step hHeld.2 h2⟩ (fun hHeld => ?_)
              clear hK K h2
              refine norm_ (a' := ?_) ?_ ?_
              rotate_left
              · show Act.put _ (some 124) _ = _
                simp only [Act.put, List.setIfInBounds_toArray, List.set_cons_zero, List.set_cons_succ, i64_w, i32_w]
                rfl
              refine pure_ (i := 4) (N := some 120) (v := ?_) (a' := ?_) #[true, true, true, true, true, false, false, false, false, false] rfl rfl (by kernel_rfl) (fun _ _ _ h => h) (Or.inl ⟨by rfl, ?_⟩) ?_ ?_
              rotate_left
              · intro w'
                go_simp
                with_reducible rfl
              rotate_left
              · simp only [Act.put, List.setIfInBounds_toArray, List.set_cons_zero, List.set_cons_succ, i64_w, i32_w]
                rfl
              refine pure_ (i := 5) (N := some 125) (v := ?_) (a' := ?_) #[true, true, true, true, true, true, false, false, false, false] rfl rfl (by kernel_rfl) (fun _ _ _ h => h) (Or.inl ⟨by rfl, ?_⟩) ?_ ?_
              rotate_left
              · intro w'
                go_simp
                with_reducible rfl
              rotate_left
              · simp only [Act.put, List.setIfInBounds_toArray, List.set_cons_zero, List.set_cons_succ, i64_w, i32_w]
                rfl
              refine pure_ (i := 6) (N := some 126) (v := ?_) (a' := ?_) #[true, true, true, true, true, true, true, false, false, false] rfl rfl (by kernel_rfl) (fun _ _ _ h => h) (Or.inl ⟨by rfl, ?_⟩) ?_ ?_
              rotate_left
              · intro w'
                go_simp
                with_reducible rfl
              rotate_left
              · simp only [Act.put, List.setIfInBounds_toArray, List.set_cons_zero, List.set_cons_succ, i64_w, i32_w]
                rfl
              refine one_ (i := 7) (N := some 25) #[true, true, true, true, true, true, true, true, false, false] rfl rfl (by kernel_rfl) (by decide) (fun K hK => ?_)
              refine value_ (w1 := ?_) (v := ?_) (by rfl) rfl ?_ ?_
              rotate_left 2
              · go_simp
                constructor
                · rfl
                · rfl
              refine hK.out _ _ ⟨hHeld.1.alloc _, below_alloc hHeld.2 _⟩ (fun hHeld => ?_)
              clear hK K
              have HZ := Aside0.mk (heap_alloc_new w' (.cells #[.int .u32 0, .int .u64 0, .int .u64 0] 67))
              refine norm_ (a' := ?_) ?_ ?_
              rotate_left
              · show Act.put _ (some 25) _ = _
                simp only [Act.put, List.setIfInBounds_toArray, List.set_cons_zero, List.set_cons_succ, i64_w, i32_w]
                rfl
              refine last_ (i := 8) (N := none) #[true, true, true, true, true, true, true, true, true, false] rfl rfl (by kernel_rfl) (by decide) (fun K hK => ?_)
              have he0 := blk_cell HZ.out 0
              have he1 := blk_cell HZ.out 1
              have he2 := blk_cell HZ.out 2
              have hf0 := blk_frozen HZ.out 0
              have hf1 := blk_frozen HZ.out 1
              have hf2 := blk_frozen HZ.out 2
              refine skip_ (w1 := ?_) (by rfl) rfl ?_ ?_
              rotate_left
              · go_simp
                rfl
              refine hK.out _ _ ?_
              clear hK K he0 he1 he2 hf0 hf1 hf2
              have HKH := Aside0.mk hHeld.1
              have HBH := Aside0.mk hHeld.2
              clear hHeld
              refine pure_ (i := 9) (N := some 26) (v := ?_) (a' := ?_) #[true, true, true, true, true, true, true, true, true, true] rfl rfl (by kernel_rfl) (fun _ _ _ h => h) (Or.inl ⟨by rfl, ?_⟩) ?_ ?_
              rotate_left
              · intro w'
                go_simp
                with_reducible rfl
              rotate_left
              · simp only [Act.put, List.setIfInBounds_toArray, List.set_cons_zero, List.set_cons_succ, i64_w, i32_w]
                rfl
              refine done_ (by kernel_rfl) ?_
              go_wp2
              go_meet
              exact ⟨rfl, HKH.out, HBH.out⟩
            · refine value_ (w1 := ?_) (v := ?_) (by rfl) rfl ?_ ?_
              rotate_left 2
              · go_simp
                constructor
                · rfl
                · rfl
              refine hK.out _ _ ⟨(hHeld.1.alloc _ : Kept (wc.drew.alloc _) _), (below_alloc hHeld.2 _ : Below _ _ (wc.drew.alloc _))⟩ (fun hHeld => ?_)
              clear hK K
              have HZ := Aside0.mk (blk_drew (heap_alloc_new wc (.cells #[.int .u32 0, .int .u64 0, .int .u64 0] 67)))
              refine norm_ (a' := ?_) ?_ ?_
              rotate_left
              · show Act.put _ (some 25) _ = _
                simp only [Act.put, List.setIfInBounds_toArray, List.set_cons_zero, List.set_cons_succ, i64_w, i32_w]
                rfl
              refine one_ (i := 3) (N := some 124) #[true, true, true, true, false, false, false, true, false, false] rfl rfl (by kernel_rfl) (by decide) (fun K hK => ?_)
              refine goes_ Try.func42 (by kernel_rfl) rfl #[formVU 20 b1 b2, .slice (some ⟨g, 0, none⟩) 19 102] (by rfl) rfl rfl (by simp only [List.map_toArray, List.map_cons, List.map_nil]; rfl) ?_
              refine (takeFailU 20 b1 b2 19 102 _ _ 67 (by decide) (.inr rfl)).mono ?_
              rintro e_ w' ⟨rfl, h2⟩
              refine ⟨_, rfl, ?_⟩
              have HZ2 := Aside0.mk (blk_below HZ.out h2)
              clear HZ
              have HZ := HZ2
              clear HZ2
              refine hK.out _ _ ⟨hHeld.1.below h2, below_step hHeld.2 h2⟩ (fun hHeld => ?_)
              clear hK K h2
              refine norm_ (a' := ?_) ?_ ?_
              rotate_left
              · show Act.put _ (some 124) _ = _
                simp only [Act.put, List.setIfInBounds_toArray, List.set_cons_zero, List.set_cons_succ, i64_w, i32_w]
                rfl
              refine pure_ (i := 4) (N := some 120) (v := ?_) (a' := ?_) #[true, true, true, true, true, false, false, true, false, false] rfl rfl (by kernel_rfl) (fun _ _ _ h => h) (Or.inl ⟨by rfl, ?_⟩) ?_ ?_
              rotate_left
              · intro w'
                go_simp
                with_reducible rfl
              rotate_left
              · simp only [Act.put, List.setIfInBounds_toArray, List.set_cons_zero, List.set_cons_succ, i64_w, i32_w]
                rfl
              refine pure_ (i := 5) (N := some 125) (v := ?_) (a' := ?_) #[true, true, true, true, true, true, false, true, false, false] rfl rfl (by kernel_rfl) (fun _ _ _ h => h) (Or.inl ⟨by rfl, ?_⟩) ?_ ?_
              rotate_left
              · intro w'
                go_simp
                with_reducible rfl
              rotate_left
              · simp only [Act.put, List.setIfInBounds_toArray, List.set_cons_zero, List.set_cons_succ, i64_w, i32_w]
                rfl
              refine pure_ (i := 6) (N := some 126) (v := ?_) (a' := ?_) #[true, true, true, true, true, true, true, true, false, false] rfl rfl (by kernel_rfl) (fun _ _ _ h => h) (Or.inl ⟨by rfl, ?_⟩) ?_ ?_
              rotate_left
              · intro w'
                go_simp
                with_reducible rfl
              rotate_left
              · simp only [Act.put, List.setIfInBounds_toArray, List.set_cons_zero, List.set_cons_succ, i64_w, i32_w]
                rfl
              refine last_ (i := 8) (N := none) #[true, true, true, true, true, true, true, true, true, false] rfl rfl (by kernel_rfl) (by decide) (fun K hK => ?_)
              have he0 := blk_cell HZ.out 0
              have he1 := blk_cell HZ.out 1
              have he2 := blk_cell HZ.out 2
              have hf0 := blk_frozen HZ.out 0
              have hf1 := blk_frozen HZ.out 1
              have hf2 := blk_frozen HZ.out 2
              refine skip_ (w1 := ?_) (by rfl) rfl ?_ ?_
              rotate_left
              · go_simp
                rfl
              refine hK.out _ _ ?_
              clear hK K he0 he1 he2 hf0 hf1 hf2
              have HKH := Aside0.mk hHeld.1
              have HBH := Aside0.mk hHeld.2
              clear hHeld
              refine pure_ (i := 9) (N := some 26) (v := ?_) (a' := ?_) #[true, true, true, true, true, true, true, true, true, true] rfl rfl (by kernel_rfl) (fun _ _ _ h => h) (Or.inl ⟨by rfl, ?_⟩) ?_ ?_
              rotate_left
              · intro w'
                go_simp
                with_reducible rfl
              rotate_left
              · simp only [Act.put, List.setIfInBounds_toArray, List.set_cons_zero, List.set_cons_succ, i64_w, i32_w]
                rfl
              refine done_ (by kernel_rfl) ?_
              go_wp2
              go_meet
              exact ⟨rfl, Kept.far (Kept.far (Kept.far HKH.out (HK.out.off (Nat.le_refl _)) _ _) (HK.out.off (Nat.le_refl _)) _ _) (HK.out.off (Nat.le_refl _)) _ _, below_set (below_set (below_set HBH.out HB.out.size) HB.out.size) HB.out.size⟩
          case rest =>
            obtain ⟨rfl, hk, hb⟩ := hcut
            clear HK HB
            have HK := Aside0.mk hk
            have HB := Aside0.mk hb
            clear hk hb
            go_upto_region 21 with (fail)
            go_cut [158] from 127 to 158 (fun v158 W => v158 = .bool false ∧ Kept W [(w.heap.size + 1 + 1, (.cells #[.int .u64 s0, .int .u64 s1, .int .u64 s2, .int .u64 s3, .int .u64 s4, .int .u64 s5, .int .u64 s6, .int .u64 s7] 69 (0, 0)))] ∧ Below w.heap.size w W)
            case first =>
              have hne := neq67 us ua ub
              go_wp2_with (first | (refine wpList_load_row ?hg 83 (.tmp 19) ?ho (gf) ?hx 83 _ (0, 0) _ (HK.out.at 1 rfl) Try.underlying83 rfl (by kernel_rfl) ?_; (case hg => rfl); (case ho => rfl); (case hx => rfl)) | (go_at_call 44; refine (widthU 20 b1 b2 _).mono ?_; rintro e w4 ⟨rfl, hb⟩; have n0_ := Aside0.mk (below_step (by repeat (first | (with_reducible first | exact HB.out | apply below_alloc | apply pw_below_drewN | apply below_drew1) | exact HB.out)) hb); have n1_ := Aside0.mk (Kept.step HK.out (fun h_ => by (with_reducible repeat (first | refine Kept.alloc ?_ _ | refine Kept.drewN ?_ _ | refine Kept.drew ?_)); exact h_) hb); clear HB HK hb; have HB := n0_; have HK := n1_; clear n0_ n1_; have hx0 := blk_cell (HK.out.at 0 rfl) 0; have hy0 := blk_cell (HK.out.at 4 rfl) 0; have hx1 := blk_cell (HK.out.at 0 rfl) 1; have hy1 := blk_cell (HK.out.at 4 rfl) 1; have hx2 := blk_cell (HK.out.at 0 rfl) 2; have hy2 := blk_cell (HK.out.at 4 rfl) 2) | (go_at_call 14; refine (sluicelaw06_num.calls _ _ _ rfl).mono ?_; rintro e w9 ⟨rfl, ⟨nd2, rfl⟩⟩))
              go_meet
              exact ⟨rfl, by (with_reducible repeat (first | refine Kept.alloc ?_ _ | refine Kept.drewN ?_ _ | refine Kept.drew ?_)); exact ⟨HK.out.at 5 rfl, trivial⟩, by repeat (first | (with_reducible first | exact HB.out | apply below_alloc | apply pw_below_drewN | apply below_drew1) | exact HB.out)⟩
            case rest =>
              obtain ⟨rfl, hk, hb⟩ := hcut
              clear HK HB
              have HK := Aside0.mk hk
              have HB := Aside0.mk hb
              clear hk hb
              go_upto_region 23 with (fail)
              go_upto_region 24 with (go_at_call 25; refine (bufferR _).mono ?_; rintro e w3 ⟨g, rfl, hg, hge, hb⟩; have HNG := Aside0.mk (Nat.lt_of_lt_of_le (blk_lt (HK.out.at 0 rfl)) hge); have HG := Aside0.mk hg; have HOFF := Aside0.mk (HK.out.off hge); have HGE := Aside0.mk (Nat.le_trans HB.out.size hge); have n0_ := Aside0.mk (below_step (by repeat (first | (with_reducible first | exact HB.out | apply below_alloc | apply pw_below_drewN | apply below_drew1) | exact HB.out)) hb); have n1_ := Aside0.mk (Kept.step HK.out (fun h_ => by (with_reducible repeat (first | refine Kept.alloc ?_ _ | refine Kept.drewN ?_ _ | refine Kept.drew ?_)); exact h_) hb); clear HB HK hb; have HB := n0_; have HK := n1_; clear n0_ n1_; clear hg hge)
              have hw : words < 1 ∨ words > 8 ∨ (1 ≤ words ∧ words ≤ 8) := by omega
              rcases hw with hw | hw | hw
              · have HQ := Aside0.mk hw
                have c1 : decide (words < 1) = true := decide_eq_true hw
                clear hw
                have hst2 : ∀ (a : Addr) (w : World), Sem.run Try.prog (store a .nilFunc) w = match w.cell? a with
                    | some _ => if w.frozen? a then .halt (.unsupported (.unsafePointer "a write to bytes that a string shares")) w else .ok () (w.setCell a .nilFunc)
                    | none => match w.farStore Try.prog a .nilFunc (Mode.plain == .atomic) with
                      | .ok (w', _) => .ok () w'
                      | .error h => .halt h w := fun a w => run_store _ _ _ _ _ rfl
                go_upto_region 25 with (go_at_call 45; refine (stateForm0 words HQ.out _).mono ?_; rintro e w1 ⟨rfl, hb⟩; have n0_ := Aside0.mk (below_step (by repeat (first | (with_reducible first | exact HB.out | apply below_alloc | apply pw_below_drewN | apply below_drew1) | exact HB.out)) hb); have n1_ := Aside0.mk (Kept.step HK.out (fun h_ => by (with_reducible repeat (first | refine Kept.alloc ?_ _ | refine Kept.drewN ?_ _ | refine Kept.drew ?_)); exact h_) hb); have n2_ := Aside0.mk (At8.step HG.out (fun h_ => by (with_reducible repeat (first | refine At8.alloc ?_ _ | refine At8.drewN ?_ _ | refine At8.drew ?_)); exact h_) hb); clear HB HK HG hb; have HB := n0_; have HK := n1_; have HG := n2_; clear n0_ n1_ n2_)
                have n0_ := Aside0.mk ((HK.out.alloc (.cells #[.int .i64 0, .nilFunc, .nilFunc] 92 (0, 0))).more (heap_alloc_new w1 (.cells #[.int .i64 0, .nilFunc, .nilFunc] 92 (0, 0))))
                have n1_ := Aside0.mk (below_alloc HB.out (.cells #[.int .i64 0, .nilFunc, .nilFunc] 92 (0, 0)))
                clear HK HB HG hst2
                have HK := n0_
                have HB := n1_
                clear n0_ n1_
                generalize w1.alloc (.cells #[.int .i64 0, .nilFunc, .nilFunc] 92 (0, 0)) = w2 at HK HB ⊢
                generalize w1.heap.size = gf at HK HB ⊢
                go_upto_region 26 with (first | (refine wpList_load_row ?hg 92 (.tmp 27) ?ho (gf) ?hx 92 _ (0, 0) _ (HK.out.at 0 rfl) Try.underlying92 rfl (by kernel_rfl) ?_; (case hg => rfl); (case ho => rfl); (case hx => rfl)) | (refine wpList_load_row ?hg 69 (.tmp 9) ?ho (w.heap.size + 1 + 1) ?hx 69 _ (0, 0) _ (HK.out.at 1 rfl) Try.underlying69 rfl (by kernel_rfl) ?_; (case hg => rfl); (case ho => rfl); (case hx => rfl)) | (go_at_call 46; refine (lay0S _ 100 102 s0 s1 s2 s3 s4 s5 s6 s7 _).mono ?_; rintro e w4 ⟨rfl, hb⟩; have n0_ := Aside0.mk (below_step (by repeat (first | (with_reducible first | exact HB.out | apply below_alloc | apply pw_below_drewN | apply below_drew1) | exact HB.out)) hb); have n1_ := Aside0.mk (Kept.step HK.out (fun h_ => by (with_reducible repeat (first | refine Kept.alloc ?_ _ | refine Kept.drewN ?_ _ | refine Kept.drew ?_)); exact h_) hb); clear HB HK hb; have HB := n0_; have HK := n1_; clear n0_ n1_))
                have hx0 := blk_cell (HK.out.at 0 rfl) 0
                have hx1 := blk_cell (HK.out.at 0 rfl) 1
                have hx2 := blk_cell (HK.out.at 0 rfl) 2
                go_wp2_with (first | (go_at_call 14; refine (sluicelaw06_num.calls _ _ _ rfl).mono ?_; rintro e w9 ⟨rfl, ⟨nd2, rfl⟩⟩) | (go_at_call 47; refine (width0S _).mono ?_; rintro e w4 ⟨rfl, hb⟩; have n0_ := Aside0.mk (below_step (by repeat (first | (with_reducible first | exact HB.out | apply below_alloc | apply pw_below_drewN | apply below_drew1) | exact HB.out)) hb); have n1_ := Aside0.mk (Kept.step HK.out (fun h_ => by (with_reducible repeat (first | refine Kept.alloc ?_ _ | refine Kept.drewN ?_ _ | refine Kept.drew ?_)); exact h_) hb); clear HB HK hb; have HB := n0_; have HK := n1_; clear n0_ n1_))
                go_ret
                exact ⟨rfl, by repeat (first | (with_reducible first | exact HB.out | apply below_alloc | apply pw_below_drewN | apply below_drew1) | exact HB.out)⟩
              · have HQ := Aside0.mk hw
                have c1 : decide (words < 1) = false := decide_eq_false (by omega)
                have c2 : decide (words > 8) = true := decide_eq_true hw
                clear hw
                have hst2 : ∀ (a : Addr) (w : World), Sem.run Try.prog (store a .nilFunc) w = match w.cell? a with
                    | some _ => if w.frozen? a then .halt (.unsupported (.unsafePointer "a write to bytes that a string shares")) w else .ok () (w.setCell a .nilFunc)
                    | none => match w.farStore Try.prog a .nilFunc (Mode.plain == .atomic) with
                      | .ok (w', _) => .ok () w'
                      | .error h => .halt h w := fun a w => run_store _ _ _ _ _ rfl
                go_upto_region 25 with (go_at_call 45; refine (stateForm9 words HQ.out _).mono ?_; rintro e w1 ⟨rfl, hb⟩; have n0_ := Aside0.mk (below_step (by repeat (first | (with_reducible first | exact HB.out | apply below_alloc | apply pw_below_drewN | apply below_drew1) | exact HB.out)) hb); have n1_ := Aside0.mk (Kept.step HK.out (fun h_ => by (with_reducible repeat (first | refine Kept.alloc ?_ _ | refine Kept.drewN ?_ _ | refine Kept.drew ?_)); exact h_) hb); have n2_ := Aside0.mk (At8.step HG.out (fun h_ => by (with_reducible repeat (first | refine At8.alloc ?_ _ | refine At8.drewN ?_ _ | refine At8.drew ?_)); exact h_) hb); clear HB HK HG hb; have HB := n0_; have HK := n1_; have HG := n2_; clear n0_ n1_ n2_)
                have n0_ := Aside0.mk ((HK.out.alloc (.cells #[.int .i64 0, .nilFunc, .nilFunc] 92 (0, 0))).more (heap_alloc_new w1 (.cells #[.int .i64 0, .nilFunc, .nilFunc] 92 (0, 0))))
                have n1_ := Aside0.mk (below_alloc HB.out (.cells #[.int .i64 0, .nilFunc, .nilFunc] 92 (0, 0)))
                clear HK HB HG hst2
                have HK := n0_
                have HB := n1_
                clear n0_ n1_
                generalize w1.alloc (.cells #[.int .i64 0, .nilFunc, .nilFunc] 92 (0, 0)) = w2 at HK HB ⊢
                generalize w1.heap.size = gf at HK HB ⊢
                go_upto_region 26 with (first | (refine wpList_load_row ?hg 92 (.tmp 27) ?ho (gf) ?hx 92 _ (0, 0) _ (HK.out.at 0 rfl) Try.underlying92 rfl (by kernel_rfl) ?_; (case hg => rfl); (case ho => rfl); (case hx => rfl)) | (refine wpList_load_row ?hg 69 (.tmp 9) ?ho (w.heap.size + 1 + 1) ?hx 69 _ (0, 0) _ (HK.out.at 1 rfl) Try.underlying69 rfl (by kernel_rfl) ?_; (case hg => rfl); (case ho => rfl); (case hx => rfl)) | (go_at_call 46; refine (lay0S _ 100 102 s0 s1 s2 s3 s4 s5 s6 s7 _).mono ?_; rintro e w4 ⟨rfl, hb⟩; have n0_ := Aside0.mk (below_step (by repeat (first | (with_reducible first | exact HB.out | apply below_alloc | apply pw_below_drewN | apply below_drew1) | exact HB.out)) hb); have n1_ := Aside0.mk (Kept.step HK.out (fun h_ => by (with_reducible repeat (first | refine Kept.alloc ?_ _ | refine Kept.drewN ?_ _ | refine Kept.drew ?_)); exact h_) hb); clear HB HK hb; have HB := n0_; have HK := n1_; clear n0_ n1_))
                have hx0 := blk_cell (HK.out.at 0 rfl) 0
                have hx1 := blk_cell (HK.out.at 0 rfl) 1
                have hx2 := blk_cell (HK.out.at 0 rfl) 2
                go_wp2_with (first | (go_at_call 14; refine (sluicelaw06_num.calls _ _ _ rfl).mono ?_; rintro e w9 ⟨rfl, ⟨nd2, rfl⟩⟩) | (go_at_call 47; refine (width0S _).mono ?_; rintro e w4 ⟨rfl, hb⟩; have n0_ := Aside0.mk (below_step (by repeat (first | (with_reducible first | exact HB.out | apply below_alloc | apply pw_below_drewN | apply below_drew1) | exact HB.out)) hb); have n1_ := Aside0.mk (Kept.step HK.out (fun h_ => by (with_reducible repeat (first | refine Kept.alloc ?_ _ | refine Kept.drewN ?_ _ | refine Kept.drew ?_)); exact h_) hb); clear HB HK hb; have HB := n0_; have HK := n1_; clear n0_ n1_))
                go_ret
                exact ⟨rfl, by repeat (first | (with_reducible first | exact HB.out | apply below_alloc | apply pw_below_drewN | apply below_drew1) | exact HB.out)⟩
              · have HQ := Aside0.mk hw
                clear hw
                have hst : ∀ (a : Addr) (fn : Fn) (x y : Array Value) (w : World), Sem.run Try.prog (store a (.func fn x y)) w = match w.cell? a with
                    | some _ => if w.frozen? a then .halt (.unsupported (.unsafePointer "a write to bytes that a string shares")) w else .ok () (w.setCell a (.func fn x y))
                    | none => match w.farStore Try.prog a (.func fn x y) (Mode.plain == .atomic) with
                      | .ok (w', _) => .ok () w'
                      | .error h => .halt h w := fun a fn x y w => run_store _ _ _ _ _ rfl
                go_upto_region 25 with (go_at_call 45; refine (stateForm words (by have := HQ.out; omega) (by have := HQ.out; omega) _).mono ?_; rintro e w1 ⟨b1, b2, rfl, hb1, hb2, hH, hb⟩; unfold formVS; have HH := Aside0.mk hH; have HN := Aside0.mk (And.intro (Nat.lt_of_lt_of_le HG.out.lt hb1) (And.intro (Nat.lt_of_lt_of_le HG.out.lt hb2) (Nat.lt_of_lt_of_le HG.out.lt hb.size))); have n0_ := Aside0.mk (below_step (by repeat (first | (with_reducible first | exact HB.out | apply below_alloc | apply pw_below_drewN | apply below_drew1) | exact HB.out)) hb); have n1_ := Aside0.mk (Kept.step HK.out (fun h_ => by (with_reducible repeat (first | refine Kept.alloc ?_ _ | refine Kept.drewN ?_ _ | refine Kept.drew ?_)); exact h_) hb); have n2_ := Aside0.mk (At8.step HG.out (fun h_ => by (with_reducible repeat (first | refine At8.alloc ?_ _ | refine At8.drewN ?_ _ | refine At8.drew ?_)); exact h_) hb); clear HB HK HG hb; have HB := n0_; have HK := n1_; have HG := n2_; clear n0_ n1_ n2_; clear hb1 hb2 hH)
                have n0_ := HK.out.alloc (.cells #[.int .i64 (8 * words), .func (.func 100) #[] #[.pointer (some ⟨b1, 0, none⟩)], .func (.func 101) #[] #[.pointer (some ⟨b2, 0, none⟩)]] 92 (0, 0))
                have n1_ := n0_.more (blk_alloc HH.out.get (.cells #[.int .i64 (8 * words), .func (.func 100) #[] #[.pointer (some ⟨b1, 0, none⟩)], .func (.func 101) #[] #[.pointer (some ⟨b2, 0, none⟩)]] 92 (0, 0)))
                have n2_ := n1_.more (blk_alloc HH.out.put (.cells #[.int .i64 (8 * words), .func (.func 100) #[] #[.pointer (some ⟨b1, 0, none⟩)], .func (.func 101) #[] #[.pointer (some ⟨b2, 0, none⟩)]] 92 (0, 0)))
                have n3_ := Aside0.mk (n2_.more (heap_alloc_new w1 (.cells #[.int .i64 (8 * words), .func (.func 100) #[] #[.pointer (some ⟨b1, 0, none⟩)], .func (.func 101) #[] #[.pointer (some ⟨b2, 0, none⟩)]] 92 (0, 0))))
                have n4_ := Aside0.mk (below_alloc HB.out (.cells #[.int .i64 (8 * words), .func (.func 100) #[] #[.pointer (some ⟨b1, 0, none⟩)], .func (.func 101) #[] #[.pointer (some ⟨b2, 0, none⟩)]] 92 (0, 0)))
                have n5_ := Aside0.mk (HG.out.alloc (.cells #[.int .i64 (8 * words), .func (.func 100) #[] #[.pointer (some ⟨b1, 0, none⟩)], .func (.func 101) #[] #[.pointer (some ⟨b2, 0, none⟩)]] 92 (0, 0)))
                have n6_ : Aside0 (Off g _) := ⟨((HOFF.out.cons (o := .cells #[.func (.func 78) #[] #[]] 133 (0, 0)) (show b2 ≠ g by have := HN.out; omega)).cons (o := .cells #[.func (.func 77) #[] #[]] 131 (0, 0)) (show b1 ≠ g by have := HN.out; omega)).cons (o := (.cells #[.int .i64 (8 * words), .func (.func 100) #[] #[.pointer (some ⟨b1, 0, none⟩)], .func (.func 101) #[] #[.pointer (some ⟨b2, 0, none⟩)]] 92 (0, 0))) (show w1.heap.size ≠ g by have := HN.out; omega)⟩
                clear HK HB HG HH HOFF n0_ n1_ n2_ hst
                have HK := n3_
                have HB := n4_
                have HG := n5_
                have HOFF := n6_
                clear n3_ n4_ n5_ n6_
                generalize w1.alloc (.cells #[.int .i64 (8 * words), .func (.func 100) #[] #[.pointer (some ⟨b1, 0, none⟩)], .func (.func 101) #[] #[.pointer (some ⟨b2, 0, none⟩)]] 92 (0, 0)) = w2 at HK HB HG ⊢
                generalize w1.heap.size = gf at HK HB HN HOFF ⊢
                clear w1
                obtain ⟨n, hn⟩ : ∃ n : Nat, words = (n : Int) := ⟨words.toNat, by have := HQ.out; omega⟩
                have HNW := Aside0.mk hn
                have HN8 := Aside0.mk (show 1 ≤ n ∧ n ≤ 8 by have := HQ.out; omega)
                clear hn
                go_upto_region 26 with (first | (refine wpList_load_row ?hg 92 (.tmp 27) ?ho (gf) ?hx 92 _ (0, 0) _ (HK.out.at 0 rfl) Try.underlying92 rfl (by kernel_rfl) ?_; (case hg => rfl); (case ho => rfl); (case hx => rfl)) | (refine wpList_load_row ?hg 69 (.tmp 9) ?ho (w.heap.size + 1 + 1) ?hx 69 _ (0, 0) _ (HK.out.at 3 rfl) Try.underlying69 rfl (by kernel_rfl) ?_; (case hg => rfl); (case ho => rfl); (case hx => rfl)) | (go_at_call 46; refine (layS lenOk (8 * words) b1 b2 g 100 102 n s0 s1 s2 s3 s4 s5 s6 s7 _ _ ⟨HK.out.at 1 rfl, HK.out.at 2 rfl⟩ HG.out (by rw [List.length_replicate]; omega) (by omega) (by unfold roomFS; rw [if_neg (by have := HQ.out; omega), if_neg (by have := HQ.out; omega)]) (by rw [HNW.out]) HN8.out.2 HV.out).mono ?_; rintro e w4 ⟨rfl, h1, h2⟩; have n0_ := Aside0.mk (show At8 5 w4 g (sW [s0, s1, s2, s3, s4, s5, s6, s7] n ++ rest (8 * n)) by rw [← stB_val _ n HN8.out.2]; exact h1); have n1_ := Aside0.mk (HK.out.onl h2 HOFF.out); have n2_ := Aside0.mk (Onl.fresh (Onl.trans ((Onl.refl (fun k => w.heap.size ≤ k) w).below HB.out) (h2.mono (fun k hk => by have := HGE.out; omega)))); clear HB HK HG h1 h2; have HG := n0_; have HK := n1_; have HB := n2_; clear n0_ n1_ n2_))
                have c1 : decide (words < 1) = false := decide_eq_false (by have := HQ.out; omega)
                have c2 : decide (words > 8) = false := decide_eq_false (by have := HQ.out; omega)
                go_wp2_with (fail)
                have n0_ : Aside0 (Kept _ ((gf, (.cells #[.int .i64 (8 * words), .func (.func 100) #[] #[.pointer (some ⟨b1, 0, none⟩)], .func (.func 101) #[] #[.pointer (some ⟨b2, 0, none⟩)]] 92 (0, 0))) :: (b1, .cells #[.func (.func 77) #[] #[]] 131 (0, 0)) :: (b2, .cells #[.func (.func 78) #[] #[]] 133 (0, 0)) :: [])) := ⟨⟨HK.out.at 0 rfl, HK.out.at 1 rfl, HK.out.at 2 rfl, trivial⟩⟩
                have n1_ := Aside0.mk (HK.out.at 3 rfl)
                clear HK
                have HK := n0_
                have HS := n1_
                clear n0_ n1_ c1 c2
                go_loopg [28] (8 - n) (fun kq v28 W => ∃ i : Nat, v28 = .int .i64 (i : Int) ∧ Aside0 (kq + i = 8) ∧ Aside0 (n ≤ i) ∧ Aside0 (Kept W ((gf, (.cells #[.int .i64 (8 * words), .func (.func 100) #[] #[.pointer (some ⟨b1, 0, none⟩)], .func (.func 101) #[] #[.pointer (some ⟨b2, 0, none⟩)]] 92 (0, 0))) :: (b1, .cells #[.func (.func 77) #[] #[]] 131 (0, 0)) :: (b2, .cells #[.func (.func 78) #[] #[]] 133 (0, 0)) :: [])) ∧ Aside0 (W.heap[w.heap.size + 1 + 1]? = some (.cells #[.int .u64 (zs n i 0 s0), .int .u64 (zs n i 1 s1), .int .u64 (zs n i 2 s2), .int .u64 (zs n i 3 s3), .int .u64 (zs n i 4 s4), .int .u64 (zs n i 5 s5), .int .u64 (zs n i 6 s6), .int .u64 (zs n i 7 s7)] 69 (0, 0))) ∧ Aside0 (At8 5 W g (sW [s0, s1, s2, s3, s4, s5, s6, s7] n ++ rest (8 * n))) ∧ Aside0 (Below w.heap.size w W))
                case atStart => exact ⟨n, congrArg (Value.int .i64) HNW.out, ⟨by have := HN8.out; omega⟩, ⟨Nat.le_refl _⟩, HK, ⟨by simp only [zs_start]; exact HS.out⟩, HG, HB⟩
                case round =>
                  clear HK HS HG HB
                  obtain ⟨i, rfl, HI, HNI, HK, HS, HG, HB⟩ := hrel
                  by_cases h1 : i < 8
                  · have c1 : decide ((i : Int) < 8) = true := decide_eq_true (by omega)
                    obtain ⟨x, hx⟩ := zs_some HS.out i h1
                    have hf := blk_frozen HS.out i
                    have H1 := Aside0.mk h1
                    have hq8 := eq_true h1
                    have hp8 := eq_true (show 0 ≤ (i : Int) by omega)
                    have hq9 := eq_true (show (i : Int) < 8 by omega)
                    clear h1
                    go_wp2
                    have hwr : wrap64 ((i : Int) + 1) = ((i + 1 : Nat) : Int) := by
                      have := H1.out
                      unfold wrap64
                      omega
                    rw [hwr]
                    obtain ⟨k1, rfl⟩ : ∃ k1, gk = k1 + 1 := ⟨gk - 1, by have := HI.out; have := H1.out; omega⟩
                    go_roundg k1
                    case measure => omega
                    case rel => exact ⟨i + 1, rfl, ⟨by have := HI.out; omega⟩, ⟨by have := HNI.out; omega⟩, ⟨HK.out.far (g := w.heap.size + 1 + 1) (((Off.nil.cons (by have := HNG.out; have := HN.out; omega)).cons (by have := HNG.out; have := HN.out; omega)).cons (by have := HNG.out; have := HN.out; omega)) _ _⟩, ⟨zs_put HS.out H1.out HNI.out⟩, ⟨HG.out.far' (by have := HNG.out; have := HN.out; omega) _ _⟩, ⟨below_set HB.out (by omega)⟩⟩
                  · have c1 : decide ((i : Int) < 8) = false := decide_eq_false (by omega)
                    obtain rfl : i = 8 := by have := HI.out; omega
                    clear h1
                    have HS2 : Aside0 (wr.heap[w.heap.size + 1 + 1]? = some (.cells #[.int .u64 (if 0 < n then s0 else 0), .int .u64 (if 1 < n then s1 else 0), .int .u64 (if 2 < n then s2 else 0), .int .u64 (if 3 < n then s3 else 0), .int .u64 (if 4 < n then s4 else 0), .int .u64 (if 5 < n then s5 else 0), .int .u64 (if 6 < n then s6 else 0), .int .u64 (if 7 < n then s7 else 0)] 69 (0, 0))) := ⟨by
                      have h := HS.out
                      rw [zs_end n 0 s0 (by decide), zs_end n 1 s1 (by decide), zs_end n 2 s2 (by decide), zs_end n 3 s3 (by decide), zs_end n 4 s4 (by decide), zs_end n 5 s5 (by decide), zs_end n 6 s6 (by decide), zs_end n 7 s7 (by decide)] at h
                      exact h⟩
                    have n0_ := Aside0.mk (HK.out.more HS2.out)
                    clear HK HS HS2
                    have HK := n0_
                    clear n0_
                    have HTK : Aside0 (∀ W, At8 5 W g (sW [s0, s1, s2, s3, s4, s5, s6, s7] n ++ rest (8 * n)) → W.heap[b2]? = some (.cells #[.func (.func 78) #[] #[]] 133 (0, 0)) → Calls Try.prog 48 #[formVS (8 * words) b1 b2, .slice (some ⟨g, 0, none⟩) 100 102] W fun e w' => e = .returned (.tuple #[.agg #[.int .u64 (if 0 < n then s0 else 0), .int .u64 (if 1 < n then s1 else 0), .int .u64 (if 2 < n then s2 else 0), .int .u64 (if 3 < n then s3 else 0), .int .u64 (if 4 < n then s4 else 0), .int .u64 (if 5 < n then s5 else 0), .int .u64 (if 6 < n then s6 else 0), .int .u64 (if 7 < n then s7 else 0)], .int .i64 0]) ∧ Below W.heap.size W w') := ⟨fun W h1 h2 => by
                      have h := takeSv n b1 b2 g s0 s1 s2 s3 s4 s5 s6 s7 W HN8.out.1 HN8.out.2 h1 h2 HV.out
                      rw [← HNW.out] at h
                      exact h⟩
                    have HSB : Aside0 (∀ W, Calls Try.prog 49 #[.int .i64 words, .agg #[.int .u64 (if 0 < n then s0 else 0), .int .u64 (if 1 < n then s1 else 0), .int .u64 (if 2 < n then s2 else 0), .int .u64 (if 3 < n then s3 else 0), .int .u64 (if 4 < n then s4 else 0), .int .u64 (if 5 < n then s5 else 0), .int .u64 (if 6 < n then s6 else 0), .int .u64 (if 7 < n then s7 else 0)]] W fun e w' => ∃ v0, e = .returned v0 ∧ Kd.R (Kd.int .u8) 5 w' W.heap.size (fun _ => True) v0 (sW [(if 0 < n then s0 else 0), (if 1 < n then s1 else 0), (if 2 < n then s2 else 0), (if 3 < n then s3 else 0), (if 4 < n then s4 else 0), (if 5 < n then s5 else 0), (if 6 < n then s6 else 0), (if 7 < n then s7 else 0)] n) ∧ Below W.heap.size W w') := ⟨fun W => by
                      have h := stateBytesR n (if 0 < n then s0 else 0) (if 1 < n then s1 else 0) (if 2 < n then s2 else 0) (if 3 < n then s3 else 0) (if 4 < n then s4 else 0) (if 5 < n then s5 else 0) (if 6 < n then s6 else 0) (if 7 < n then s7 else 0) W HN8.out.2 (cut_range n s0 s1 s2 s3 s4 s5 s6 s7 HV.out)
                      rw [← HNW.out] at h
                      exact h⟩
                    have HSW := Aside0.mk (sW_congr [s0, s1, s2, s3, s4, s5, s6, s7] [(if 0 < n then s0 else 0), (if 1 < n then s1 else 0), (if 2 < n then s2 else 0), (if 3 < n then s3 else 0), (if 4 < n then s4 else 0), (if 5 < n then s5 else 0), (if 6 < n then s6 else 0), (if 7 < n then s7 else 0)] n (fun j hj => cut_getD n j s0 s1 s2 s3 s4 s5 s6 s7 hj HN8.out.2))
                    generalize (if 0 < n then s0 else 0) = z0 at HK HTK HSB HSW
                    generalize (if 1 < n then s1 else 0) = z1 at HK HTK HSB HSW
                    generalize (if 2 < n then s2 else 0) = z2 at HK HTK HSB HSW
                    generalize (if 3 < n then s3 else 0) = z3 at HK HTK HSB HSW
                    generalize (if 4 < n then s4 else 0) = z4 at HK HTK HSB HSW
                    generalize (if 5 < n then s5 else 0) = z5 at HK HTK HSB HSW
                    generalize (if 6 < n then s6 else 0) = z6 at HK HTK HSB HSW
                    generalize (if 7 < n then s7 else 0) = z7 at HK HTK HSB HSW
                    go_upto_region 33 with (first | (refine wpList_load_row ?hg 92 (.tmp 27) ?ho (gf) ?hx 92 _ (0, 0) _ (HK.out.at 1 rfl) Try.underlying92 rfl (by kernel_rfl) ?_; (case hg => rfl); (case ho => rfl); (case hx => rfl)) | (go_at_call 48; refine (HTK.out _ HG.out (HK.out.at 3 rfl)).mono ?_; rintro e w5 ⟨rfl, hb⟩; have n0_ := Aside0.mk (below_step (by repeat (first | (with_reducible first | exact HB.out | apply below_alloc | apply pw_below_drewN | apply below_drew1) | exact HB.out)) hb); have n1_ := Aside0.mk (Kept.step HK.out (fun h_ => by (with_reducible repeat (first | refine Kept.alloc ?_ _ | refine Kept.drewN ?_ _ | refine Kept.drew ?_)); exact h_) hb); have n2_ := Aside0.mk (At8.step HG.out (fun h_ => by (with_reducible repeat (first | refine At8.alloc ?_ _ | refine At8.drewN ?_ _ | refine At8.drew ?_)); exact h_) hb); clear HB HK HG hb; have HB := n0_; have HK := n1_; have HG := n2_; clear n0_ n1_ n2_))
                    have n0_ := Aside0.mk ((HK.out.alloc (.cells #[.int .u64 z0, .int .u64 z1, .int .u64 z2, .int .u64 z3, .int .u64 z4, .int .u64 z5, .int .u64 z6, .int .u64 z7] 69 (0, 0))).more (heap_alloc_new w5 (.cells #[.int .u64 z0, .int .u64 z1, .int .u64 z2, .int .u64 z3, .int .u64 z4, .int .u64 z5, .int .u64 z6, .int .u64 z7] 69 (0, 0))))
                    have n1_ := Aside0.mk (HG.out.alloc (.cells #[.int .u64 z0, .int .u64 z1, .int .u64 z2, .int .u64 z3, .int .u64 z4, .int .u64 z5, .int .u64 z6, .int .u64 z7] 69 (0, 0)))
                    have n2_ := Aside0.mk (below_alloc HB.out (.cells #[.int .u64 z0, .int .u64 z1, .int .u64 z2, .int .u64 z3, .int .u64 z4, .int .u64 z5, .int .u64 z6, .int .u64 z7] 69 (0, 0)))
                    clear HK HG HB HTK
                    have HK := n0_
                    have HG := n1_
                    have HB := n2_
                    clear n0_ n1_ n2_
                    generalize w5.alloc (.cells #[.int .u64 z0, .int .u64 z1, .int .u64 z2, .int .u64 z3, .int .u64 z4, .int .u64 z5, .int .u64 z6, .int .u64 z7] 69 (0, 0)) = w6 at HK HG HB ⊢
                    generalize w5.heap.size = gz at HK HG HB ⊢
                    go_upto_region 34 with (first | (refine wpList_load_row ?hg 69 (.tmp 9) ?ho (w.heap.size + 1 + 1) ?hx 69 _ (0, 0) _ (HK.out.at 1 rfl) Try.underlying69 rfl (by kernel_rfl) ?_; (case hg => rfl); (case ho => rfl); (case hx => rfl)) | (go_at_call 49; refine (HSB.out _).mono ?_; rintro e w7 ⟨v0, rfl, hR, hb⟩; have n0_ := Aside0.mk (below_step (by repeat (first | (with_reducible first | exact HB.out | apply below_alloc | apply pw_below_drewN | apply below_drew1) | exact HB.out)) hb); have n1_ := Aside0.mk (Kept.step HK.out (fun h_ => by (with_reducible repeat (first | refine Kept.alloc ?_ _ | refine Kept.drewN ?_ _ | refine Kept.drew ?_)); exact h_) hb); have n2_ := Aside0.mk (At8.step HG.out (fun h_ => by (with_reducible repeat (first | refine At8.alloc ?_ _ | refine At8.drewN ?_ _ | refine At8.drew ?_)); exact h_) hb); clear HB HK HG hb; have HB := n0_; have HK := n1_; have HG := n2_; clear n0_ n1_ n2_; obtain ⟨Ao, co, eo⟩ := Kd.R_slice hR; subst eo; have HC := Aside0.mk (Kd.R_reads' hR).2.2; have HCC := Aside0.mk (Kd.R_reads' hR).2.1; clear hR) | (go_at_call 29; refine (laidR g (8 * n) co Ao (sW [z0, z1, z2, z3, z4, z5, z6, z7] n) _ (by rw [← HSW.out]; (with_reducible repeat (first | refine At8.alloc ?_ _ | refine At8.drewN ?_ _ | refine At8.drew ?_)); exact HG.out) (sW_len _ n) (by have := HN8.out; omega) HC.out HCC.out).mono ?_; rintro e w8 ⟨rfl, ⟨nd, rfl⟩⟩))
                    have hne := eql69 z0 z1 z2 z3 z4 z5 z6 z7
                    have hz0 := blk_cell (HK.out.at 2 rfl) 0
                    have hz1 := blk_cell (HK.out.at 2 rfl) 1
                    have hz2 := blk_cell (HK.out.at 2 rfl) 2
                    have hm : wrap64 (8 * words) = 8 * words := by
                      have := HQ.out
                      unfold wrap64
                      omega
                    go_wp2_with (first | (go_at_call 47; refine (widthS (8 * words) b1 b2 _).mono ?_; rintro e w9 ⟨rfl, hb⟩; have n0_ := Aside0.mk (below_step (by repeat (first | (with_reducible first | exact HB.out | apply below_alloc | apply pw_below_drewN | apply below_drew1) | exact HB.out)) hb); have n1_ := Aside0.mk (Kept.step HK.out (fun h_ => by (with_reducible repeat (first | refine Kept.alloc ?_ _ | refine Kept.drewN ?_ _ | refine Kept.drew ?_)); exact h_) hb); clear HB HK hb; have HB := n0_; have HK := n1_; clear n0_ n1_; have hx0 := blk_cell (HK.out.at 0 rfl) 0; have hy0 := blk_cell (HK.out.at 1 rfl) 0; have hx1 := blk_cell (HK.out.at 0 rfl) 1; have hy1 := blk_cell (HK.out.at 1 rfl) 1; have hx2 := blk_cell (HK.out.at 0 rfl) 2; have hy2 := blk_cell (HK.out.at 1 rfl) 2; have hx3 := blk_cell (HK.out.at 0 rfl) 3; have hy3 := blk_cell (HK.out.at 1 rfl) 3; have hx4 := blk_cell (HK.out.at 0 rfl) 4; have hy4 := blk_cell (HK.out.at 1 rfl) 4; have hx5 := blk_cell (HK.out.at 0 rfl) 5; have hy5 := blk_cell (HK.out.at 1 rfl) 5; have hx6 := blk_cell (HK.out.at 0 rfl) 6; have hy6 := blk_cell (HK.out.at 1 rfl) 6; have hx7 := blk_cell (HK.out.at 0 rfl) 7; have hy7 := blk_cell (HK.out.at 1 rfl) 7) | (go_at_call 14; refine (sluicelaw06_num.calls _ _ _ rfl).mono ?_; rintro e w9 ⟨rfl, ⟨nd2, rfl⟩⟩))
                    go_ret
                    exact ⟨by first | rfl | (simp; done), by repeat (first | (with_reducible first | exact HB.out | apply below_alloc | apply pw_below_drewN | apply below_drew1) | exact HB.out)⟩
end Go.Proofs.Ytnmhfcfojbfikaa.QReelForms
