/- ReelTexts: forms of texts: what TextForm, Lay, Take and Width come to. Conditions: as each theorem says. -/
import Derived.Test.YtnmhfcfojbfikaaQReelTextsx1
import Derived.Test.YtnmhfcfojbfikaaQReelTextsx6
import Derived.Test.YtnmhfcfojbfikaaQReelTextsx12
import Derived.Test.YtnmhfcfojbfikaaQReelTextsx13
import Derived.Lib.BufferWrite
import Derived.Lib.SliceRun
namespace Go.Proofs.Ytnmhfcfojbfikaa.QReelTexts
open Go.RowKit Go.Proofs.YtnmhfcfojbfikaaW.PrintWords Go.Proofs.YtnmhfcfojbfikaaW.PrintLast Go.Proofs.YtnmhfcfojbfikaaW.PrintMore
set_option linter.unusedVariables false
set_option linter.unusedSimpArgs false
theorem at_new' (w : World) (o : Obj) (n : Nat) (h : n = w.heap.size) : (w.alloc o).heap[n]? = some o := by
  subst h
  exact heap_alloc_new w o
theorem func_nil {P : Program} (d : Nat) {t : TypeId} {ps rs : Array TypeId} {v : Bool} (h : P.underlying t = some (.func ps rs v)) (fn : Fn) (x y : Array Value) (w : World) : (Op.equalIn (d + 1) t (.func fn x y) .nilFunc).run P w = .ok false w := by
  simp [Op.equalIn, run_underlying h]
theorem func_ne {P : Program} {t : TypeId} {ps rs : Array TypeId} {v : Bool} (h : P.underlying t = some (.func ps rs v)) (fn : Fn) (x y : Array Value) (w : World) : (binOp .neq t (.func fn x y) .nilFunc).run P w = .ok (.bool true) w := by
  simp only [binOp]
  simp [Op.equal, Op.maxDepth, func_nil 9999 h]
def formV (width : Int) (b1 b2 : Nat) : Value := .agg #[.int .i64 width, .func (.func 81) #[] #[.pointer (some ⟨b1, 0, none⟩)], .func (.func 82) #[] #[.pointer (some ⟨b2, 0, none⟩)]]
/-- The two functions that the form's closures hold. -/
def Holds (w : World) (b1 b2 : Nat) : Prop :=
  w.heap[b1]? = some (.cells #[.func (.func 57) #[] #[]] 109 (0, 0)) ∧ w.heap[b2]? = some (.cells #[.func (.func 58) #[] #[]] 112 (0, 0))
theorem Holds.put {w : World} {b1 b2 : Nat} (h : Holds w b1 b2) : w.heap[b1]? = some (.cells #[.func (.func 57) #[] #[]] 109 (0, 0)) := h.1
theorem Holds.get {w : World} {b1 b2 : Nat} (h : Holds w b1 b2) : w.heap[b2]? = some (.cells #[.func (.func 58) #[] #[]] 112 (0, 0)) := h.2
theorem Holds.below {w w' : World} {b1 b2 B : Nat} (h : Holds w b1 b2) (h1 : b1 < B) (h2 : b2 < B) (hb : Below B w w') : Holds w' b1 b2 := ⟨(hb.block _ h1).trans h.1, (hb.block _ h2).trans h.2⟩
set_option maxHeartbeats 8000000 in
set_option maxRecDepth 100000 in
theorem form_calls (width : Int) (w : World) :
    Calls Try.prog 24 #[.int .i64 width] w fun e w' => ∃ b1 b2, e = .returned (formV width b1 b2) ∧ w.heap.size ≤ b1 ∧ w.heap.size ≤ b2 ∧ Holds w' b1 b2 ∧ Below w.heap.size w w' := by
  have HB := Aside0.mk (Below.refl w.heap.size w)
  have hmf : ∀ (fn : Fn) (first cap : Array Value) (w : World), (Instr.makeFunc fn first cap).run Try.prog w = .ok (.func fn first cap) w := fun _ _ _ _ => rfl
  have hst : ∀ (a : Addr) (fn : Fn) (x y : Array Value) (w : World), Sem.run Try.prog (store a (.func fn x y)) w = match w.cell? a with
      | some _ => if w.frozen? a then .halt (.unsupported (.unsafePointer "a write to bytes that a string shares")) w else .ok () (w.setCell a (.func fn x y))
      | none => match w.farStore Try.prog a (.func fn x y) (Mode.plain == .atomic) with
        | .ok (w', _) => .ok () w'
        | .error h => .halt h w := fun a fn x y w => run_store _ _ _ _ _ rfl
  go_enter Try.func24, Try.ntmps24
  go_wp2
  refine bodyPost_ret (results_cell_row (p := 6) (ty := 42) rfl _ _ (w.heap.size + 1 + 1 + 1 + 1) 42 #[.int .i64 width, .func (.func 81) #[] #[.pointer (some ⟨w.heap.size + 1, 0, none⟩)], .func (.func 82) #[] #[.pointer (some ⟨w.heap.size + 1 + 1, 0, none⟩)]] (0, 0) _ rfl (by repeat (first | (refine at_new' _ _ _ ?_; simp only [World.alloc, Array.size_push]; done) | apply blk_alloc)) Try.underlying42 rfl (by kernel_rfl)) rfl ?_
  simp only []
  go_at_K
  go_wp2
  refine bodyPost_ret (results_cell_row (p := 6) (ty := 42) rfl _ _ (w.heap.size + 1 + 1 + 1) 42 #[.int .i64 width, .func (.func 81) #[] #[.pointer (some ⟨w.heap.size + 1, 0, none⟩)], .func (.func 82) #[] #[.pointer (some ⟨w.heap.size + 1 + 1, 0, none⟩)]] (0, 0) _ rfl (by repeat (first | (refine at_new' _ _ _ ?_; simp only [World.alloc, Array.size_push]; done) | apply blk_alloc)) Try.underlying42 rfl (by kernel_rfl)) rfl ?_
  simp only []
  go_at_K
  go_wp2
  refine bodyPost_ret (results_cell_row (p := 2) (ty := 42) rfl _ _ (w.heap.size) 42 #[.int .i64 width, .func (.func 81) #[] #[.pointer (some ⟨w.heap.size + 1, 0, none⟩)], .func (.func 82) #[] #[.pointer (some ⟨w.heap.size + 1 + 1, 0, none⟩)]] (0, 0) _ rfl (by repeat (first | (refine at_new' _ _ _ ?_; simp only [World.alloc, Array.size_push]; done) | apply blk_alloc)) Try.underlying42 rfl (by kernel_rfl)) rfl ?_
  refine ⟨w.heap.size + 1, w.heap.size + 1 + 1, rfl, by omega, by omega, ⟨?_, ?_⟩, by repeat (first | (with_reducible first | exact HB.out | apply below_alloc | apply pw_below_drewN | apply below_drew1) | exact HB.out)⟩
  all_goals repeat (first | (refine at_new' _ _ _ ?_; simp only [World.alloc, Array.size_push]; done) | apply blk_alloc)
set_option maxHeartbeats 8000000 in
set_option maxRecDepth 100000 in
theorem width_calls (width : Int) (b1 b2 : Nat) (w : World) :
    Calls Try.prog 28 #[formV width b1 b2] w fun e w' => e = .returned (.int .i64 width) ∧ Below w.heap.size w w' := by
  have HB := Aside0.mk (Below.refl w.heap.size w)
  unfold formV
  go_enter Try.func28, Try.ntmps28
  go_wp2
  go_ret
  exact ⟨rfl, by repeat (first | (with_reducible first | exact HB.out | apply below_alloc | apply pw_below_drewN | apply below_drew1) | exact HB.out)⟩
def roomF (width : Int) (n : Nat) : Int := if width < 1 ∨ 256 < width then 2 else if (n : Int) < width then 67 else 0
set_option maxHeartbeats 8000000 in
set_option maxRecDepth 100000 in
theorem room_calls (width : Int) (b1 b2 : Nat) (A : Option Addr) (n c : Nat) (w : World) :
    Calls Try.prog 60 #[formV width b1 b2, .slice A n c] w fun e w' => e = .returned (.int .i64 (roomF width n)) ∧ Below w.heap.size w w' := by
  have HB := Aside0.mk (Below.refl w.heap.size w)
  have hn1 := func_ne Try.underlying39
  have hn2 := func_ne Try.underlying40
  unfold formV
  go_enter Try.func60, Try.ntmps60
  by_cases c1 : 1 ≤ width
  · have b1 : decide (1 ≤ width) = true := decide_eq_true c1
    by_cases c2 : width ≤ 256
    · have b2 : decide (width ≤ 256) = true := decide_eq_true c2
      by_cases c3 : (n : Int) < width
      · have b3 : decide ((n : Int) < width) = true := decide_eq_true c3
        have e : roomF width n = 67 := by unfold roomF; rw [if_neg (by omega), if_pos c3]
        rw [e]
        clear c1 c2 c3 e
        go_wp2
        go_ret
        exact ⟨rfl, by repeat (first | (with_reducible first | exact HB.out | apply below_alloc | apply pw_below_drewN | apply below_drew1) | exact HB.out)⟩
      · have b3 : decide ((n : Int) < width) = false := decide_eq_false c3
        have e : roomF width n = 0 := by unfold roomF; rw [if_neg (by omega), if_neg c3]
        rw [e]
        clear c1 c2 c3 e
        go_wp2
        go_ret
        exact ⟨rfl, by repeat (first | (with_reducible first | exact HB.out | apply below_alloc | apply pw_below_drewN | apply below_drew1) | exact HB.out)⟩
    · have b2 : decide (width ≤ 256) = false := decide_eq_false c2
      have e : roomF width n = 2 := by unfold roomF; rw [if_pos (by omega)]
      rw [e]
      clear c1 c2 e
      go_wp2
      go_ret
      exact ⟨rfl, by repeat (first | (with_reducible first | exact HB.out | apply below_alloc | apply pw_below_drewN | apply below_drew1) | exact HB.out)⟩
  · have b1 : decide (1 ≤ width) = false := decide_eq_false c1
    have e : roomF width n = 2 := by unfold roomF; rw [if_pos (by omega)]
    rw [e]
    clear c1 e
    go_wp2
    go_ret
    exact ⟨rfl, by repeat (first | (with_reducible first | exact HB.out | apply below_alloc | apply pw_below_drewN | apply below_drew1) | exact HB.out)⟩
/-- The bytes of a text, n of them: the text's own first, then zeros. -/
def recN (s : ByteArray) (n : Nat) : List Value := (Lib.byteCells s.data.toList).take (min s.size n) ++ List.replicate (n - min s.size n) (.int .u8 0)
theorem byteCells_len (s : ByteArray) : (Lib.byteCells s.data.toList).length = s.size := by rw [Lib.byteCells_length, ← Lib.size_eq]
theorem recN_length (s : ByteArray) (n : Nat) : (recN s n).length = n := by
  unfold recN
  rw [List.length_append, List.length_take, byteCells_len, List.length_replicate]
  omega
theorem copy_str {P : Program} (w : World) (dT sT ty elem : TypeId) (g dLen dCap : Nat) (s : ByteArray) (cur : Array Value) (t : TypeId)
    (hu : P.underlying dT = some (.slice elem)) (hs : (P.info? elem).map (·.size) = some 1) (hg : w.heap[g]? = some (.cells cur t (0, 0))) (hfit : dLen ≤ cur.size) :
    (Builtin.copy_ #[dT, sT] ty #[.slice (some ⟨g, 0, none⟩) dLen dCap, .string s]).run P w =
      .ok (.int .i64 ((min s.size dLen : Nat) : Int)) (w.setRow g ((Lib.byteCells s.data.toList).take (min s.size dLen) ++ cur.toList.drop (min s.size dLen)).toArray) := by
  obtain ⟨k, hk⟩ : ∃ k, k = min s.size dLen := ⟨_, rfl⟩
  have hmin : Nat.min s.size dLen = k := hk.symm
  have hlen : ((Lib.byteCells s.data.toList).take k).length = k := by rw [List.length_take, byteCells_len]; omega
  have hst := run_storeCells_at P g 0 t ((Lib.byteCells s.data.toList).take k) 0 cur w hg (by rw [hlen]; omega) (fun v hv => Lib.byteCells_one _ v (List.mem_of_mem_take hv))
  rw [hlen] at hst
  simp only [Nat.add_zero, Nat.zero_add, List.take_zero, List.nil_append] at hst
  have htk : List.take k (List.map (fun b : UInt8 => Value.int IntKind.u8 (b.toNat : Int)) s.data.toList) = (Lib.byteCells s.data.toList).take k := rfl
  rw [← hk]
  cases hq : P.info? elem with
  | none => simp [hq] at hs
  | some i =>
    simp [Builtin.copy_, run_underlying hu, Builtin.lenOf, Builtin.firstCells, sizeOf, typeInfo, hq, hmin]
    rw [htk, hst]
    simp [Result.andThen, goInt]
theorem clear_row {P : Program} (w : World) (t e ty : TypeId) (ht : P.underlying t = some (.slice e)) (hv : ∀ w, (zeroValue e).run P w = .ok (.int .u8 0) w) (b o n c : Nat) (A : Option Addr) (cur : Array Value) (tt : TypeId)
    (hA : 0 < n → A = some ⟨b, o, none⟩) (hg : w.heap[b]? = some (.cells cur tt (0, 0))) (hfit : o + n ≤ cur.size) :
    (Builtin.clear_ #[t] ty #[.slice A n c]).run P w = .ok (.tuple #[]) (w.setRow b (cur.toList.take o ++ List.replicate n (Value.int .u8 0) ++ cur.toList.drop (o + n)).toArray) := by
  cases n with
  | zero =>
    have e : (cur.toList.take o ++ List.replicate 0 (Value.int .u8 0) ++ cur.toList.drop (o + 0)).toArray = cur := by simp
    rw [e, setRow_self w b cur tt (0, 0) hg]
    cases A <;> simp [Builtin.clear_, run_underlying ht]
  | succ m =>
    rw [hA (Nat.succ_pos m)]
    have hzc : (Builtin.zeroCells (Value.int .u8 0).cells (m + 1)).toList = List.replicate (m + 1) (Value.int .u8 0) := by
      rw [show (Value.int .u8 0).cells = #[Value.int .u8 0] from rfl]
      simp [Builtin.zeroCells]
      apply List.ext_getElem
      · simp
      · intro i h1 h2
        simp [Nat.mod_one]
    have hst := run_storeCells_at P b o tt (List.replicate (m + 1) (Value.int .u8 0)) 0 cur w hg (by simpa using hfit) (by intro v hv'; rw [List.eq_of_mem_replicate hv']; rfl)
    simp only [Nat.add_zero, List.length_replicate] at hst
    simp [Builtin.clear_, run_underlying ht, hv, hzc, hst]
theorem cut_all {P : Program} (t e : TypeId) (kh km : IntKind) {i : TypeInfo} (ht : P.underlying t = some (.slice e)) (hi : P.info? e = some i) (A : Option Addr) (n c : Nat) (j : Int) (h0 : 0 ≤ j) (hm : j ≤ n) (hc : n ≤ c) :
    ∀ W : World, (Instr.slice t (.slice A n c) none (some (.int kh j)) (some (.int km j))).run P W = .ok (.slice A j.toNat j.toNat) W := by
  intro W
  have hel : P.elem t = e := by simp [Program.elem, ht]
  have hu : P.underlying t = some (.slice (P.elem t)) := by rw [hel]; exact ht
  have ha : (A.map fun x => x.add 0) = A := by cases A <;> simp [Addr.add]
  have h1 : j ≤ c := by omega
  simp [Instr.slice, run_underlying ht, Instr.sliceBounds, Instr.sliceBound, asIntOf, h0, h1, sizeOf, typeInfo, hi, go_sem, ha]
  intro h
  omega
theorem zero5 : ∀ w, (zeroValue 5).run Try.prog w = .ok (.int .u8 0) w := fun w => by go_simp
set_option maxHeartbeats 8000000 in
set_option maxRecDepth 100000 in
theorem text_calls (g n c : Nat) (s : ByteArray) (cur : Array Value) (w : World) (hg : w.heap[g]? = some (.cells cur 5 (0, 0))) (hfit : n ≤ cur.size) (hc : n ≤ c) :
    Calls Try.prog 57 #[.slice (some ⟨g, 0, none⟩) n c, .string s] w fun e w' => e = .returned (.tuple #[]) ∧ w' = w.setRow g (recN s n ++ cur.toList.drop n).toArray := by
  obtain ⟨k, hk⟩ : ∃ k, k = min s.size n := ⟨_, rfl⟩
  obtain ⟨i5, hi5, _, hs5, _⟩ := info_parts info5
  have hcp := copy_str (P := Try.prog) w 111 9 3 5 g n c s cur 5 Try.underlying111 (by rw [hi5]; simp [hs5]) hg hfit
  rw [← hk] at hcp
  have hct := cut_from (P := Try.prog) 111 5 .i64 Try.underlying111 hi5 1 hs5 (some ⟨g, 0, none⟩) n c (k : Int) (by omega) (by omega)
  obtain ⟨A, hA⟩ : ∃ A : Option Addr, A = (if c = (k : Int).toNat then (some ⟨g, 0, none⟩ : Option Addr) else (some (⟨g, 0, none⟩ : Addr)).map (·.add ((k : Int).toNat * 1))) := ⟨_, rfl⟩
  rw [← hA] at hct
  obtain ⟨W1, hW1⟩ : ∃ W1, W1 = w.setRow g ((Lib.byteCells s.data.toList).take k ++ cur.toList.drop k).toArray := ⟨_, rfl⟩
  have hr1 : ((Lib.byteCells s.data.toList).take k ++ cur.toList.drop k).length = cur.size := by rw [List.length_append, List.length_take, byteCells_len, List.length_drop, Array.length_toList]; omega
  have hg1 : W1.heap[g]? = some (.cells ((Lib.byteCells s.data.toList).take k ++ cur.toList.drop k).toArray 5 (0, 0)) := by rw [hW1]; exact setRow_heap w g _ _ 5 (0, 0) hg
  have hcl := clear_row (P := Try.prog) W1 111 5 0 Try.underlying111 zero5 g k (n - k) (c - k) A _ 5 (fun h => by rw [hA, if_neg (by omega)]; simp [Addr.add]; omega) hg1 (by rw [List.size_toArray, hr1]; omega)
  rw [← hW1] at hcp
  have hfin : W1.setRow g (((Lib.byteCells s.data.toList).take k ++ cur.toList.drop k).toArray.toList.take k ++ List.replicate (n - k) (Value.int .u8 0) ++ ((Lib.byteCells s.data.toList).take k ++ cur.toList.drop k).toArray.toList.drop (k + (n - k))).toArray = w.setRow g (recN s n ++ cur.toList.drop n).toArray := by
    rw [hW1, setRow_setRow]
    congr 2
    have hl : ((Lib.byteCells s.data.toList).take k).length = k := by rw [List.length_take, byteCells_len]; omega
    rw [List.toList_toArray]
    unfold recN
    rw [← hk, List.take_append_of_le_length (by omega), List.take_of_length_le (by omega)]
    congr 1
    rw [List.drop_append, hl, List.drop_of_length_le (by omega), List.nil_append, List.drop_drop]
    congr 1
    omega
  rw [hfin] at hcl
  simp only [Int.toNat_natCast] at hct
  clear hA hfin hg1 hr1 hk hW1 hg
  go_enter Try.func57, Try.ntmps57
  go_wp2
  go_end0
  exact ⟨rfl, rfl⟩
theorem grown_row {w wc : World} {g : Nat} (cs : Array Value) (h : Below w.heap.size w wc) : w.grownBy (wc.setRow g cs) (some g) := by
  refine ⟨h.os, h.tape, h.output, ?_, fun k hk hne => ?_⟩
  · rw [setRow_size]; exact h.size
  · rw [setRow_other wc g k cs (fun e => hne (by rw [e]))]; exact h.block k hk
section
variable {P : Program} {ops : Array Oper} {Q : Exit → Act → World → Prop}
/-- A call of a function value with what it captured. -/
theorem goesV_ {oi : Oper} {N : Option Tmp} {a : Act} {w : World} {K : Act → World → Prop} {f : FuncId} {fn : Func} {p : Tmp} {first cap : Array Value} {ar : Array Operand} {ts : Array TypeId} (hf : P.funcs[f]? = some fn) (hname : (fn.name == "runtime.NumGoroutine") = false) (hb : fn.body.isSome = true) (args : Array Value)
    (hw : Region.wanted oi (yielded ops a.tmps) = true) (hN : oi.dst = N) (hop : oi.op = .call { callee := .value (.tmp p), args := ar, argTypes := ts }) (hp : a.eval (.tmp p) = .func (.func f) first cap) (hargs : first ++ ar.map a.eval ++ cap = args)
    (h : Calls P f args w fun e w' => ∃ v, e = .returned v ∧ K (a.put N v) w') : if Region.wanted oi (yielded ops a.tmps) = true then Oper.wp P oi a w K Q else K (a.put N undef) w := by
  refine call_ f args hw hN ?_ h
  have he := enters_ hf hname hb args w
  unfold execOp
  simp [hop, resolve, Deferred.ofValue, invoke, hp, hargs, he]
end
set_option maxHeartbeats 8000000 in
set_option maxRecDepth 100000 in
theorem put_calls (g n c b1 : Nat) (s : ByteArray) (cur : Array Value) (w : World) (hg : w.heap[g]? = some (.cells cur 5 (0, 0))) (hfit : n ≤ cur.size) (hc : n ≤ c) (hb : w.heap[b1]? = some (.cells #[.func (.func 57) #[] #[]] 109 (0, 0))) :
    Calls Try.prog 81 #[.slice (some ⟨g, 0, none⟩) n c, .string s, .pointer (some ⟨b1, 0, none⟩)] w fun e w' => e = .returned (.tuple #[]) ∧ w' = w.setRow g (recN s n ++ cur.toList.drop n).toArray := by
  have hc1 := blk_cell hb 0
  have HG := Aside0.mk hg
  have HF := Aside0.mk hfit
  have HC := Aside0.mk hc
  clear hg hfit hc hb
  go_enter Try.func81, Try.ntmps81
  go_wp2_with (go_at_call 57; refine (text_calls g n c s cur _ HG.out HF.out HC.out).mono ?_; rintro e w1 ⟨rfl, rfl⟩)
  go_end0
  exact ⟨rfl, rfl⟩
set_option maxHeartbeats 8000000 in
set_option maxRecDepth 100000 in
theorem get_calls (g n c b2 : Nat) (xs : List Int) (w : World) (hg : (Kd.int .u8).C w (some ⟨g, 0, none⟩) n xs) (hb : w.heap[b2]? = some (.cells #[.func (.func 58) #[] #[]] 112 (0, 0))) :
    Calls Try.prog 82 #[.slice (some ⟨g, 0, none⟩) n c, .pointer (some ⟨b2, 0, none⟩)] w fun e w' => e = .returned (.string (strOfNums xs)) ∧ w' = w := by
  have hc1 := blk_cell hb 0
  have hcv := Kd.C_string (P := Try.prog) (c := c) Try.underlying111 Try.underlying5 Try.underlying9 hg
  clear hg hb
  go_enter Try.func82, Try.ntmps82
  go_wp2
  go_ret
  exact ⟨rfl, rfl⟩
set_option maxHeartbeats 8000000 in
set_option maxRecDepth 100000 in
theorem lay_calls (width : Int) (b1 b2 g n c : Nat) (s : ByteArray) (cur : Array Value) (w : World) (hH : Holds w b1 b2) (hg : w.heap[g]? = some (.cells cur 5 (0, 0))) (hfit : n ≤ cur.size) (hc : n ≤ c) (h0 : roomF width n = 0) :
    Calls Try.prog 26 #[formV width b1 b2, .slice (some ⟨g, 0, none⟩) n c, .string s] w fun e w' => e = .returned (.int .i64 0) ∧ w.grownBy w' (some g) ∧ w'.heap[g]? = some (.cells (recN s width.toNat ++ cur.toList.drop width.toNat).toArray 5 (0, 0)) := by
  have hw1 : 1 ≤ width ∧ width ≤ 256 ∧ width ≤ n := by
    unfold roomF at h0
    split at h0
    · cases h0
    · split at h0
      · cases h0
      · omega
  have HW := Aside0.mk hw1
  have HH := Aside0.mk hH
  have HG := Aside0.mk hg
  have HF := Aside0.mk hfit
  have HC := Aside0.mk hc
  have H0 := Aside0.mk h0
  clear hg hfit hc hH h0 hw1
  have HB := Aside0.mk (Below.refl w.heap.size w)
  have hbx := at_new' w (.cells #[Value.int .i64 width, .func (.func 81) #[] #[.pointer (some ⟨b1, 0, none⟩)], .func (.func 82) #[] #[.pointer (some ⟨b2, 0, none⟩)]] 42 (0, 0)) w.heap.size rfl
  unfold formV
  obtain ⟨i5, hi5, _, _, _⟩ := info_parts info5
  have hct := cut_all (P := Try.prog) 44 5 .i64 .i64 Try.underlying44 hi5 (some ⟨g, 0, none⟩) n c width (by have := HW.out; omega) (by have := HW.out; omega) HC.out
  go_enter Try.func26, Try.ntmps26
  go_upto_region 2 with (go_at_call 60; refine (room_calls width b1 b2 _ n c _).mono ?_; rintro e wc ⟨rfl, hb⟩; rw [H0.out]; have HX := Aside0.mk (blk_below hbx hb); have n0_ := Aside0.mk (below_step (below_alloc HB.out _) hb); clear HB hb; have HB := n0_; clear n0_)
  go_upto_region 4 with (fail)
  refine start_ (n := 10) (S := fun w' => w'.cell? ⟨w.heap.size, 0, none⟩ = some (.int .i64 width) ∧ w'.cell? ⟨w.heap.size, 1, none⟩ = some (.func (.func 81) #[] #[.pointer (some ⟨b1, 0, none⟩)]) ∧ Below w.heap.size w w') (ds := [9]) #[false, false, false, false, false, false, false, false, false, false] (by kernel_rfl) rfl rfl ⟨(blk_cell HX.out 0), (blk_cell HX.out 1), (below_drew1 HB.out)⟩ (fun hHeld => ?_)
  refine pure_ (i := 0) (N := some 14) (v := ?_) (a' := ?_) #[true, false, false, false, false, false, false, false, false, false] rfl rfl (by kernel_rfl) (fun _ _ _ h => h) (Or.inl ⟨by rfl, ?_⟩) ?_ ?_
  rotate_left
  · intro w'
    go_simp
    with_reducible rfl
  rotate_left
  · simp only [Act.put, List.setIfInBounds_toArray, List.set_cons_zero, List.set_cons_succ, i64_w, i32_w]
    rfl
  refine pure_ (i := 2) (N := some 16) (v := ?_) (a' := ?_) #[true, false, true, false, false, false, false, false, false, false] rfl rfl (by kernel_rfl) (fun _ _ _ h => h) (Or.inl ⟨by rfl, ?_⟩) ?_ ?_
  rotate_left
  · intro w'
    go_simp
    with_reducible rfl
  rotate_left
  · simp only [Act.put, List.setIfInBounds_toArray, List.set_cons_zero, List.set_cons_succ, i64_w, i32_w]
    rfl
  refine pure_ (i := 3) (N := some 17) (v := ?_) (a' := ?_) #[true, false, true, true, false, false, false, false, false, false] rfl rfl (by kernel_rfl) (fun _ _ _ h => h) (Or.inl ⟨by rfl, ?_⟩) ?_ ?_
  rotate_left
  · intro w'
    go_simp
    with_reducible rfl
  rotate_left
  · simp only [Act.put, List.setIfInBounds_toArray, List.set_cons_zero, List.set_cons_succ, i64_w, i32_w]
    rfl
  refine pure_ (i := 5) (N := some 19) (v := ?_) (a' := ?_) #[true, false, true, true, false, true, false, false, false, false] rfl rfl (by kernel_rfl) (fun _ _ _ h => h) (Or.inl ⟨by rfl, ?_⟩) ?_ ?_
  rotate_left
  · intro w'
    go_simp
    with_reducible rfl
  rotate_left
  · simp only [Act.put, List.setIfInBounds_toArray, List.set_cons_zero, List.set_cons_succ, i64_w, i32_w]
    rfl
  refine pure_ (i := 8) (N := some 22) (v := ?_) (a' := ?_) #[true, false, true, true, false, true, false, false, true, false] rfl rfl (by kernel_rfl) (fun _ _ _ h => h) (Or.inl ⟨by rfl, ?_⟩) ?_ ?_
  rotate_left
  · intro w'
    go_simp
    with_reducible rfl
  rotate_left
  · simp only [Act.put, List.setIfInBounds_toArray, List.set_cons_zero, List.set_cons_succ, i64_w, i32_w]
    rfl
  refine take_ (i := 1) (N := some 15) (v := ?_) (a' := ?_) #[true, true, true, true, false, true, false, false, true, false] rfl rfl (by kernel_rfl) (fun _ _ _ h => h) (Or.inl ⟨by rfl, ?_⟩) hHeld ?_ ?_
  rotate_left
  · rintro w' ⟨s0, s1, s2⟩
    go_simp
    with_reducible rfl
  rotate_left
  · simp only [Act.put, List.setIfInBounds_toArray, List.set_cons_zero, List.set_cons_succ, i64_w, i32_w]
    rfl
  refine take_ (i := 4) (N := some 18) (v := ?_) (a' := ?_) #[true, true, true, true, true, true, false, false, true, false] rfl rfl (by kernel_rfl) (fun _ _ _ h => h) (Or.inl ⟨by rfl, ?_⟩) hHeld ?_ ?_
  rotate_left
  · rintro w' ⟨s0, s1, s2⟩
    go_simp
    with_reducible rfl
  rotate_left
  · simp only [Act.put, List.setIfInBounds_toArray, List.set_cons_zero, List.set_cons_succ, i64_w, i32_w]
    rfl
  refine take_ (i := 6) (N := some 20) (v := ?_) (a' := ?_) #[true, true, true, true, true, true, true, false, true, false] rfl rfl (by kernel_rfl) (fun _ _ _ h => h) (Or.inl ⟨by rfl, ?_⟩) hHeld ?_ ?_
  rotate_left
  · rintro w' ⟨s0, s1, s2⟩
    go_simp
    with_reducible rfl
  rotate_left
  · simp only [Act.put, List.setIfInBounds_toArray, List.set_cons_zero, List.set_cons_succ, i64_w, i32_w]
    rfl
  refine pure_ (i := 7) (N := some 21) (v := ?_) (a' := ?_) #[true, true, true, true, true, true, true, true, true, false] rfl rfl (by kernel_rfl) (fun _ _ _ h => h) (Or.inl ⟨by rfl, ?_⟩) ?_ ?_
  rotate_left
  · intro w'
    go_simp
    with_reducible rfl
  rotate_left
  · simp only [Act.put, List.setIfInBounds_toArray, List.set_cons_zero, List.set_cons_succ, i64_w, i32_w]
    rfl
  refine last_ (i := 9) (N := some 23) #[true, true, true, true, true, true, true, true, true, true] rfl rfl (by kernel_rfl) (by decide) (fun K hK => ?_)
  refine goesV_ Try.func81 (by kernel_rfl) rfl #[.slice (some ⟨g, 0, none⟩) width.toNat width.toNat, .string s, .pointer (some ⟨b1, 0, none⟩)] (by rfl) rfl rfl (by rfl) (by simp only [List.map_toArray, List.map_cons, List.map_nil]; rfl) ?_
  with_reducible refine (put_calls g width.toNat width.toNat b1 s cur _ ((hHeld.2.2.block _ (blk_lt HG.out)).trans HG.out) (by have := HW.out; have := HF.out; omega) (Nat.le_refl _) ((hHeld.2.2.block _ (blk_lt HH.out.put)).trans HH.out.put)).mono ?_
  rintro e_ w' ⟨rfl, rfl⟩
  refine ⟨_, rfl, ?_⟩
  refine hK.out _ _ ?_
  clear hK K
  refine norm_ (a' := ?_) ?_ ?_
  rotate_left
  · show Act.put _ (some 23) _ = _
    simp only [Act.put, List.setIfInBounds_toArray, List.set_cons_zero, List.set_cons_succ, i64_w, i32_w]
    rfl
  refine done_ (by kernel_rfl) ?_
  go_wp2
  go_ret
  exact ⟨rfl, grown_row _ (below_drew1 HB.out), setRow_heap _ g _ _ 5 (0, 0) ((HB.out.block _ (blk_lt HG.out)).trans HG.out)⟩
def recI (s : ByteArray) (n : Nat) : List Int := (bytesOf s).take (min s.size n) ++ List.replicate (n - min s.size n) 0
theorem recI_length (s : ByteArray) (n : Nat) : (recI s n).length = n := by
  unfold recI
  rw [List.length_append, List.length_take, bytesOf_length, List.length_replicate]
  omega
theorem recN_map (s : ByteArray) (n : Nat) : recN s n = (recI s n).map (Value.int .u8) := by
  unfold recN recI bytesOf Lib.byteCells
  rw [List.map_append, List.map_take, List.map_map, List.map_replicate]
  rfl
theorem C_row {w : World} {b e : Nat} {cur : Array Value} {xs : List Int} (h : w.heap[b]? = some (.cells cur e (0, 0))) (hx : cur.toList.take xs.length = xs.map (Value.int .u8)) (hm : xs.length ≤ 9223372036854775807) :
    (Kd.int .u8).C w (some ⟨b, 0, none⟩) xs.length xs := by
  refine Kd.C_of_reads (d := (0 : Int)) (h1 := fun _ => rfl) ⟨rfl, hm, fun _ => ⟨_, rfl, fun j hj => ?_⟩⟩
  rw [add_plain]
  try rw [Nat.zero_add]
  rw [blk_cell h j]
  have h1 : (cur.toList.take xs.length)[j]? = some (.int .u8 (xs.getD j 0)) := by
    rw [hx, List.getElem?_map, List.getElem?_eq_getElem hj, List.getD_eq_getElem?_getD, List.getElem?_eq_getElem hj]
    rfl
  rw [List.getElem?_take_of_lt hj] at h1
  simpa using h1
set_option maxHeartbeats 8000000 in
set_option maxRecDepth 100000 in
theorem lay_fail (width : Int) (b1 b2 n c : Nat) (A : Option Addr) (s : ByteArray) (w : World) (x : Int) (h0 : roomF width n = x) (hx : x = 2 ∨ x = 67) :
    Calls Try.prog 26 #[formV width b1 b2, .slice A n c, .string s] w fun e w' => e = .returned (.int .i64 x) ∧ Below w.heap.size w w' := by
  have H0 := Aside0.mk h0
  clear h0
  have HB := Aside0.mk (Below.refl w.heap.size w)
  unfold formV
  go_enter Try.func26, Try.ntmps26
  go_upto_region 2 with (go_at_call 60; refine (room_calls width b1 b2 _ n c _).mono ?_; rintro e wc ⟨rfl, hb⟩; rw [H0.out]; have n0_ := Aside0.mk (below_step (below_alloc HB.out _) hb); clear HB hb; have HB := n0_; clear n0_)
  rcases hx with rfl | rfl
  all_goals
    go_wp2
    go_ret
    exact ⟨rfl, by repeat (first | (with_reducible first | exact HB.out | apply below_alloc | apply pw_below_drewN | apply below_drew1) | exact HB.out)⟩
set_option maxHeartbeats 8000000 in
set_option maxRecDepth 100000 in
theorem take_fail (width : Int) (b1 b2 n c : Nat) (A : Option Addr) (w : World) (x : Int) (h0 : roomF width n = x) (hx : x = 2 ∨ x = 67) :
    Calls Try.prog 27 #[formV width b1 b2, .slice A n c] w fun e w' => e = .returned (.tuple #[.string ⟨#[]⟩, .int .i64 x]) ∧ Below w.heap.size w w' := by
  have H0 := Aside0.mk h0
  clear h0
  have HB := Aside0.mk (Below.refl w.heap.size w)
  unfold formV
  go_enter Try.func27, Try.ntmps27
  go_upto_region 2 with (go_at_call 60; refine (room_calls width b1 b2 _ n c _).mono ?_; rintro e wc ⟨rfl, hb⟩; rw [H0.out]; have n0_ := Aside0.mk (below_step (below_alloc HB.out _) hb); clear HB hb; have HB := n0_; clear n0_)
  rcases hx with rfl | rfl
  all_goals
    go_wp2
    go_ret2
    exact ⟨rfl, by repeat (first | (with_reducible first | exact HB.out | apply below_alloc | apply pw_below_drewN | apply below_drew1) | exact HB.out)⟩
set_option maxHeartbeats 8000000 in
set_option maxRecDepth 100000 in
theorem take_calls (width : Int) (b1 b2 g n c : Nat) (xs : List Int) (w : World) (hH : Holds w b1 b2) (hC : (Kd.int .u8).C w (some ⟨g, 0, none⟩) width.toNat xs) (hc : n ≤ c) (h0 : roomF width n = 0) :
    Calls Try.prog 27 #[formV width b1 b2, .slice (some ⟨g, 0, none⟩) n c] w fun e w' => e = .returned (.tuple #[.string (strOfNums xs), .int .i64 0]) ∧ Below w.heap.size w w' := by
  have hw1 : 1 ≤ width ∧ width ≤ 256 ∧ width ≤ n := by
    unfold roomF at h0
    split at h0
    · cases h0
    · split at h0
      · cases h0
      · omega
  have HW := Aside0.mk hw1
  have HH := Aside0.mk hH
  have HCC := Aside0.mk hC
  have HC := Aside0.mk hc
  have H0 := Aside0.mk h0
  clear hC hc hH h0 hw1
  have HB := Aside0.mk (Below.refl w.heap.size w)
  have hbx := at_new' w (.cells #[Value.int .i64 width, .func (.func 81) #[] #[.pointer (some ⟨b1, 0, none⟩)], .func (.func 82) #[] #[.pointer (some ⟨b2, 0, none⟩)]] 42 (0, 0)) w.heap.size rfl
  unfold formV
  obtain ⟨i5, hi5, _, _, _⟩ := info_parts info5
  have hct := cut_all (P := Try.prog) 44 5 .i64 .i64 Try.underlying44 hi5 (some ⟨g, 0, none⟩) n c width (by have := HW.out; omega) (by have := HW.out; omega) HC.out
  go_enter Try.func27, Try.ntmps27
  go_upto_region 2 with (go_at_call 60; refine (room_calls width b1 b2 _ n c _).mono ?_; rintro e wc ⟨rfl, hb⟩; rw [H0.out]; have HX := Aside0.mk (blk_below hbx hb); have n0_ := Aside0.mk (below_step (below_alloc HB.out _) hb); clear HB hb; have HB := n0_; clear n0_)
  go_upto_region 3 with (fail)
  refine start_ (n := 10) (S := fun w' => w'.cell? ⟨w.heap.size, 0, none⟩ = some (.int .i64 width) ∧ w'.cell? ⟨w.heap.size, 2, none⟩ = some (.func (.func 82) #[] #[.pointer (some ⟨b2, 0, none⟩)]) ∧ Below w.heap.size w w') (ds := []) #[false, false, false, false, false, false, false, false, false, false] (by kernel_rfl) rfl rfl ⟨(blk_cell HX.out 0), (blk_cell HX.out 2), (below_drew1 HB.out)⟩ (fun hHeld => ?_)
  refine pure_ (i := 0) (N := some 11) (v := ?_) (a' := ?_) #[true, false, false, false, false, false, false, false, false, false] rfl rfl (by kernel_rfl) (fun _ _ _ h => h) (Or.inl ⟨by rfl, ?_⟩) ?_ ?_
  rotate_left
  · intro w'
    go_simp
    with_reducible rfl
  rotate_left
  · simp only [Act.put, List.setIfInBounds_toArray, List.set_cons_zero, List.set_cons_succ, i64_w, i32_w]
    rfl
  refine pure_ (i := 2) (N := some 13) (v := ?_) (a' := ?_) #[true, false, true, false, false, false, false, false, false, false] rfl rfl (by kernel_rfl) (fun _ _ _ h => h) (Or.inl ⟨by rfl, ?_⟩) ?_ ?_
  rotate_left
  · intro w'
    go_simp
    with_reducible rfl
  rotate_left
  · simp only [Act.put, List.setIfInBounds_toArray, List.set_cons_zero, List.set_cons_succ, i64_w, i32_w]
    rfl
  refine pure_ (i := 3) (N := some 14) (v := ?_) (a' := ?_) #[true, false, true, true, false, false, false, false, false, false] rfl rfl (by kernel_rfl) (fun _ _ _ h => h) (Or.inl ⟨by rfl, ?_⟩) ?_ ?_
  rotate_left
  · intro w'
    go_simp
    with_reducible rfl
  rotate_left
  · simp only [Act.put, List.setIfInBounds_toArray, List.set_cons_zero, List.set_cons_succ, i64_w, i32_w]
    rfl
  refine pure_ (i := 5) (N := some 16) (v := ?_) (a' := ?_) #[true, false, true, true, false, true, false, false, false, false] rfl rfl (by kernel_rfl) (fun _ _ _ h => h) (Or.inl ⟨by rfl, ?_⟩) ?_ ?_
  rotate_left
  · intro w'
    go_simp
    with_reducible rfl
  rotate_left
  · simp only [Act.put, List.setIfInBounds_toArray, List.set_cons_zero, List.set_cons_succ, i64_w, i32_w]
    rfl
  refine take_ (i := 1) (N := some 12) (v := ?_) (a' := ?_) #[true, true, true, true, false, true, false, false, false, false] rfl rfl (by kernel_rfl) (fun _ _ _ h => h) (Or.inl ⟨by rfl, ?_⟩) hHeld ?_ ?_
  rotate_left
  · rintro w' ⟨s0, s1, s2⟩
    go_simp
    with_reducible rfl
  rotate_left
  · simp only [Act.put, List.setIfInBounds_toArray, List.set_cons_zero, List.set_cons_succ, i64_w, i32_w]
    rfl
  refine take_ (i := 4) (N := some 15) (v := ?_) (a' := ?_) #[true, true, true, true, true, true, false, false, false, false] rfl rfl (by kernel_rfl) (fun _ _ _ h => h) (Or.inl ⟨by rfl, ?_⟩) hHeld ?_ ?_
  rotate_left
  · rintro w' ⟨s0, s1, s2⟩
    go_simp
    with_reducible rfl
  rotate_left
  · simp only [Act.put, List.setIfInBounds_toArray, List.set_cons_zero, List.set_cons_succ, i64_w, i32_w]
    rfl
  refine take_ (i := 6) (N := some 17) (v := ?_) (a' := ?_) #[true, true, true, true, true, true, true, false, false, false] rfl rfl (by kernel_rfl) (fun _ _ _ h => h) (Or.inl ⟨by rfl, ?_⟩) hHeld ?_ ?_
  rotate_left
  · rintro w' ⟨s0, s1, s2⟩
    go_simp
    with_reducible rfl
  rotate_left
  · simp only [Act.put, List.setIfInBounds_toArray, List.set_cons_zero, List.set_cons_succ, i64_w, i32_w]
    rfl
  refine pure_ (i := 7) (N := some 18) (v := ?_) (a' := ?_) #[true, true, true, true, true, true, true, true, false, false] rfl rfl (by kernel_rfl) (fun _ _ _ h => h) (Or.inl ⟨by rfl, ?_⟩) ?_ ?_
  rotate_left
  · intro w'
    go_simp
    with_reducible rfl
  rotate_left
  · simp only [Act.put, List.setIfInBounds_toArray, List.set_cons_zero, List.set_cons_succ, i64_w, i32_w]
    rfl
  refine one_ (i := 8) (N := some 19) #[true, true, true, true, true, true, true, true, true, false] rfl rfl (by kernel_rfl) (by decide) (fun K hK => ?_)
  refine goesV_ Try.func82 (by kernel_rfl) rfl #[.slice (some ⟨g, 0, none⟩) width.toNat width.toNat, .pointer (some ⟨b2, 0, none⟩)] (by rfl) rfl rfl (by rfl) (by simp only [List.map_toArray, List.map_cons, List.map_nil]; rfl) ?_
  with_reducible refine (get_calls g width.toNat width.toNat b2 xs _ (Kd.C_below HCC.out hHeld.2.2) ((hHeld.2.2.block _ (blk_lt HH.out.get)).trans HH.out.get)).mono ?_
  rintro e_ w' ⟨rfl, rfl⟩
  refine ⟨_, rfl, ?_⟩
  refine hK.out _ _ ⟨hHeld.1, hHeld.2.1, hHeld.2.2⟩ (fun hHeld => ?_)
  clear hK K
  refine norm_ (a' := ?_) ?_ ?_
  rotate_left
  · show Act.put _ (some 19) _ = _
    simp only [Act.put, List.setIfInBounds_toArray, List.set_cons_zero, List.set_cons_succ, i64_w, i32_w]
    rfl
  refine pure_ (i := 9) (N := some 4) (v := ?_) (a' := ?_) #[true, true, true, true, true, true, true, true, true, true] rfl rfl (by kernel_rfl) (fun _ _ _ h => h) (Or.inl ⟨by rfl, ?_⟩) ?_ ?_
  rotate_left
  · intro w'
    go_simp
    with_reducible rfl
  rotate_left
  · simp only [Act.put, List.setIfInBounds_toArray, List.set_cons_zero, List.set_cons_succ, i64_w, i32_w]
    rfl
  refine done_ (by kernel_rfl) ?_
  have HBF := Aside0.mk hHeld.2.2
  clear hHeld HB
  have HB := HBF
  go_wp2
  go_ret2
  exact ⟨rfl, by repeat (first | (with_reducible first | exact HB.out | apply below_alloc | apply pw_below_drewN | apply below_drew1) | exact HB.out)⟩
set_option maxHeartbeats 8000000 in
set_option maxRecDepth 100000 in
theorem texts_ok (k : Nat) (width n : Int) (t : ByteArray) (m : Nat) (w : World) (hbuf : sluicelaw06_buffer.f k n = some (List.replicate m 99)) (h0 : roomF width m = 0) (hm : m ≤ 4096) (hr : sluicelaw06_record.f k t width = some (strOfNums (recI t width.toNat)))
    (hl : sluicelaw06_laid.f k (recI t width.toNat ++ List.replicate (m - width.toNat) 99) (bytesOf (strOfNums (recI t width.toNat))) = some true) :
    Calls Try.prog 10 #[.int .i64 width, .string t, .int .i64 n] w fun e w' => e = .returned (.bool true) ∧ Below w.heap.size w w' := by
  have hw1 : 1 ≤ width ∧ width ≤ 256 ∧ width ≤ m := by
    unfold roomF at h0
    split at h0
    · cases h0
    · split at h0
      · cases h0
      · omega
  have hwm : width.toNat ≤ m := by omega
  have hmp : 0 < m := by omega
  have b1' : decide (width < 1) = false := decide_eq_false (by omega)
  have b2' : decide (width > 256) = false := decide_eq_false (by omega)
  have b3' : decide ((m : Int) < width) = false := decide_eq_false (by omega)
  have HW := Aside0.mk hw1
  have HBUF := Aside0.mk hbuf
  have H0 := Aside0.mk h0
  have HM := Aside0.mk hm
  have HR := Aside0.mk hr
  have HL := Aside0.mk hl
  have HWM := Aside0.mk hwm
  have HMP := Aside0.mk hmp
  clear hbuf h0 hm hr hl hw1 hwm hmp
  have HB := Aside0.mk (Below.refl w.heap.size w)
  have hst : ∀ (a : Addr) (fn : Fn) (x y : Array Value) (w : World), Sem.run Try.prog (store a (.func fn x y)) w = match w.cell? a with
      | some _ => if w.frozen? a then .halt (.unsupported (.unsafePointer "a write to bytes that a string shares")) w else .ok () (w.setCell a (.func fn x y))
      | none => match w.farStore Try.prog a (.func fn x y) (Mode.plain == .atomic) with
        | .ok (w', _) => .ok () w'
        | .error h => .halt h w := fun a fn x y w => run_store _ _ _ _ _ rfl
  go_enter Try.func10, Try.ntmps10
  go_upto_region 2 with (go_at_call 24; refine (form_calls width _).mono ?_; rintro e w1 ⟨b1, b2, rfl, hb1, hb2, hH, hb⟩; have HH := Aside0.mk hH; have HB1 := Aside0.mk hb; clear hb1 hb2 hH hb; clear HB; have HB := HB1; clear HB1; unfold formV)
  clear hst
  have HF := Aside0.mk (at_new' w1 (.cells #[Value.int .i64 width, .func (.func 81) #[] #[.pointer (some ⟨b1, 0, none⟩)], .func (.func 82) #[] #[.pointer (some ⟨b2, 0, none⟩)]] 42 (0, 0)) w1.heap.size rfl)
  have hgw : w.heap.size ≤ w1.heap.size := HB.out.size
  go_upto_region 3 with (go_at_call 25; refine (sluicelaw06_buffer.calls k n _ _ HBUF.out).mono ?_; rintro e w2 ⟨v0, rfl, hR, hbw⟩; have HRW := Aside0.mk hR; have HBW := Aside0.mk hbw; clear hR hbw)
  have hbelow : Below w.heap.size w w2 := below_step (below_alloc HB.out _) HBW.out
  have hF2 := blk_below HF.out HBW.out
  have hH2 : Holds w2 b1 b2 := ⟨blk_below (blk_alloc HH.out.1 _) HBW.out, blk_below (blk_alloc HH.out.2 _) HBW.out⟩
  have hlo : (w1.alloc (.cells #[Value.int .i64 width, .func (.func 81) #[] #[.pointer (some ⟨b1, 0, none⟩)], .func (.func 82) #[] #[.pointer (some ⟨b2, 0, none⟩)]] 42 (0, 0))).heap.size = w1.heap.size + 1 := by simp only [World.alloc, Array.size_push]
  have hlen99 : (List.replicate m (99 : Int)).length = m := List.length_replicate
  obtain ⟨hxl, hown⟩ := Kd.own_of_R HRW.out
  rcases hown with ⟨_, hbad⟩ | ⟨g, cap, cur, rfl, hgB, hgr, hmc, hcm, hcs, hct⟩
  · rw [hlen99] at hbad
    have := HMP.out
    omega
  rw [hlen99] at hmc hct hxl
  rw [Nat.mul_one] at hcs hct
  rw [hlo] at hgB
  have hgb1 : g ≠ b1 := by have := blk_lt HH.out.1; omega
  have hgb2 : g ≠ b2 := by have := blk_lt HH.out.2; omega
  have hgf : g ≠ w1.heap.size := by omega
  clear HB HF HRW HBW HH hxl
  have HB := Aside0.mk hbelow
  have HF := Aside0.mk hF2
  have HH := Aside0.mk hH2
  have HG := Aside0.mk hgr
  have HCU := Aside0.mk (show m ≤ cur.size by omega)
  have HMC := Aside0.mk hmc
  have HT := Aside0.mk hct
  have HGE := Aside0.mk (show w.heap.size ≤ g by omega)
  have HN1 := Aside0.mk hgb1
  have HN2 := Aside0.mk hgb2
  have HN3 := Aside0.mk hgf
  rw [hlen99]
  clear hbelow hF2 hH2 hlo hlen99 hgr hmc hct hcm hcs hgB hgb1 hgb2 hgf hgw
  generalize w1.heap.size = gf at *
  clear w1
  go_upto_region 4 with (first | (refine wpList_load_row ?hg 42 (.tmp 7) ?ho gf ?hx 42 _ (0, 0) _ HF.out Try.underlying42 rfl (by kernel_rfl) ?_; (case hg => rfl); (case ho => rfl); (case hx => rfl)) | (go_at_call 26; refine (lay_calls width b1 b2 g m cap t cur _ HH.out HG.out HCU.out HMC.out H0.out).mono ?_; rintro e w3 ⟨rfl, hgb, hrow⟩; have HGB := Aside0.mk hgb; have HROW := Aside0.mk hrow; clear hgb hrow))
  have hbelow : Below w.heap.size w w3 := HB.out.grown HGB.out HB.out.size (fun q e => by cases e; exact HGE.out)
  have hF3 := (HGB.out.block gf (blk_lt HF.out) (fun e => HN3.out (Option.some.inj e).symm)).trans HF.out
  have hH3 : Holds w3 b1 b2 := ⟨(HGB.out.block b1 (blk_lt HH.out.1) (fun e => HN1.out (Option.some.inj e).symm)).trans HH.out.1, (HGB.out.block b2 (blk_lt HH.out.2) (fun e => HN2.out (Option.some.inj e).symm)).trans HH.out.2⟩
  have hrl := recI_length t width.toNat
  have hrn : recN t width.toNat = (recI t width.toNat).map (Value.int .u8) := recN_map _ _
  have hsm := HM.out
  have hsw := HWM.out
  have hC1 := C_row (xs := recI t width.toNat) HROW.out (by rw [List.toList_toArray, hrl, hrn, List.take_append_of_le_length (by rw [List.length_map, hrl]; exact Nat.le_refl _), List.take_of_length_le (by rw [List.length_map, hrl]; exact Nat.le_refl _)]) (by rw [hrl]; omega)
  have hll : (recI t width.toNat ++ List.replicate (m - width.toNat) (99 : Int)).length = m := by rw [List.length_append, hrl, List.length_replicate]; omega
  have hC2 := C_row (xs := recI t width.toNat ++ List.replicate (m - width.toNat) 99) HROW.out (by
    rw [List.toList_toArray, hll, hrn, List.map_append, List.take_append, List.length_map, hrl, List.take_of_length_le (by rw [List.length_map, hrl]; omega)]
    congr 1
    rw [← List.drop_take, HT.out]
    unfold encs
    rw [← List.map_drop, List.drop_replicate]) (by rw [hll]; omega)
  rw [hrl] at hC1
  clear HB HF HH HG HGB HROW HT HCU hrl hrn hsm hsw
  have HB := Aside0.mk hbelow
  have HF := Aside0.mk hF3
  have HH := Aside0.mk hH3
  have HC1 := Aside0.mk hC1
  have HC2 := Aside0.mk hC2
  have HLL := Aside0.mk hll
  clear hbelow hF3 hH3 hC1 hC2 hll
  go_upto_region 5 with (first | (refine wpList_load_row ?hg 42 (.tmp 7) ?ho gf ?hx 42 _ (0, 0) _ HF.out Try.underlying42 rfl (by kernel_rfl) ?_; (case hg => rfl); (case ho => rfl); (case hx => rfl)) | (go_at_call 27; refine (take_calls width b1 b2 g m cap _ _ HH.out HC1.out HMC.out H0.out).mono ?_; rintro e w4 ⟨rfl, hb4⟩; have n0_ := Aside0.mk (below_step (by repeat (first | (with_reducible first | exact HB.out | apply below_alloc | apply pw_below_drewN | apply below_drew1) | exact HB.out)) hb4); have n1_ := Aside0.mk (blk_below HF.out hb4); have n2_ := Aside0.mk (Kd.C_below HC2.out hb4); clear HB HF HC2 hb4; have HB := n0_; have HF := n1_; have HC2 := n2_; clear n0_ n1_ n2_))
  clear HH HC1
  have kb := fun s W => print_bytes (P := Try.prog) 9 44 5 Try.underlying9 Try.underlying44 Try.underlying5 s W
  have hT : ∀ (k : Nat) (A1 : Option Addr) (m' c' : Nat) (x : List Int) (W : World), (Kd.int .u8).C W (some ⟨g, 0, none⟩) (recI t width.toNat ++ List.replicate (m - width.toNat) 99).length (recI t width.toNat ++ List.replicate (m - width.toNat) 99) → (Kd.int .u8).C W A1 x.length x → x.length = m' → m' ≤ c' → sluicelaw06_laid.f k (recI t width.toNat ++ List.replicate (m - width.toNat) 99) x = some true →
      Calls Try.prog 29 #[.slice (some ⟨g, 0, none⟩) m cap, .slice A1 m' c'] W fun e w' => e = .returned (.bool true) ∧ Drawn0 W w' := fun k A1 m' c' x W h1 h2 h3 h4 h5 => by
    subst h3
    have := sluicelaw06_laid.calls k (some ⟨g, 0, none⟩) cap (recI t width.toNat ++ List.replicate (m - width.toNat) 99) A1 c' x true W h1 (by rw [HLL.out]; exact HMC.out) h2 h4 h5
    rw [HLL.out] at this
    exact this
  have HT := Aside0.mk hT
  clear hT
  go_wp2_with (first | (refine wpList_load_row ?hg 42 (.tmp 7) ?ho gf ?hx 42 _ (0, 0) _ HF.out Try.underlying42 rfl (by kernel_rfl) ?_; (case hg => rfl); (case ho => rfl); (case hx => rfl)) | (go_at_call 28; refine (width_calls width b1 b2 _).mono ?_; rintro e w4 ⟨rfl, hb4⟩; have n0_ := Aside0.mk (below_step (by repeat (first | (with_reducible first | exact HB.out | apply below_alloc | apply pw_below_drewN | apply below_drew1) | exact HB.out)) hb4); have n1_ := Aside0.mk (blk_below HF.out hb4); have n2_ := Aside0.mk (Kd.C_below HC2.out hb4); clear HB HF HC2 hb4; have HB := n0_; have HF := n1_; have HC2 := n2_; clear n0_ n1_ n2_) | (go_at_call 30; refine (sluicelaw06_record.calls k t width _ _ HR.out).mono ?_; rintro e w4 ⟨rfl, hb4⟩; have n0_ := Aside0.mk (below_step (by repeat (first | (with_reducible first | exact HB.out | apply below_alloc | apply pw_below_drewN | apply below_drew1) | exact HB.out)) hb4); have n1_ := Aside0.mk (blk_below HF.out hb4); have n2_ := Aside0.mk (Kd.C_below HC2.out hb4); clear HB HF HC2 hb4; have HB := n0_; have HF := n1_; have HC2 := n2_; clear n0_ n1_ n2_) | (go_at_call 30; refine (sluicelaw06_record.calls k t width _ _ HR.out).mono ?_; rintro e w5 ⟨rfl, hb4⟩; have n0_ := Aside0.mk (below_step (pw_below_drewN (bytes_below HB.out HB.out.size _ _) _) hb4); clear HB HF HC2 hb4; have HB := n0_; clear n0_) | (go_at_call 14; refine (sluicelaw06_num.calls _ _ _ rfl).mono ?_; rintro e w4 ⟨rfl, ⟨nd, rfl⟩⟩) | (go_at_call 29; refine (HT.out k _ _ _ (bytesOf (strOfNums (recI t width.toNat))) _ (Kd.C_below HC2.out (bytes_below (Below.refl _ _) (Nat.le_refl _) _ _)) (by rw [bytesOf_length]; exact Kd.C_of_reads (d := (0 : Int)) (h1 := fun _ => rfl) (bytes_reads _ _ _ (by rw [strOfNums_size, recI_length]; have := HW.out; omega))) (bytesOf_length _) (grownCap_ge _ _ _ _) HL.out).mono ?_; rintro e w4 ⟨rfl, ⟨nd, rfl⟩⟩))
  go_ret
  exact ⟨by first | rfl | (simp; done), by repeat (first | (with_reducible first | exact HB.out | apply below_alloc | apply pw_below_drewN | apply below_drew1) | exact HB.out)⟩
set_option maxHeartbeats 8000000 in
set_option maxRecDepth 100000 in
theorem texts_bad (k : Nat) (width n : Int) (t : ByteArray) (m : Nat) (w : World) (x : Int) (hbuf : sluicelaw06_buffer.f k n = some (List.replicate m 99)) (h0 : roomF width m = x) (hx : x = 2 ∨ x = 67)
    (hl : sluicelaw06_laid.f k (List.replicate m 99) [] = some true) :
    Calls Try.prog 10 #[.int .i64 width, .string t, .int .i64 n] w fun e w' => e = .returned (.bool true) ∧ Below w.heap.size w w' := by
  have hw1 : (x = 2 ∧ (width < 1 ∨ (1 ≤ width ∧ width > 256))) ∨ (x = 67 ∧ 1 ≤ width ∧ width ≤ 256 ∧ (m : Int) < width) := by
    unfold roomF at h0
    split at h0
    · rename_i h
      exact .inl ⟨h0.symm, by omega⟩
    · split at h0
      · exact .inr ⟨h0.symm, by omega⟩
      · subst h0
        rcases hx with h | h <;> cases h
  have HW := Aside0.mk hw1
  have HBUF := Aside0.mk hbuf
  have H0 := Aside0.mk h0
  have HL := Aside0.mk hl
  have HX := Aside0.mk hx
  clear hbuf h0 hl hw1 hx
  have HB := Aside0.mk (Below.refl w.heap.size w)
  have hst : ∀ (a : Addr) (fn : Fn) (x y : Array Value) (w : World), Sem.run Try.prog (store a (.func fn x y)) w = match w.cell? a with
      | some _ => if w.frozen? a then .halt (.unsupported (.unsafePointer "a write to bytes that a string shares")) w else .ok () (w.setCell a (.func fn x y))
      | none => match w.farStore Try.prog a (.func fn x y) (Mode.plain == .atomic) with
        | .ok (w', _) => .ok () w'
        | .error h => .halt h w := fun a fn x y w => run_store _ _ _ _ _ rfl
  go_enter Try.func10, Try.ntmps10
  go_upto_region 2 with (go_at_call 24; refine (form_calls width _).mono ?_; rintro e w1 ⟨b1, b2, rfl, hb1, hb2, hH, hb⟩; have HB1 := Aside0.mk hb; clear hb1 hb2 hH hb; clear HB; have HB := HB1; clear HB1; unfold formV)
  clear hst
  have HF := Aside0.mk (at_new' w1 (.cells #[Value.int .i64 width, .func (.func 81) #[] #[.pointer (some ⟨b1, 0, none⟩)], .func (.func 82) #[] #[.pointer (some ⟨b2, 0, none⟩)]] 42 (0, 0)) w1.heap.size rfl)
  have hgw : w.heap.size ≤ w1.heap.size := HB.out.size
  go_upto_region 3 with (go_at_call 25; refine (sluicelaw06_buffer.calls k n _ _ HBUF.out).mono ?_; rintro e w2 ⟨v0, rfl, hR, hbw⟩; have HRW := Aside0.mk hR; have HBW := Aside0.mk hbw; clear hR hbw)
  have hbelow : Below w.heap.size w w2 := below_step (below_alloc HB.out _) HBW.out
  have hF2 := blk_below HF.out HBW.out
  have hlen99 : (List.replicate m (99 : Int)).length = m := List.length_replicate
  obtain ⟨A, cap, rfl, hmc, hC2⟩ := Kd.R_reads HRW.out
  clear HB HF HRW HBW hgw
  have HB := Aside0.mk hbelow
  have HF := Aside0.mk hF2
  have HC2 := Aside0.mk hC2
  rw [hlen99] at hmc ⊢
  have HT : Aside0 (∀ (W : World), (Kd.int .u8).C W A (List.replicate m (99 : Int)).length (List.replicate m 99) → Calls Try.prog 29 #[.slice A m cap, .slice none 0 0] W fun e w' => e = .returned (.bool true) ∧ Drawn0 W w') := ⟨fun W h1 => by
    have := sluicelaw06_laid.calls k A cap (List.replicate m 99) none 0 [] true W h1 (by rw [hlen99]; exact hmc) ⟨rfl, by decide, fun h => absurd h (by decide)⟩ (Nat.le_refl _) HL.out
    rw [hlen99] at this
    exact this⟩
  clear hbelow hF2 hlen99 hC2 hmc
  generalize w1.heap.size = gf at *
  clear w1
  go_upto_region 4 with (first | (refine wpList_load_row ?hg 42 (.tmp 7) ?ho gf ?hx 42 _ (0, 0) _ HF.out Try.underlying42 rfl (by kernel_rfl) ?_; (case hg => rfl); (case ho => rfl); (case hx => rfl)) | (go_at_call 26; refine (lay_fail width b1 b2 m cap A t _ x H0.out HX.out).mono ?_; rintro e w4 ⟨rfl, hb4⟩; have n0_ := Aside0.mk (below_step (by repeat (first | (with_reducible first | exact HB.out | apply below_alloc | apply pw_below_drewN | apply below_drew1) | exact HB.out)) hb4); have n1_ := Aside0.mk (blk_below HF.out hb4); have n2_ := Aside0.mk (Kd.C_below HC2.out hb4); clear HB HF HC2 hb4; have HB := n0_; have HF := n1_; have HC2 := n2_; clear n0_ n1_ n2_))
  go_upto_region 5 with (first | (refine wpList_load_row ?hg 42 (.tmp 7) ?ho gf ?hx 42 _ (0, 0) _ HF.out Try.underlying42 rfl (by kernel_rfl) ?_; (case hg => rfl); (case ho => rfl); (case hx => rfl)) | (go_at_call 27; refine (take_fail width b1 b2 m cap A _ x H0.out HX.out).mono ?_; rintro e w4 ⟨rfl, hb4⟩; have n0_ := Aside0.mk (below_step (by repeat (first | (with_reducible first | exact HB.out | apply below_alloc | apply pw_below_drewN | apply below_drew1) | exact HB.out)) hb4); have n1_ := Aside0.mk (blk_below HF.out hb4); have n2_ := Aside0.mk (Kd.C_below HC2.out hb4); clear HB HF HC2 hb4; have HB := n0_; have HF := n1_; have HC2 := n2_; clear n0_ n1_ n2_))
  clear HX
  rcases HW.out with ⟨rfl, hw | ⟨hw, hw'⟩⟩ | ⟨rfl, hw1, hw2, hw3⟩
  · have b1' : decide (width < 1) = true := decide_eq_true hw
    clear HW hw
    go_wp2_with (first | (refine wpList_load_row ?hg 42 (.tmp 7) ?ho gf ?hx 42 _ (0, 0) _ HF.out Try.underlying42 rfl (by kernel_rfl) ?_; (case hg => rfl); (case ho => rfl); (case hx => rfl)) | (go_at_call 28; refine (width_calls width b1 b2 _).mono ?_; rintro e w4 ⟨rfl, hb4⟩; have n0_ := Aside0.mk (below_step (by repeat (first | (with_reducible first | exact HB.out | apply below_alloc | apply pw_below_drewN | apply below_drew1) | exact HB.out)) hb4); have n1_ := Aside0.mk (blk_below HF.out hb4); have n2_ := Aside0.mk (Kd.C_below HC2.out hb4); clear HB HF HC2 hb4; have HB := n0_; have HF := n1_; have HC2 := n2_; clear n0_ n1_ n2_) | (go_at_call 14; refine (sluicelaw06_num.calls _ _ _ rfl).mono ?_; rintro e w4 ⟨rfl, ⟨nd, rfl⟩⟩))
    go_ret
    exact ⟨by first | rfl | (simp; done), by repeat (first | (with_reducible first | exact HB.out | apply below_alloc | apply pw_below_drewN | apply below_drew1) | exact HB.out)⟩
  · have b1' : decide (width < 1) = false := decide_eq_false (by omega)
    have b2' : decide (width > 256) = true := decide_eq_true hw'
    clear HW hw hw'
    go_wp2_with (first | (refine wpList_load_row ?hg 42 (.tmp 7) ?ho gf ?hx 42 _ (0, 0) _ HF.out Try.underlying42 rfl (by kernel_rfl) ?_; (case hg => rfl); (case ho => rfl); (case hx => rfl)) | (go_at_call 28; refine (width_calls width b1 b2 _).mono ?_; rintro e w4 ⟨rfl, hb4⟩; have n0_ := Aside0.mk (below_step (by repeat (first | (with_reducible first | exact HB.out | apply below_alloc | apply pw_below_drewN | apply below_drew1) | exact HB.out)) hb4); have n1_ := Aside0.mk (blk_below HF.out hb4); have n2_ := Aside0.mk (Kd.C_below HC2.out hb4); clear HB HF HC2 hb4; have HB := n0_; have HF := n1_; have HC2 := n2_; clear n0_ n1_ n2_) | (go_at_call 14; refine (sluicelaw06_num.calls _ _ _ rfl).mono ?_; rintro e w4 ⟨rfl, ⟨nd, rfl⟩⟩))
    go_ret
    exact ⟨by first | rfl | (simp; done), by repeat (first | (with_reducible first | exact HB.out | apply below_alloc | apply pw_below_drewN | apply below_drew1) | exact HB.out)⟩
  · have b1' : decide (width < 1) = false := decide_eq_false (by omega)
    have b2' : decide (width > 256) = false := decide_eq_false (by omega)
    have b3' : decide ((m : Int) < width) = true := decide_eq_true hw3
    clear HW hw1 hw2 hw3
    go_wp2_with (first | (refine wpList_load_row ?hg 42 (.tmp 7) ?ho gf ?hx 42 _ (0, 0) _ HF.out Try.underlying42 rfl (by kernel_rfl) ?_; (case hg => rfl); (case ho => rfl); (case hx => rfl)) | (go_at_call 28; refine (width_calls width b1 b2 _).mono ?_; rintro e w4 ⟨rfl, hb4⟩; have n0_ := Aside0.mk (below_step (by repeat (first | (with_reducible first | exact HB.out | apply below_alloc | apply pw_below_drewN | apply below_drew1) | exact HB.out)) hb4); have n1_ := Aside0.mk (blk_below HF.out hb4); have n2_ := Aside0.mk (Kd.C_below HC2.out hb4); clear HB HF HC2 hb4; have HB := n0_; have HF := n1_; have HC2 := n2_; clear n0_ n1_ n2_) | (go_at_call 29; refine (HT.out _ (by exact HC2.out)).mono ?_; rintro e w4 ⟨rfl, ⟨nd, rfl⟩⟩) | (go_at_call 14; refine (sluicelaw06_num.calls _ _ _ rfl).mono ?_; rintro e w4 ⟨rfl, ⟨nd, rfl⟩⟩))
    go_ret
    exact ⟨by first | rfl | (simp; done), by repeat (first | (with_reducible first | exact HB.out | apply below_alloc | apply pw_below_drewN | apply below_drew1) | exact HB.out)⟩
end Go.Proofs.Ytnmhfcfojbfikaa.QReelTexts
