/- spoil: it writes in the blocks of the list that it is handed, and in new ones. Conditions: as each theorem says. -/
import Derived.Test.YtnmhfcfojbfikaaQRosterLaysx3
import Derived.Outline
namespace Go.Proofs.Ytnmhfcfojbfikaa.QRosterLays
open Go.RowKit Go.Proofs.YtnmhfcfojbfikaaW.PrintWords Go.Proofs.YtnmhfcfojbfikaaW.PrintLast Go.Proofs.YtnmhfcfojbfikaaW.PrintMore
set_option linter.unusedVariables false
set_option linter.unusedSimpArgs false
/-- What lies outside the blocks from lo to hi, and was there, lies as it lay. -/
structure Outs (lo hi : Nat) (w w' : World) : Prop where
  os : w'.os = w.os
  tape : w'.tape = w.tape
  output : w'.output = w.output
  size : w.heap.size ≤ w'.heap.size
  block : ∀ k, k < w.heap.size → ¬ (lo ≤ k ∧ k < hi) → w'.heap[k]? = w.heap[k]?
def Ok (lo hi : Nat) (w : World) (k : Nat) : Prop := (lo ≤ k ∧ k < hi) ∨ w.heap.size ≤ k
section
variable {lo hi : Nat} {w w' w'' : World}
theorem Outs.refl (lo hi : Nat) (w : World) : Outs lo hi w w := ⟨rfl, rfl, rfl, Nat.le_refl _, fun _ _ _ => rfl⟩
theorem Outs.grown (h : Outs lo hi w w') {row : Option Nat} (hg : w'.grownBy w'' row) (hr : ∀ k, row = some k → Ok lo hi w k) : Outs lo hi w w'' :=
  ⟨hg.os.trans h.os, hg.tape.trans h.tape, hg.output.trans h.output, Nat.le_trans h.size hg.size, fun k hk hn => (hg.block k (Nat.lt_of_lt_of_le hk h.size) (fun e => by rcases hr k e.symm with hq | hq; exact hn hq; omega)).trans (h.block k hk hn)⟩
theorem Outs.more (h : Outs lo hi w w') (hb : Below w'.heap.size w' w'') : Outs lo hi w w'' :=
  ⟨hb.os.trans h.os, hb.tape.trans h.tape, hb.output.trans h.output, Nat.le_trans h.size hb.size, fun k hk hn => (hb.block k (Nat.lt_of_lt_of_le hk h.size)).trans (h.block k hk hn)⟩
theorem Outs.drewN (h : Outs lo hi w w') (n : Nat) : Outs lo hi w (w'.drewN n) := h.more (pw_below_drewN (Below.refl _ _) n)
theorem Outs.drew (h : Outs lo hi w w') : Outs lo hi w w'.drew := h.more (below_drew (Below.refl _ _))
theorem Outs.alloc (h : Outs lo hi w w') (o : Obj) : Outs lo hi w (w'.alloc o) := h.more (below_alloc (Below.refl _ _) o)
theorem Outs.below (h : Outs lo hi w w') (hl : lo ≤ w.heap.size) : Below lo w w' := ⟨h.os, h.tape, h.output, h.size, fun k hk => h.block k (by omega) (by omega)⟩
end
theorem below_lo {lo : Nat} {w w' w'' : World} (hB : Below lo w w') (hl : lo ≤ w.heap.size) (hb : Below w'.heap.size w' w'') : Below lo w w'' :=
  ⟨hb.os.trans hB.os, hb.tape.trans hB.tape, hb.output.trans hB.output, Nat.le_trans hB.size hb.size, fun k hk => (hb.block k (Nat.lt_of_lt_of_le hk (Nat.le_trans hl hB.size))).trans (hB.block k hk)⟩
theorem drop_head (l : List S101) (i : Nat) (h : i < l.length) : l[i] ∈ l.drop i := by
  rw [List.drop_eq_getElem_cons h]
  exact List.mem_cons_self ..
def sp : ByteArray := ⟨#[115, 112, 111, 105, 108, 116]⟩
def sp34 : S34 := ⟨sp, sp⟩
def mo34 : S34 := ⟨⟨#[109, 111, 114, 101]⟩, ⟨#[]⟩⟩
/-- Two rows that were just built. -/
theorem two_rows (w : World) (a b : S34) : ReadsRow (fun x cs => cs = [.string x.f0, .string x.f1]) 2 (w.alloc (.cells #[.string a.f0, .string a.f1, .string b.f0, .string b.f1] 34 (0, 0))) (some ⟨w.heap.size, 0, none⟩) 2 [a, b] := by
  refine ⟨rfl, by omega, fun _ => ⟨_, rfl, fun j p hj => ?_⟩⟩
  have hB : (w.alloc (.cells #[.string a.f0, .string a.f1, .string b.f0, .string b.f1] 34 (0, 0))).heap[w.heap.size]? = some (.cells #[.string a.f0, .string a.f1, .string b.f0, .string b.f1] 34 (0, 0)) := by
    show (w.heap.push _)[w.heap.size]? = _
    exact Array.getElem?_push_size
  match j, hj with
  | 0, hj =>
    obtain rfl := Option.some.inj hj
    refine ⟨_, rfl, rfl, fun i u hu => ?_⟩
    match i, hu with
    | 0, hu => obtain rfl := Option.some.inj hu; exact (blk_cell hB 0).trans rfl
    | 1, hu => obtain rfl := Option.some.inj hu; exact (blk_cell hB 1).trans rfl
    | i + 2, hu => simp at hu
  | 1, hj =>
    obtain rfl := Option.some.inj hj
    refine ⟨_, rfl, rfl, fun i u hu => ?_⟩
    match i, hu with
    | 0, hu => obtain rfl := Option.some.inj hu; exact (blk_cell hB 2).trans rfl
    | 1, hu => obtain rfl := Option.some.inj hu; exact (blk_cell hB 3).trans rfl
    | i + 2, hu => simp at hu
  | j + 2, hj => simp at hj
set_option maxHeartbeats 8000000 in
set_option maxRecDepth 100000 in
theorem spoil (lo hi g n cap : Nat) (xs : List S101) (w : World) (hS : Kd.S k101 101 w lo (fun k => lo ≤ k ∧ k < hi) (.slice (some ⟨g, 0, none⟩) n cap) xs) (hlo : lo ≤ w.heap.size) (hm : ∀ x ∈ xs, x.f1.length ≤ 1000000000) (hn : n ≤ 1000000000) :
    Calls Try.prog 23 #[.slice (some ⟨g, 0, none⟩) n cap] w fun e w' => e = .returned (.tuple #[]) ∧ Outs lo hi w w' := by
  have HS := Aside0.mk (Kd.S_mono hS (ok' := Ok lo hi w) (fun k hk => .inl hk))
  have HL := Aside0.mk hlo
  have HM := Aside0.mk hm
  have HO := Aside0.mk (Outs.refl lo hi w)
  have HN := Aside0.mk (Kd.S_reads' hS).1
  clear hS hlo hm
  go_enter Try.func23, Try.ntmps23
  go_wp2
  go_loopg [2] n (fun kq v2 w' => ∃ (i : Nat) (zs : List S101), v2 = .int .i64 (i : Int) ∧ Aside0 (kq + i = n) ∧ Aside0 (zs.length = n ∧ ∀ x ∈ zs.drop i, x.f1.length ≤ 1000000000) ∧ Aside0 (Kd.S k101 101 w' lo (Ok lo hi w) (.slice (some ⟨g, 0, none⟩) n cap) zs) ∧ Aside0 (Outs lo hi w w'))
  case atStart => exact ⟨0, xs, rfl, ⟨rfl⟩, ⟨HN.out.symm, fun x hx => HM.out x (by rw [List.drop_zero] at hx; exact hx)⟩, HS, HO⟩
  case round =>
    clear HS HO HN
    obtain ⟨i, zs, rfl, HK, HZ, HS, HO⟩ := hrel
    by_cases hi_ : i < n
    · have b1 : decide ((i : Int) < (n : Int)) = true := decide_eq_true (by omega)
      obtain ⟨oki, c, hcl, hM, hcc, hoki, hH⟩ := Kd.S_lend HS.out z101 (i : Int) (by omega) (by omega)
      rw [Int.toNat_natCast] at hM hcc
      obtain ⟨v1, rfl, hR⟩ := k101_openM hM
      obtain ⟨A2, c2, rfl⟩ := Kd.R_slice hR
      have hzi : zs.getD i z101 = zs[i]'(by rw [HZ.out.1]; exact hi_) := by
        rw [List.getD_eq_getElem?_getD, List.getElem?_eq_getElem (by rw [HZ.out.1]; exact hi_)]
        rfl
      have hml : (zs.getD i z101).f1.length ≤ 1000000000 := by
        rw [hzi]
        exact HZ.out.2 _ (drop_head zs i (by rw [HZ.out.1]; exact hi_))
      obtain ⟨okw, hokw⟩ : ∃ okw : Nat → Prop, okw = fun k => oki k ∨ Ok lo hi w k ∧ wr.heap.size ≤ k := ⟨_, rfl⟩
      have hHw := Kd.H_widen hH
      rw [← hokw] at hHw
      have hRw : k34.R 34 wr lo okw (.slice A2 (zs.getD i z101).f1.length c2) (zs.getD i z101).f1 := Kd.R_mono hR (fun k hk => by rw [hokw]; exact .inl hk)
      have hfr : ∀ k, wr.heap.size ≤ k → okw k := fun k hk => by
        rw [hokw]
        exact .inr ⟨.inr (Nat.le_trans HO.out.size hk), hk⟩
      have hoo : ∀ k, okw k → Ok lo hi w k := fun k hk => by
        rw [hokw] at hk
        rcases hk with hk | hk
        · exact (hoki k hk).1
        · exact hk.1
      have hgg : ∀ k, okw k → k ≠ g := fun k hk he => by
        obtain ⟨_, f, hRg⟩ := hHw
        exact (hRg.1 k (by rw [he]; rfl)).2 hk
      have hog : Ok lo hi w g := HS.out.choose_spec.1 g rfl |> fun h_ => h_
      generalize (zs.getD i z101).f0 = nm at hHw hcc
      generalize hES : (zs.getD i z101).f1 = es at hHw hRw hml hcc
      have HFR := Aside0.mk hfr
      have HOO := Aside0.mk hoo
      have HGG := Aside0.mk hgg
      have HH := Aside0.mk hHw
      have HR := Aside0.mk hRw
      obtain ⟨m, hm⟩ : ∃ m, es.length = m := ⟨_, rfl⟩
      rw [hm] at HH HR hml hcc
      have HE := Aside0.mk hm
      have HOG := Aside0.mk hog
      have hx1 : wr.cell? ⟨g, i * 2 + 1, none⟩ = some (.slice A2 m c2) := hcc 1 _ rfl
      have p1 : (0 ≤ (i : Int)) = True := eq_true (by omega)
      have q1 : ((i : Int) < (n : Int)) = True := eq_true (by omega)
      obtain ⟨og, rfl⟩ : ∃ q, q = gk := ⟨gk, rfl⟩
      have hog_ := Aside0.mk (show 0 < og by have := HK.out; omega)
      have HK' : Aside0 (og - 1 + (i + 1) = n) := ⟨by have := HK.out; omega⟩
      clear hzi hRw hHw hH hR hM hcl hcc hoki hfr hoo hgg hES hm hokw HS HK
      go_upto_region 4 with (fail)
      go_loopg [3] m (fun kq v3 w' => ∃ (j : Nat) (ys : List S34), v3 = .int .i64 (j : Int) ∧ Aside0 (kq + j = m) ∧ Aside0 (ys.length = m) ∧ Aside0 (k34.R 34 w' lo okw (.slice A2 m c2) ys) ∧ Aside0 (Kd.H k101 101 w' lo (Ok lo hi w) (.slice (some ⟨g, 0, none⟩) n cap) zs (i : Int) okw [.string nm, .slice A2 m c2]) ∧ Aside0 (Outs lo hi w w') ∧ Aside0 (wr.heap.size ≤ w'.heap.size))
      case atStart => exact ⟨0, es, rfl, ⟨rfl⟩, HE, HR, HH, HO, ⟨Nat.le_refl _⟩⟩
      case round =>
        clear HR HH HO HE hx1
        obtain ⟨j, ys, rfl, HJ, HY, HR, HH, HO, HWS⟩ := hrel
        obtain ⟨rows, _, _, _, _, hcc, _⟩ := Kd.H_raw HH.out (by omega) (by omega)
        rw [Int.toNat_natCast] at hcc
        have hx1 : wr.cell? ⟨g, i * 2 + 1, none⟩ = some (.slice A2 m c2) := hcc 1 _ rfl
        clear hcc
        by_cases hj : j < m
        · have b2 : decide ((j : Int) < (m : Int)) = true := decide_eq_true (by omega)
          have p2 : (0 ≤ (j : Int)) = True := eq_true (by omega)
          have q2 : ((j : Int) < (m : Int)) = True := eq_true (by omega)
          obtain ⟨g2, cap2, eo, hg2, hlt2, cells, hb2⟩ := Kd.R_form HR.out (by rw [HY.out]; omega)
          obtain ⟨rfl, -, -⟩ : A2 = some ⟨g2, 0, none⟩ ∧ m = ys.length ∧ c2 = cap2 := by
            injection eo with h1 h2 h3
            exact ⟨h1, h2, h3⟩
          obtain ⟨c0, hc0l, hc0, hcc0, _⟩ := Kd.R_elem HR.out z34 (j : Int) (by omega) (by omega)
          obtain rfl := k34_openM hc0
          rw [Int.toNat_natCast] at hcc0
          have hOKg := HGG.out g2
          have hgokw : okw g2 := HR.out.1 g2 (by rfl)
          have HJ' := Aside0.mk (show gk - 1 + (j + 1) = m by have := HJ.out; omega)
          have hgk : 0 < gk := by have := HJ.out; omega
          have hB := Aside0.mk (Outs.below HO.out HL.out)
          have hset : (ys.set j sp34).length = m := by rw [List.length_set]; exact HY.out
          have HY' := Aside0.mk hset
          clear hb2 eo hset HJ
          go_wp2_with (first | ((with_reducible refine gate_store (t := 34) (p := 28) rfl ?_); apply Kd.R_store k34 (w0 := w) lo rfl rfl 34 (.tmp 28) (.tmp 27) rfl 34 (g := g2) (n := m) (cap := c2) (j : Int) 0 ys sp34 (.agg #[.string sp, .string sp]) [.string sp, .string sp] _ okw (fun _ => False); (case hu => rfl); (case ht => kernel_rfl); (case h1 => (intro q hq; rcases List.mem_cons.1 hq with rfl | hq; rfl; rcases List.mem_cons.1 hq with rfl | hq; rfl; cases hq)); (case h0 => omega); (case hi => omega); (case hcl => exact hc0l); (case hcc => rw [Int.toNat_natCast]; exact hcc0); (case hj => exact Nat.le_refl _); (case hM => exact k34_mkM _ _ _ sp34); (case hokp => intro _ h_; exact h_.elim); (case HB => exact hB.out); (case HO => exact HR.out); (case hx => rfl); (case haddr => rfl); (case hoff => rfl); intro w9 hR9 hB9 hg9; rw [Int.toNat_natCast] at hR9; have n0_ := Aside0.mk hR9; have n1_ := Aside0.mk (Kd.H_grown HH.out hg9 (fun k hk => by cases hk; exact hgokw)); have n2_ := Aside0.mk (Outs.grown HO.out hg9 (fun k hk => by cases hk; exact HOO.out _ hgokw)); have n3_ := Aside0.mk (Nat.le_trans HWS.out hg9.size); clear HR HH HO HWS hB hB9 hg9 hR9 hx1 hc0 hcc0; have HR := n0_; have HH := n1_; have HO := n2_; have HWS := n3_; clear n0_ n1_ n2_ n3_))
          go_roundg (gk - 1)
          case measure => omega
          case rel => exact ⟨j + 1, ys.set j sp34, (by first | rfl | (simp; done)), HJ', HY', HR, HH, HO, HWS⟩
        · have hj' : j = m := by have := HJ.out; omega
          subst hj'
          have b2 : decide ((j : Int) < (j : Int)) = false := decide_eq_false (by omega)
          clear HJ
          have hB := Aside0.mk (Outs.below HO.out HL.out)
          have hbase := Aside0.mk (Nat.le_trans HL.out hB.out.size)
          have hyl : ys.length = j := HY.out
          have hlen : (ys ++ [mo34, mo34]).length = j + 2 := by rw [List.length_append, hyl]; rfl
          go_wp2_with (first | ((with_reducible refine gate_builtin (b := .append) (xs := #[.tmp 35, .tmp 38]) rfl ?_); at_builtin; apply Kd.R_append_rows k34 (w0 := w) lo rfl (.tmp 35) (.tmp 38) 28 34 (.agg #[(.string ⟨#[]⟩), (.string ⟨#[]⟩)]) 32 rfl Try.underlying28 info34 rfl (by decide) (by omega) (.slice A2 j c2) ys [mo34, mo34] (some ⟨wr.heap.size, 0, none⟩) 2 2 okw (fun _ => False) rfl rfl; (case HO => exact Kd.R_alloc HR.out _); (case HR => exact two_rows wr mo34 mo34); (case hKM => intro x cs h_; rw [h_]; exact k34_mkM _ _ _ x); (case hokp => intro _ h_; exact h_.elim); (case hfresh => intro k hk; exact HFR.out k (Nat.le_trans HWS.out (Nat.le_trans (below_size (below_alloc (Below.refl _ _) _)) hk))); (case HB => exact below_lo hB.out HL.out (below_alloc (Below.refl _ _) _)); (case hbase => exact Nat.le_trans hbase.out (below_size (below_alloc (Below.refl _ _) _))); (case hl => rw [hyl]; omega); intro v9 w9 hR9 hB9 hg9 hat9; obtain ⟨A3, c3, rfl⟩ := Kd.R_slice hR9; have n0_ := Aside0.mk hR9; have n1_ := Aside0.mk (Kd.H_grown (Kd.H_alloc HH.out _) hg9 (fun k hk => HR.out.1 k hk)); have n2_ := Aside0.mk (Outs.grown (Outs.alloc HO.out _) hg9 (fun k hk => HOO.out _ (HR.out.1 k hk))); have n3_ := Aside0.mk hB9; clear HR HH HO hg9 hR9 hB9 hB hat9; have HR := n0_; have HH := n1_; have HO := n2_; have hB := n3_; clear n0_ n1_ n2_ n3_) | ((with_reducible refine gate_store (t := 28) (p := 41) rfl ?_); apply Kd.H_store k101 (w0 := w) lo rfl rfl 28 (.tmp 41) (.tmp 39) rfl 101 (g := g) (n := n) (cap := cap) (i : Int) 1 zs (⟨nm, ys ++ [mo34, mo34]⟩ : S101) (.slice A3 (ys ++ [mo34, mo34]).length c3) [.slice A3 (ys ++ [mo34, mo34]).length c3] [.string nm, .slice A2 j c2] (Ok lo hi w) okw okw; (case hu => rfl); (case ht => kernel_rfl); (case hone => (intro q hq; rcases List.mem_cons.1 hq with rfl | hq; rfl; cases hq)); (case h0 => omega); (case hi => omega); (case hj => exact Nat.le_refl _); (case hM => exact k101_mkM _ _ _ (⟨nm, ys ++ [mo34, mo34]⟩ : S101) HR.out); (case hokp => intro k h_; exact h_); (case HB => exact hB.out); (case HO => exact HH.out); (case hx => exact congrArg (fun q => Value.slice A3 q c3) hlen.symm); (case haddr => rfl); (case hoff => rfl); intro w9 hS9 hB9 hg9; rw [Int.toNat_natCast] at hS9; have n0_ := Aside0.mk hS9; have n1_ := Aside0.mk (Outs.grown HO.out hg9 (fun k hk => by cases hk; exact HOG.out)); clear HR HH HO hS9 hg9 hB9; have HS := n0_; have HO := n1_; clear n0_ n1_))
          go_roundg (og - 1)
          case measure => have := hog_.out; omega
          case rel => exact ⟨i + 1, zs.set i ⟨nm, ys ++ [mo34, mo34]⟩, (by first | rfl | (simp; done)), HK', ⟨by rw [List.length_set]; exact HZ.out.1, fun x hx => HZ.out.2 x (List.mem_of_mem_drop (i := 1) (by rw [List.drop_drop]; rw [List.drop_set_of_lt (by omega)] at hx; exact hx))⟩, HS, HO⟩
    · have hi' : i = n := by have := HK.out; omega
      subst hi'
      have b1 : decide ((i : Int) < (i : Int)) = false := decide_eq_false (by omega)
      clear HK
      go_wp2
      go_loopg [4] i (fun kq v4 w' => ∃ (j : Nat) (zs : List S101), v4 = .int .i64 (j : Int) ∧ Aside0 (kq + j = i) ∧ Aside0 (zs.length = i) ∧ Aside0 (Kd.S k101 101 w' lo (Ok lo hi w) (.slice (some ⟨g, 0, none⟩) i cap) zs) ∧ Aside0 (Outs lo hi w w'))
      case atStart => exact ⟨0, zs, rfl, ⟨rfl⟩, ⟨HZ.out.1⟩, HS, HO⟩
      case round =>
        clear HS HO HZ
        obtain ⟨j, zs, rfl, HK, HZ, HS, HO⟩ := hrel
        by_cases hj : j < i
        · have b1 : decide ((j : Int) < (i : Int)) = true := decide_eq_true (by omega)
          obtain ⟨oki, c, hcl, hM, hcc, hoki, hH⟩ := Kd.S_lend HS.out z101 (j : Int) (by omega) (by omega)
          obtain ⟨v1, rfl, hR⟩ := k101_openM hM
          generalize (zs.getD (j : Int).toNat z101).f1 = es at hR
          generalize (zs.getD (j : Int).toNat z101).f0 = nm at hH
          have hog : Ok lo hi w g := HS.out.choose_spec.1 g rfl
          have HH := Aside0.mk hH
          have HR := Aside0.mk hR
          have hB := Aside0.mk (Outs.below HO.out HL.out)
          have p1 : (0 ≤ (j : Int)) = True := eq_true (by omega)
          have q1 : ((j : Int) < (i : Int)) = True := eq_true (by omega)
          have hgk : 0 < gk := by have := HK.out; omega
          have HK' : Aside0 (gk - 1 + (j + 1) = i) := ⟨by have := HK.out; omega⟩
          clear HK HS hH hR hM hcc hcl hoki
          go_wp2_with (first | ((with_reducible refine gate_store (t := 9) (p := 51) rfl ?_); apply Kd.H_store k101 (w0 := w) lo rfl rfl 9 (.tmp 51) (.const (.string sp)) rfl 101 (g := g) (n := i) (cap := cap) (j : Int) 0 zs (⟨sp, es⟩ : S101) (.string sp) [.string sp] [.string nm, v1] (Ok lo hi w) oki oki; (case hu => rfl); (case ht => kernel_rfl); (case hone => (intro q hq; rcases List.mem_cons.1 hq with rfl | hq; rfl; cases hq)); (case h0 => omega); (case hi => omega); (case hj => exact Nat.le_of_ble_eq_true rfl); (case hM => exact k101_mkM _ _ _ (⟨sp, es⟩ : S101) HR.out); (case hokp => intro k h_; exact h_); (case HB => exact hB.out); (case HO => exact HH.out); (case hx => rfl); (case haddr => rfl); (case hoff => rfl); intro w9 hS9 hB9 hg9; rw [Int.toNat_natCast] at hS9; have n0_ := Aside0.mk hS9; have n1_ := Aside0.mk (Outs.grown HO.out hg9 (fun k hk => by cases hk; exact hog)); clear HR HH HO hS9 hg9 hB9; have HS := n0_; have HO := n1_; clear n0_ n1_))
          go_roundg (gk - 1)
          case measure => omega
          case rel => exact ⟨j + 1, zs.set j ⟨sp, es⟩, (by first | rfl | (simp; done)), HK', ⟨by rw [List.length_set]; exact HZ.out⟩, HS, HO⟩
        · have hj' : j = i := by have := HK.out; omega
          subst hj'
          have b1 : decide ((j : Int) < (j : Int)) = false := decide_eq_false (by omega)
          clear HK
          go_wp2
          go_end0
          exact ⟨rfl, HO.out⟩
end Go.Proofs.Ytnmhfcfojbfikaa.QRosterLays
