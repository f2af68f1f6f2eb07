/- strconv.FormatUint at base 16, strings.Repeat of a few zeros: what they come to. Conditions: as each theorem says. -/
import Derived.Test.YtnmhfcfojbfikaaDoorProg
import Derived.Below
import Derived.Deep.Draws
import Derived.Deep.AppendLies
import Derived.Maps.AppendAt
import Derived.OwnWalk
import Derived.Laws.BytesArg
import Derived.Laws.MakeOwn
import Derived.Laws.OwnMore
import Derived.Deep.OwnRows
import Derived.Tactics
import Derived.Lib.ConvBytes
import Derived.Laws.Slices
import Derived.WalkKit
import Derived.KernelRfl
import Derived.RowKit3
import Derived.Deep.LoopGhost
import Derived.Deep.QuietTactic
import Derived.BigQuiet
import Derived.WideLaws
import Derived.Deep.DeepCutAuto
import Derived.Deep.CutBlock
import Derived.Deep.RegionHeld3
import Derived.Laws.Rows
import Derived.Lib.AppendStr
import Derived.ArgAppend
import Derived.Laws.IdiomCopy
import Derived.OrdersHeld
import Derived.Laws.BitsLemmas
import Derived.RowKit
import Derived.Laws.Externs
import Derived.Deep.WholeRow
import Derived.Test.YtnmhfcfojbfikaaDoorGlob
import Derived.Test.YtnmhfcfojbfikaaDoorGlobQ
import Derived.Test.YtnmhfcfojbfikaaDoorNum
import Derived.Test.YtnmhfcfojbfikaaDoorWWords
import Derived.Test.YtnmhfcfojbfikaaDoorWLast
import Derived.Test.YtnmhfcfojbfikaaDoorWMore
namespace Go.Proofs.YtnmhfcfojbfikaaDoor.Hex
open Go.RowKit Go.Proofs.YtnmhfcfojbfikaaDoorW.PrintWords Go.Proofs.YtnmhfcfojbfikaaDoorW.PrintLast Go.Proofs.YtnmhfcfojbfikaaDoorW.PrintMore
set_option linter.unusedVariables false
set_option linter.unusedSimpArgs false
def hexd (n : Nat) : Int := if n < 10 then 48 + (n : Int) else 87 + (n : Int)
/-- The j lowest hex digits, the highest of them first. -/
def hexN : Nat → Nat → List Int
  | 0, _ => []
  | j + 1, v => hexd (v / 16 ^ j % 16) :: hexN j v
theorem hexN_len (v : Nat) : ∀ j, (hexN j v).length = j
  | 0 => rfl
  | j + 1 => by show (hexN j v).length + 1 = _; rw [hexN_len v j]
theorem hexN_snoc (v : Nat) : ∀ j, hexN (j + 1) v = hexN j (v / 16) ++ [hexd (v % 16)]
  | 0 => by simp [hexN]
  | j + 1 => by
    show hexd (v / 16 ^ (j + 1) % 16) :: hexN (j + 1) v = (hexd (v / 16 / 16 ^ j % 16) :: hexN j (v / 16)) ++ _
    rw [hexN_snoc v j, Nat.div_div_eq_div_mul, Nat.pow_succ, Nat.mul_comm (16 ^ j) 16]
    rfl
/-- The hex digits of a number, without zeros in front. -/
def hexF : Nat → Nat → List Int
  | 0, v => [hexd (v % 16)]
  | n + 1, v => if v < 16 then [hexd v] else hexF n (v / 16) ++ [hexd (v % 16)]
theorem hexF_eq : ∀ (j n v : Nat), j < n → v / 16 ^ j < 16 → (∀ i, i < j → 16 ≤ v / 16 ^ i) → hexF n v = hexN (j + 1) v
  | 0, 0, _, h, _, _ => by omega
  | 0, n + 1, v, _, h, _ => by
    rw [Nat.pow_zero, Nat.div_one] at h
    have e : hexF (n + 1) v = [hexd v] := if_pos h
    rw [e]
    show _ = [hexd (v / 16 ^ 0 % 16)]
    rw [Nat.pow_zero, Nat.div_one, Nat.mod_eq_of_lt h]
  | j + 1, 0, _, h, _, _ => by omega
  | j + 1, n + 1, v, hn, h, hi => by
    have h0 := hi 0 (by omega)
    rw [Nat.pow_zero, Nat.div_one] at h0
    have e : hexF (n + 1) v = hexF n (v / 16) ++ [hexd (v % 16)] := if_neg (by omega)
    rw [e, hexN_snoc, hexF_eq j n (v / 16) (by omega) (by rw [Nat.div_div_eq_div_mul, ← Nat.pow_succ']; exact h) (fun i hij => by rw [Nat.div_div_eq_div_mul, ← Nat.pow_succ']; exact hi (i + 1) (by omega))]
/-- The buffer behind j digits. -/
def buf (j v : Nat) : List Int := List.replicate (65 - j) 0 ++ hexN j v
theorem buf_len (j v : Nat) (h : j ≤ 65) : (buf j v).length = 65 := by
  unfold buf; rw [List.length_append, List.length_replicate, hexN_len]; omega
theorem buf_set (j v : Nat) (h : j < 65) : (buf j v).set (64 - j) (hexd (v / 16 ^ j % 16)) = buf (j + 1) v := by
  unfold buf
  rw [show 65 - j = (64 - j) + 1 from by omega, List.replicate_succ', List.append_assoc, List.set_append_right _ _ (by rw [List.length_replicate]; exact Nat.le_refl _), List.length_replicate, Nat.sub_self, show 65 - (j + 1) = 64 - j from by omega]
  rfl
theorem buf_drop (j v : Nat) : (buf j v).drop (65 - j) = hexN j v := by
  unfold buf
  rw [List.drop_append_of_le_length (by rw [List.length_replicate]; exact Nat.le_refl _), List.drop_of_length_le (by rw [List.length_replicate]; exact Nat.le_refl _), List.nil_append]
/-! ### bytes in a block of their own -/
def B8 (xs : List Int) : Array Value := (xs.map (Value.int .u8)).toArray
def At8 (t : TypeId) (w : World) (g : Nat) (xs : List Int) : Prop := w.heap[g]? = some (.cells (B8 xs) t (0, 0))
section
variable {t : TypeId} {w w' w0 : World} {g g' base : Nat} {xs : List Int}
theorem At8.lt (h : At8 t w g xs) : g < w.heap.size := blk_lt h
theorem At8.cell (h : At8 t w g xs) (i : Nat) (hi : i < xs.length) : w.cell? ⟨g, i, none⟩ = some (.int .u8 (xs.getD i 0)) := by
  rw [blk_cell h i]
  simp [B8, hi]
theorem At8.frozen (h : At8 t w g xs) (i : Nat) : w.frozen? ⟨g, i, none⟩ = false := blk_frozen h i
theorem At8.set (h : At8 t w g xs) (i : Nat) (x : Int) : At8 t (w.setCell ⟨g, i, none⟩ (.int .u8 x)) g (xs.set i x) := by
  show (w.setCell ⟨g, i, none⟩ (.int .u8 x)).heap[g]? = _
  rw [setCell_eq_setRow w g i _ t (0, 0) _ h, setRow_heap w g _ _ t (0, 0) h]
  congr 2
  simp [B8, List.map_set]
theorem At8.below (h : At8 t w g xs) (hb : Below w.heap.size w w') : At8 t w' g xs := blk_below h hb
theorem At8.drewN (h : At8 t w g xs) (n : Nat) : At8 t (w.drewN n) g xs := h
theorem At8.drew (h : At8 t w g xs) : At8 t w.drew g xs := h
theorem At8.alloc (h : At8 t w g xs) (o : Obj) : At8 t (w.alloc o) g xs := h.below (below_alloc (Below.refl _ _) o)
theorem At8.tail (h : At8 t w g xs) (i : Nat) (hi : i ≤ xs.length) (hm : xs.length ≤ 9223372036854775807) : (Kd.int .u8).C w (some ⟨g, i, none⟩) (xs.length - i) (xs.drop i) := by
  have e : xs.length - i = (xs.drop i).length := by rw [List.length_drop]
  rw [e]
  refine Kd.C_of_reads (d := (0 : Int)) (h1 := fun _ => rfl) ⟨rfl, by rw [List.length_drop]; omega, fun _ => ⟨_, rfl, fun j hj => ?_⟩⟩
  rw [List.length_drop] at hj
  rw [show ({ block := g, off := i } : Addr).add j = ⟨g, i + j, none⟩ from by unfold Addr.add; split <;> simp_all, h.cell (i + j) (by omega), List.getD_eq_getElem?_getD, List.getD_eq_getElem?_getD, List.getElem?_drop]
end
theorem info70 : (Tryd.prog.info? 70).map (fun i => (i.zero, i.size)) = some (some (.agg (B8 (buf 0 0))), 65) := by kernel_rfl
set_option maxHeartbeats 2000000 in
set_option maxRecDepth 100000 in
theorem zeros16 (w : World) (hGQ : Glob.GQ w) : Calls Tryd.prog 47 #[.int .u64 16] w fun e w' => e = .returned (.int .i64 4) ∧ Drawn0 w w' := by
  have hc : w.cell? ⟨4, 15, none⟩ = some (.int .u8 4) := hGQ.cell 15 (by decide)
  have hix : IntKind.u64.wrap (bits BinOp.and IntKind.u64 16 (IntKind.u64.wrap (-16)) * 285870213051353865) / 288230376151711744 = 15 := by decide
  go_enter Tryd.func47, Tryd.ntmps47
  go_wp2
  go_ret
  exact ⟨rfl, by repeat (first | exact Drawn0.refl _ | apply Drawn0.step)⟩
set_option maxHeartbeats 2000000 in
set_option maxRecDepth 100000 in
theorem zeros16' (w : World) (hGQ : Glob.GQ w) : Calls Tryd.prog 43 #[.int .u64 16] w fun e w' => e = .returned (.int .i64 4) ∧ Drawn0 w w' := by
  go_enter Tryd.func43, Tryd.ntmps43
  go_wp2_with (go_at_call 47; refine (zeros16 _ hGQ).mono ?_; rintro e w1 ⟨rfl, ⟨nd, rfl⟩⟩)
  go_ret
  exact ⟨rfl, by repeat (first | exact Drawn0.refl _ | apply Drawn0.step)⟩
set_option maxHeartbeats 2000000 in
set_option maxRecDepth 100000 in
theorem pow16 (w : World) : Calls Tryd.prog 42 #[.int .i64 16] w fun e w' => e = .returned (.bool true) ∧ Drawn0 w w' := by
  go_enter Tryd.func42, Tryd.ntmps42
  go_wp2
  go_ret
  exact ⟨rfl, by repeat (first | exact Drawn0.refl _ | apply Drawn0.step)⟩
/-- What an index into the digits gives. -/
theorem digit_val (n : Nat) (hn : n < 16) (h : n < ({ data := #[48, 49, 50, 51, 52, 53, 54, 55, 56, 57, 97, 98, 99, 100, 101, 102, 103, 104, 105, 106, 107, 108, 109, 110, 111, 112, 113, 114, 115, 116, 117, 118, 119, 120, 121, 122] } : ByteArray).size) : ((({ data := #[48, 49, 50, 51, 52, 53, 54, 55, 56, 57, 97, 98, 99, 100, 101, 102, 103, 104, 105, 106, 107, 108, 109, 110, 111, 112, 113, 114, 115, 116, 117, 118, 119, 120, 121, 122] } : ByteArray)[n]'h).toNat : Int) = hexd n := by
  have : n = 0 ∨ n = 1 ∨ n = 2 ∨ n = 3 ∨ n = 4 ∨ n = 5 ∨ n = 6 ∨ n = 7 ∨ n = 8 ∨ n = 9 ∨ n = 10 ∨ n = 11 ∨ n = 12 ∨ n = 13 ∨ n = 14 ∨ n = 15 := by omega
  rcases this with rfl | rfl | rfl | rfl | rfl | rfl | rfl | rfl | rfl | rfl | rfl | rfl | rfl | rfl | rfl | rfl <;> rfl
theorem and15 (v : Nat) (h : v < 18446744073709551616) : Go.bits .and .u64 (v : Int) 15 = ((v % 16 : Nat) : Int) := by
  have := Num.u64_mask 4 (by decide) (v : Int) (by omega) (by omega)
  rw [show ((2 : Int) ^ 4 - 1) = 15 from by decide, show ((2 : Int) ^ 4) = 16 from by decide] at this
  rw [this]
  omega
theorem pow_small (v : Nat) (h : v < 18446744073709551616) (j : Nat) : v / 16 ^ j < 18446744073709551616 := Nat.lt_of_le_of_lt (Nat.div_le_self _ _) h
theorem j_small (v j u : Nat) (h : v < 18446744073709551616) (hu : v / 16 ^ j = u) (h16 : 16 ≤ u) : j < 15 := by
  rcases Nat.lt_or_ge j 15 with h1 | h1
  · exact h1
  · exfalso
    have h2 : v / 16 ^ j ≤ v / 16 ^ 15 := Nat.div_le_div_left (Nat.pow_le_pow_right (by decide) h1) (by decide)
    have h3 : v / 16 ^ 15 < 16 := by
      rw [Nat.div_lt_iff_lt_mul (by decide)]
      exact h
    omega
theorem more16 {v j u : Nat} (h : ∀ i, i < j → 16 ≤ v / 16 ^ i) (hu : v / 16 ^ j = u) (hlt : 16 ≤ u) : ∀ i, i < j + 1 → 16 ≤ v / 16 ^ i := fun i hi => by
  rcases Nat.lt_or_ge i j with h1 | h1
  · exact h i h1
  · rw [show i = j from by omega, hu]
    exact hlt
theorem slice65 (g p : Nat) (hp : p ≤ 64) (W : World) : (Instr.sliceAt 70 (.pointer (some ⟨g, 0, none⟩)) (some (.int .i64 (p : Int))) none none).run Tryd.prog W = .ok (.slice (some ⟨g, p, none⟩) (65 - p) (65 - p)) W := by
  have hl : Tryd.prog.arrayLen 70 = 65 := by kernel_rfl
  have he : Tryd.prog.elem 70 = 5 := by kernel_rfl
  have hz : ∀ w, (sizeOf 5).run Tryd.prog w = .ok 1 w := fun w => by kernel_rfl
  rw [run_sliceAt_array_l W 70 ⟨g, 0, none⟩ (by kernel_rfl) .i64 (p : Int) (by omega) (by rw [hl]; omega), he, hz, hl, Int.toNat_natCast]
  simp only [Result.andThen, slicedAt]
  rw [if_neg (by omega), Nat.mul_one, add_plain]
def Out (v : Nat) (w : World) (e : Ending) (w' : World) : Prop := e = .returned (.tuple #[.slice none 0 0, .string (strOfNums (hexF 16 v))]) ∧ Below w.heap.size w w'
set_option maxHeartbeats 4000000 in
set_option maxRecDepth 100000 in
theorem formatBits (v : Nat) (hv : v < 18446744073709551616) (w : World) (hGQ : Glob.GQ w) :
    Calls Tryd.prog 33 #[.slice none 0 0, .int .u64 v, .int .i64 16, .bool false, .bool false] w (Out v w) := by
  have HGQ := Aside0.mk hGQ
  have HV := Aside0.mk hv
  clear hGQ hv
  have HB := Aside0.mk (Below.refl w.heap.size w)
  have hz := (zero_of_info info70).1
  go_enter Tryd.func33, Tryd.ntmps33
  go_wp2_with (first | ((with_reducible refine gate_dst (N := 12) rfl ?_); refine box_event ?hg (N := 12) ?hd (cs := B8 (buf 0 0)) (t := 70) ?hr ?_; (case hd => rfl); (case hg => rfl); (case hr => first | (go_simp; done) | (go_simp; rfl)); intro g0 hg w10 hbox hb; have n0_ := Aside0.mk (below_step (by repeat (first | (with_reducible first | exact HB.out | apply below_alloc | apply pw_below_drewN | apply below_drew1) | exact HB.out)) hb); have HGE := Aside0.mk ((by rw [hg]; exact (below_size (by repeat (first | (with_reducible first | exact HB.out | apply below_alloc | apply pw_below_drewN | apply below_drew1) | exact HB.out))) : w.heap.size ≤ g0)); have HAt : Aside0 (At8 70 w10 g0 (buf 0 v)) := ⟨hbox⟩; clear HB hb hbox hg; have HB := n0_; clear n0_) | (go_at_call 42; (with_reducible refine (pow16 _).mono ?_); rintro e w' ⟨rfl, ⟨nd, rfl⟩⟩) | (go_at_call 43; (with_reducible refine (zeros16' _ (by first | exact Glob.GQ.below HGQ.out (by repeat (first | (with_reducible first | exact HB.out | apply below_alloc | apply pw_below_drewN | apply below_drew1) | exact HB.out)))).mono ?_); rintro e w' ⟨rfl, ⟨nd, rfl⟩⟩))
  go_loopg [1, 13] (65) (fun kq v1 v13 w' => ∃ (j : Nat), v1 = .int .u64 ((v / 16 ^ j : Nat) : Int) ∧ v13 = .int .i64 (((65 - j : Nat)) : Int) ∧ Aside0 (kq + j = 65) ∧ Aside0 (j < 16) ∧ Aside0 (∀ i, i < j → 16 ≤ v / 16 ^ i) ∧ Aside0 (At8 70 w' g0 (buf j v)) ∧ Aside0 (Below w.heap.size w w'))
  case atStart => exact ⟨0, by rw [Nat.pow_zero, Nat.div_one], rfl, ⟨rfl⟩, ⟨by decide⟩, ⟨fun i hi => absurd hi (by omega)⟩, ⟨by (with_reducible repeat (first | apply At8.alloc | apply At8.drewN | apply At8.drew)); exact HAt.out⟩, ⟨(by repeat (first | (with_reducible first | exact HB.out | apply below_alloc | apply pw_below_drewN | apply below_drew1) | exact HB.out))⟩⟩
  case round =>
    clear HAt HB
    obtain ⟨j, rfl, rfl, HK, HJ, HI, HAt, HB⟩ := hrel
    have hj := HJ.out
    have hw := pow_small v HV.out j
    obtain ⟨u, hu⟩ : ∃ u, v / 16 ^ j = u := ⟨_, rfl⟩
    rw [hu] at hw
    rw [hu]
    have hcell := HAt.out.cell (64 - j) (by rw [buf_len _ _ (by omega)]; omega)
    have hfro := HAt.out.frozen (64 - j)
    have HSet := Aside0.mk (HAt.out.set (64 - j) (hexd (v / 16 ^ j % 16)))
    rw [buf_set j v (by omega), hu] at HSet
    obtain ⟨p, hp⟩ : ∃ p : Nat, 65 - j = p + 1 := ⟨64 - j, by omega⟩
    have hp' : 64 - j = p := by omega
    rw [hp]
    rw [hp'] at hcell hfro HSet
    have hpl : p < 65 := by omega
    have hand := and15 u hw
    by_cases hlt : 16 ≤ u
    · have b1 : decide ((u : Int) ≥ 16) = true := decide_eq_true (by omega)
      have HU := Aside0.mk hu
      have HP := Aside0.mk hp
      have hj15 := j_small v j u HV.out hu hlt
      have HJ' := Aside0.mk (show j + 1 < 16 from by omega)
      have HK' := Aside0.mk (show gk - 1 + (j + 1) = 65 by have := HK.out; omega)
      have hgk : 0 < gk := by have := HK.out; omega
      clear hu hp hp' hj hj15 HK
      go_wp2
      rw [digit_val (u % 16) (by omega)]
      go_roundg (gk - 1)
      case measure => omega
      case rel => exact ⟨j + 1, (by rw [Nat.pow_succ, ← Nat.div_div_eq_div_mul, HU.out]; first | rfl | omega), (by rw [show 65 - (j + 1) = p from by have := HP.out; omega]), HK', HJ', ⟨more16 HI.out HU.out hlt⟩, ⟨HSet.out⟩, ⟨below_set HB.out HGE.out⟩⟩
    · have b1 : decide ((u : Int) ≥ 16) = false := decide_eq_false (by omega)
      have HU := Aside0.mk hu
      have HP := Aside0.mk hp
      clear hu hp hp' hj HK
      have hu16 : u < 16 := by omega
      have hp64 : p ≤ 64 := by omega
      have hsl := fun W => slice65 g0 p hp64 W
      have hpj : p = 65 - (j + 1) := by have := HP.out; have := HJ.out; omega
      have hbl : Below w.heap.size w (wr.setCell ⟨g0, p, none⟩ (.int .u8 (hexd u))) := below_set HB.out HGE.out
      rw [Nat.mod_eq_of_lt hu16] at HSet
      have hdr : (buf (j + 1) v).drop p = hexF 16 v := by
        rw [hexF_eq j 16 v HJ.out (by rw [HU.out]; exact hu16) HI.out, hpj]
        exact buf_drop _ _
      have HDR := Aside0.mk hdr
      have HLN := Aside0.mk (show (buf (j + 1) v).length = 65 from buf_len _ _ (by have := HJ.out; omega))
      have HBL := Aside0.mk hbl
      have HP64 := Aside0.mk hp64
      clear hdr hbl hpj HI HU HP hp64
      go_wp2_with (first | ((with_reducible refine gate_store (t := 5) (p := 63) rfl ?_); refine store_event (t := 5) (p := 63) (v := ?vo_w9) (w1 := (wr.setCell ⟨g0, p, none⟩ (.int .u8 (hexd u)))) ?hg ?ho ?hn ?hr ?_; (case ho => rfl); (case hg => rfl); (case hn => rfl); (case hr => (go_simp; rw [digit_val u hu16])); intro w9 hw; have hst := HSet.out; have hbl := HBL.out; rw [← hw] at hst hbl; have htl := At8.tail hst p (by rw [HLN.out]; have := HP64.out; omega) (by rw [HLN.out]; decide); rw [HLN.out, HDR.out] at htl; have hcv := Kd.C_string (P := Tryd.prog) (c := 65 - p) Tryd.underlying37 Tryd.underlying5 Tryd.underlying9 htl; have HB9 := Aside0.mk hbl; clear hst htl hbl hw HSet HBL HB HAt HDR HLN))
      go_ret2
      exact ⟨rfl, HB9.out⟩
set_option maxHeartbeats 2000000 in
set_option maxRecDepth 100000 in
theorem formatUint' (v : Nat) (hv : v < 18446744073709551616) (w : World) (hGQ : Glob.GQ w) :
    Calls Tryd.prog 23 #[.int .u64 v, .int .i64 16] w fun e w' => e = .returned (.string (strOfNums (hexF 16 v))) ∧ Below w.heap.size w w' := by
  have HGQ := Aside0.mk hGQ
  have HV := Aside0.mk hv
  clear hGQ hv
  go_enter Tryd.func23, Tryd.ntmps23
  go_wp2_with (go_at_call 33; (with_reducible refine (formatBits v HV.out _ HGQ.out).mono ?_); rintro e w' ⟨rfl, hb⟩)
  go_ret
  exact ⟨rfl, hb⟩
set_option maxHeartbeats 2000000 in
set_option maxRecDepth 100000 in
theorem formatUint (v : Nat) (hv : v < 18446744073709551616) (w : World) (hGQ : Glob.GQ w) :
    Calls Tryd.prog 20 #[.int .u64 v, .int .i64 16] w fun e w' => e = .returned (.string (strOfNums (hexF 16 v))) ∧ Below w.heap.size w w' := by
  have HGQ := Aside0.mk hGQ
  have HV := Aside0.mk hv
  clear hGQ hv
  go_enter Tryd.func20, Tryd.ntmps20
  go_wp2_with (go_at_call 23; (with_reducible refine (formatUint' v HV.out _ HGQ.out).mono ?_); rintro e w' ⟨rfl, hb⟩)
  go_ret
  exact ⟨rfl, hb⟩
end Go.Proofs.YtnmhfcfojbfikaaDoor.Hex
