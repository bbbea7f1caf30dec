/- Own text, for this claim: what the listed package variables hold for chapter 13; a number's text. -/
import Derived.Test.YtjhbiennmambkaaDoorZAsmCode
import Derived.Test.YtjhbiennmambkaaDoorZShAsm
import Derived.Lib.LaidTab
import Derived.Lib.ItoaNum
import Derived.Lib.ItoaLen
import Derived.Sort.Grow
import Derived.WalkMore
import Derived.Stop.LaidErr
namespace Go.Proofs.YtjhbiennmambkaaDoor.Pure
open Go.Shelf Go.RowKit Go.ChangeShapes Go.WideShapes Go.ChangeAt Go.Proofs.YtjhbiennmambkaaDoorW.PrintWords Go.Proofs.YtjhbiennmambkaaDoorW.PrintLast Go.Proofs.YtjhbiennmambkaaDoorW.PrintMore
set_option linter.unusedVariables false
set_option linter.unusedSimpArgs false
theorem var_below {P : Program} {w w1 : World} {n : String} {cs : Array Value} (h : w.var? P n = some cs) (hb : Below w.heap.size w w1) : w1.var? P n = some cs := by
 unfold World.var? at h ⊢
 cases hg : P.globalNamed n with
 | none => simp [hg] at h
 | some g =>
  simp only [hg, Option.bind_some] at h ⊢
  have hlt : g < w.heap.size := by
   rcases Nat.lt_or_ge g w.heap.size with h' | h'
   ·exact h'
   ·simp [Array.getElem?_eq_none h'] at h
  rw [hb.block g hlt]; exact h
noncomputable def mA : Array Value := ((parts (Rows.laid_payoff_asm_modes (H := Unit))).map leafOf).toArray
noncomputable def mR : Array Value := ((parts (Rows.laid_payoff_payoffref13_modes (H := Unit))).map leafOf).toArray
structure GA (w : World) : Prop where
 kin : ∃ t fr, w.heap[0]? = some (.cells kA t fr)
 tab : ∃ t fr, w.heap[3]? = some (.cells tA t fr)
 pow : Lib.TabIs Tryd.prog w "internal/strconv.uint64pow10" .u64 Lib.pow10Tab
 moa : ∃ t fr, w.heap[1]? = some (.cells mA t fr)
 mor : ∃ t fr, w.heap[2]? = some (.cells mR t fr)
theorem blk_ex {w w1 : World} {g : Nat} {cs : Array Value} (h : ∃ t fr, w.heap[g]? = some (.cells cs t fr)) (hb : Below w.heap.size w w1) : ∃ t fr, w1.heap[g]? = some (.cells cs t fr) := by
 obtain ⟨t, fr, hK⟩ := h
 exact ⟨t, fr, (hb.block g (blk_lt' hK)).trans hK⟩
theorem GA.below {w w1 : World} (h : GA w) (hb : Below w.heap.size w w1) : GA w1 := ⟨blk_ex h.kin hb, blk_ex h.tab hb, var_below h.pow hb, blk_ex h.moa hb, blk_ex h.mor hb⟩
theorem gPow : Tryd.prog.globalNamed "internal/strconv.uint64pow10" = some 5 := by kernel_rfl
theorem tPow : (Tryd.prog.globals[5]?).map (·.type) = some 135 := by kernel_rfl
theorem gMa : Tryd.prog.globalNamed "payoff/asm.modes" = some 1 := by kernel_rfl
theorem tMa : (Tryd.prog.globals[1]?).map (·.type) = some 73 := by kernel_rfl
theorem gMr : Tryd.prog.globalNamed "payoff/payoffref13.modes" = some 2 := by kernel_rfl
theorem tMr : (Tryd.prog.globals[2]?).map (·.type) = some 73 := by kernel_rfl
theorem leaf_cells {H : Type} {enc : TypeId × Value → H} {P : Program} {w : World} {base : Nat} {spare : Nat → Bool} {held : Bool} {fuel : Nat} {t e : TypeId} {n : Nat} {cs : List Value} {x : DataW H × List MemPlace}
  (ht : P.underlying t = some (.array n e)) (he : leafB P e = true) (hce : P.cellsOf e = 1) (hct : P.cellsOf t = n) (h : DataW.trod enc P w base spare held fuel t cs = some x) : cs = (parts x.1).map leafOf := by
 obtain ⟨xs, k, _, h2, h3, h4, h5⟩ := DataW.trod_array ht h
 have hp : parts x.1 = xs.map (·.1) := by rw [h2]; rfl
 rw [hp]
 apply List.ext_getElem
 ·rw [List.length_map, List.length_map]; rw [h4, h3, hct]
 ·intro i h6 h7
  have him : i < n := by rw [h3, hct] at h6; exact h6
  have h8 := h5 i him
  rw [hce, Nat.mul_one] at h8
  have h9 : (cs.drop i).take 1 = [cs[i]] := by rw [List.drop_eq_getElem_cons h6]; rfl
  rw [h9, List.getElem?_eq_getElem (by omega)] at h8
  have h10 := leaf_cell he h8
  rw [h10]
  simp
theorem var_blk {W : World} (n : String) (g : Nat) (cs : Array Value) (hg : Tryd.prog.globalNamed n = some g) (hv : W.var? Tryd.prog n = some cs) : ∃ t fr, W.heap[g]? = some (.cells cs t fr) := by
 simp only [World.var?, hg, Option.bind_some] at hv
 split at hv
 ·rename_i c t fr hc
  simp only [Option.some.injEq] at hv
  subst hv
  exact ⟨_, _, hc⟩
 ·cases hv
theorem row_head {W : World} {rest : List (String × DataW Unit)} {n : String} {g t e k m : Nat} {D : DataW Unit} {A : Array Value} (hg : Tryd.prog.globalNamed n = some g) (ht : (Tryd.prog.globals[g]?).map (·.type) = some t)
  (hu : Tryd.prog.underlying t = some (.array k e)) (h1 : flatB Tryd.prog e m = true) (h2 : Tryd.prog.cellsOf e = m) (h3 : Tryd.prog.cellsOf t = k * m) (hA : A = (((parts D).map fun d => (parts d).map leafOf).flatten).toArray)
  (h : laidMet Tryd.prog ((n, D) :: rest) W) : ∃ t fr, W.heap[g]? = some (.cells A t fr) := by
 obtain ⟨ps, ⟨g1, t1, cs1, f1, p1, q1, hg1, ht1, hv1, hd1, _⟩, _⟩ := h
 obtain rfl := Option.some.inj (hg.symm.trans hg1)
 obtain rfl := Option.some.inj (ht.symm.trans ht1)
 have h5 := table_cells hu h1 h2 h3 hd1
 have e : cs1 = A := by apply Array.ext'; rw [hA, h5]
 rw [e] at hv1
 exact var_blk n g A hg hv1
theorem leaf_head {W : World} {rest : List (String × DataW Unit)} {n : String} {g t e k : Nat} {D : DataW Unit} {A : Array Value} (hg : Tryd.prog.globalNamed n = some g) (ht : (Tryd.prog.globals[g]?).map (·.type) = some t)
  (hu : Tryd.prog.underlying t = some (.array k e)) (h1 : leafB Tryd.prog e = true) (h2 : Tryd.prog.cellsOf e = 1) (h3 : Tryd.prog.cellsOf t = k) (hA : A = ((parts D).map leafOf).toArray)
  (h : laidMet Tryd.prog ((n, D) :: rest) W) : ∃ t fr, W.heap[g]? = some (.cells A t fr) := by
 obtain ⟨ps, ⟨g1, t1, cs1, f1, p1, q1, hg1, ht1, hv1, hd1, _⟩, _⟩ := h
 obtain rfl := Option.some.inj (hg.symm.trans hg1)
 obtain rfl := Option.some.inj (ht.symm.trans ht1)
 have h5 := leaf_cells hu h1 h2 h3 hd1
 have e : cs1 = A := by apply Array.ext'; rw [hA, h5]
 rw [e] at hv1
 exact var_blk n g A hg hv1
abbrev laidL7 : List (String × DataW Unit) := [("math/bits.deBruijn32tab", Rows.laid_math_bits_deBruijn32tab), ("math/bits.deBruijn64tab", Rows.laid_math_bits_deBruijn64tab), ("internal/strconv.uint64pow10", Rows.laid_internal_strconv_uint64pow10), ("payoff/payoffref11.table", Rows.laid_payoff_payoffref11_table), ("payoff/payoffref13.modes", Rows.laid_payoff_payoffref13_modes), ("payoff/code.kinds", Rows.laid_payoff_code_kinds), ("payoff/asm.modes", Rows.laid_payoff_asm_modes)]
theorem of_laid7 {W : World} (h0 : laidMetH Tryd.prog laidL7 W) : GA W := by
 rw [MakeChecks.laidMetH_plain _ _ _ (by kernel_rfl)] at h0
 have h2 := (h0.tail).tail
 have h3 := h2.tail
 have h4 := h3.tail
 have h5 := h4.tail
 have h6 := h5.tail
 exact ⟨row_head gKinds tKinds Tryd.underlying71 (m := 6) (by kernel_rfl) (by kernel_rfl) (by kernel_rfl) rfl h5,
  row_head gTable tTable Tryd.underlying104 (m := 5) (by kernel_rfl) (by kernel_rfl) (by kernel_rfl) rfl h3,
  Lib.tabIs_of_head (t := 135) (e := 125) (n := 20) gPow tPow Tryd.underlying135 Tryd.underlying125 (by kernel_rfl) (by kernel_rfl) (rest := _) h2,
  leaf_head gMa tMa Tryd.underlying73 (by kernel_rfl) (by kernel_rfl) (by kernel_rfl) rfl h6,
  leaf_head gMr tMr Tryd.underlying73 (by kernel_rfl) (by kernel_rfl) (by kernel_rfl) rfl h4⟩
def modeL : List ByteArray := [⟨#[100, 111, 119, 110]⟩, ⟨#[102, 108, 111, 111, 114]⟩, ⟨#[99, 101, 105, 108]⟩, ⟨#[104, 97, 108, 102, 95, 117, 112]⟩, ⟨#[104, 97, 108, 102, 95, 101, 118, 101, 110]⟩]
def modeW (i : Nat) : ByteArray := modeL.getD i ⟨#[]⟩
theorem mA_get : ∀ i : Nat, i < 5 → mA[i]? = some (.string (modeW i))
 | 0, _ => by kernel_rfl
 | 1, _ => by kernel_rfl
 | 2, _ => by kernel_rfl
 | 3, _ => by kernel_rfl
 | 4, _ => by kernel_rfl
 | n + 5, h => by omega
theorem mR_get : ∀ i : Nat, i < 5 → mR[i]? = some (.string (modeW i))
 | 0, _ => by kernel_rfl
 | 1, _ => by kernel_rfl
 | 2, _ => by kernel_rfl
 | 3, _ => by kernel_rfl
 | 4, _ => by kernel_rfl
 | n + 5, h => by omega
theorem GA.mode {w : World} (h : GA w) (i : Nat) (hi : i < 5) : w.cell? ⟨1, i, none⟩ = some (.string (modeW i)) := by
 obtain ⟨t, fr, hK⟩ := h.moa
 exact (cell_of_row w _ i mA t fr hK).trans (mA_get i hi)
theorem GA.rmode {w : World} (h : GA w) (i : Nat) (hi : i < 5) : w.cell? ⟨2, i, none⟩ = some (.string (modeW i)) := by
 obtain ⟨t, fr, hK⟩ := h.mor
 exact (cell_of_row w _ i mR t fr hK).trans (mR_get i hi)
theorem grow_below (w : World) (k : Nat) (os : Array Obj) : Below w.heap.size w (Sort.grow (w.drewN k) os) :=
 ⟨rfl, rfl, rfl, by simp [Sort.grow], fun i hi => by show (w.heap ++ os)[i]? = w.heap[i]?; rw [Array.getElem?_append_left hi]⟩
def dec (v : Int) : ByteArray := ⟨(Lib.itoa v).toArray⟩
theorem itoa_any (v : Int) (h0 : -9223372036854775808 ≤ v) (h1 : v ≤ 9223372036854775807) (w : World) (hG : GA w) :
  Calls Tryd.prog 60 #[.int .i64 v] w fun e w' => e = .returned (.string (dec v)) ∧ Below w.heap.size w w' := by
 refine (Shelf.Tryd.strconv_Itoa v h0 h1 w hG.pow).mono ?_
 rintro e w' ⟨rfl, k, os, rfl⟩
 exact ⟨rfl, grow_below _ k os⟩
theorem dec_neg (v : Int) (h : v < 0) : (⟨#[45]⟩ : ByteArray) ++ (dec v).extract 1 (dec v).size = dec v ∧ 1 ≤ (dec v).size := by
 unfold dec Lib.itoa
 rw [if_pos h]
 generalize Lib.decDigits v.natAbs = l
 refine ⟨?_, by simp [ByteArray.size]⟩
 apply ByteArray.ext
 rw [ByteArray.data_append, ByteArray.data_extract]
 apply Array.toList_inj.1
 simp [ByteArray.size]
theorem empty_app (s : ByteArray) : (⟨#[]⟩ : ByteArray) ++ s = s := by
 apply ByteArray.ext
 rw [ByteArray.data_append]
 simp
theorem dec_size (v : Int) (h0 : -9223372036854775808 ≤ v) (h1 : v ≤ 9223372036854775807) : (dec v).size ≤ 21 := by
 have := Lib.itoa_length_le v h0 h1
 unfold dec
 simpa [ByteArray.size] using this
set_option maxHeartbeats 8000000 in
set_option maxRecDepth 100000 in
theorem text0_any (v : Int) (h0 : -9223372036854775808 ≤ v) (h1 : v ≤ 9223372036854775807) (w : World) (hG : GA w) :
  Calls Tryd.prog 41 #[.int .i64 v, .int .i64 0] w fun e w' => e = .returned (.tuple #[.string (dec v), .int .i64 0]) ∧ Below w.heap.size w w' := by
 have hs := dec_size v h0 h1
 have q3 : (9223372036854775807 < (dec v).size) = False := eq_false (by omega)
 clear hs
 have HG := yA hG
 have B0 := yA h0
 have B1 := yA h1
 clear hG h0 h1
 by_cases hv : v < 0
 ·have d1 : decide (v < 0) = true := yL hv
  obtain ⟨e1, e2⟩ := dec_neg v hv
  have E1 := yA e1
  have q1 : ((1 : Int) ≤ ((dec v).size : Int)) = True := eq_true (by omega)
  have q2 : (1 ≤ (dec v).size) = True := eq_true e2
  clear hv e1 e2
  go_enter Tryd.func41, Tryd.ntmps41
  go_wp2_with (first | ((with_reducible refine yO (f := 60) rfl ?_); refine goesL_ (some 15) rfl rfl Tryd.func60 (by kernel_rfl) rfl #[.int .i64 v] rfl (by (try simp only [List.map_toArray, List.map_cons, List.map_nil]); first | done | rfl) ?_; (with_reducible refine (itoa_any v B0.out B1.out _ HG.out).mono ?_); rintro e w2 ⟨rfl, hb⟩; refine ⟨_, rfl, ?_⟩; have HB := yA hb; clear hb))
  go_ret2
  exact ⟨by rw [E1.out]; rfl, HB.out⟩
 ·have d1 : decide (v < 0) = false := yM hv
  clear hv
  go_enter Tryd.func41, Tryd.ntmps41
  go_wp2_with (first | ((with_reducible refine yO (f := 60) rfl ?_); refine goesL_ (some 15) rfl rfl Tryd.func60 (by kernel_rfl) rfl #[.int .i64 v] rfl (by (try simp only [List.map_toArray, List.map_cons, List.map_nil]); first | done | rfl) ?_; (with_reducible refine (itoa_any v B0.out B1.out _ HG.out).mono ?_); rintro e w2 ⟨rfl, hb⟩; refine ⟨_, rfl, ?_⟩; have HB := yA hb; clear hb))
  go_ret2
  exact ⟨by rw [empty_app]; rfl, HB.out⟩
set_option maxHeartbeats 2000000 in
set_option maxRecDepth 100000 in
theorem text_any (v : Int) (h0 : -9223372036854775808 ≤ v) (h1 : v ≤ 9223372036854775807) (w : World) (hG : GA w) :
  Calls Tryd.prog 26 #[.int .i64 v] w fun e w' => e = .returned (.string (dec v)) ∧ Below w.heap.size w w' := by
 have HC := yA (text0_any v h0 h1 w hG)
 clear hG h0 h1
 go_enter Tryd.func26, Tryd.ntmps26
 go_wp2_with (first | (go_at_call 41; refine HC.out.mono ?_; rintro e w2 ⟨rfl, hb⟩; have HB := yA hb; clear hb))
 go_ret
 exact ⟨rfl, HB.out⟩
end Go.Proofs.YtjhbiennmambkaaDoor.Pure
