/- Own text, for this claim: strings.Replace of the first point by nothing, and strconv.ParseInt at ten and 64, in the printed callers' form. -/
import Derived.Test.YtppojbafagneeaaDoorZTabText
import Derived.Test.YtppojbafagneeaaDoorZParGl
import Derived.Shelf.Strings.Builder1
import Derived.Lib.SlicesS
import Derived.Lib.IndexLaws
import Derived.Deep.LoopGhost
import Derived.Tactics
import Derived.WalkKit
namespace Go.Proofs.YtppojbafagneeaaDoor.Pure
open Go.Shelf Go.RowKit Go.Lib Go.Proofs.YtppojbafagneeaaDoorW.PrintWords Go.Proofs.YtppojbafagneeaaDoorW.PrintLast Go.Proofs.YtppojbafagneeaaDoorW.PrintMore
set_option linter.unusedVariables false
set_option linter.unusedSimpArgs false
def cut1 : List UInt8 → List UInt8
 | [] => []
 | c :: r => if c = 46 then r else c :: cut1 r
theorem cut1_at : ∀ l : List UInt8, (Lib.countByte l 46 = 0 → cut1 l = l) ∧ (Lib.countByte l 46 ≠ 0 → ∃ j : Nat, Lib.indexByte l 46 = j ∧ j < l.length ∧ cut1 l = l.take j ++ l.drop (j + 1)) := by
 intro l
 induction l with
 | nil => exact ⟨fun _ => rfl, fun h => absurd rfl h⟩
 | cons c r ih =>
  by_cases hc : c = 46
  ·subst hc
   refine ⟨fun h => ?_, fun _ => ⟨0, ?_, by simp, ?_⟩⟩
   ·unfold Lib.countByte at h
    rw [List.count_cons_self] at h
    omega
   ·simp [Lib.indexByte]
   ·simp [cut1]
  ·have e : Lib.countByte (c :: r) 46 = Lib.countByte r 46 := by
    unfold Lib.countByte
    rw [List.count_cons, if_neg (by simpa using hc)]
    rfl
   rw [e]
   refine ⟨fun h => ?_, fun h => ?_⟩
   ·rw [cut1, if_neg hc, ih.1 h]
   ·obtain ⟨j, h1, h2, h3⟩ := ih.2 h
    refine ⟨j + 1, ?_, by simpa using h2, ?_⟩
    ·simp only [Lib.indexByte]
     rw [if_neg (by simpa using hc), h1]
     first | rfl | (rw [if_neg (by omega)]; omega) | (simp; omega)
    ·rw [cut1, if_neg hc, h3]; rfl
theorem sep_ne : ((⟨#[46]⟩ : ByteArray).toList == (⟨#[]⟩ : ByteArray).toList) = false := (Lib.bytes_beq_false_iff _ _).2 (by intro h; have := congrArg ByteArray.size h; exact absurd this (by decide))
theorem hidR {p : Prop} (h : p) : Hid p := h
set_option maxHeartbeats 4000000 in
set_option maxRecDepth 1000000 in
theorem replace_none (s : ByteArray) (w : World) (hc0 : Lib.countByte s.data.toList 46 = 0) :
  Calls Tryd.prog 73 #[.string s, .string ⟨#[46]⟩, .string ⟨#[]⟩, .int .i64 1] w fun e w' => e = .returned (.string s) ∧ w' = w := by
 have hC := Shelf.Tryd.strings_Count_one s 46 w
 rw [hc0] at hC
 have hbeq := sep_ne
 go_enter Tryd.func73, Tryd.ntmps73
 go_wp2_with (first | (go_at_call 96; refine hC.mono ?_; rintro e w' ⟨rfl, hw⟩; rw [hw]))
 go_ret
 exact ⟨rfl, rfl⟩
set_option maxHeartbeats 16000000 in
set_option maxRecDepth 1000000 in
theorem replace_some (s : ByteArray) (w : World) (hs : s.size ≤ 140737488351232) (cn : Nat) (hcn : Lib.countByte s.data.toList 46 = cn) (hc0 : cn ≠ 0) (j : Nat) (hj : Lib.indexByte s.data.toList 46 = j) (hjl : j < s.size) :
  Calls Tryd.prog 73 #[.string s, .string ⟨#[46]⟩, .string ⟨#[]⟩, .int .i64 1] w fun e w' =>
   e = .returned (.string ⟨(s.data.toList.take j ++ s.data.toList.drop (j + 1)).toArray⟩) ∧ Below w.heap.size w w' := by
 have hC := Shelf.Tryd.strings_Count_one s 46 w
 have hI := fun w => Shelf.Tryd.strings_Index_one s 46 w
 rw [hcn] at hC
 simp only [hj] at hI
 clear hcn hj
 have hbeq := sep_ne
 have hcz : ((cn : Int) == 0) = false := beq_eq_false_iff_ne.2 (by omega)
 have hc1 : decide ((cn : Int) < 1) = false := yM (by omega)
 have hlenL : s.data.toList.length = s.size := (Lib.size_eq s).symm
 go_enter Tryd.func73, Tryd.ntmps73
 go_wp2_with (first | (go_at_call 96; refine hC.mono ?_; rintro e w' ⟨rfl, hw⟩; rw [hw]))
 rw [show ((s.size : Int) + -1) = ((s.size - 1 : Nat) : Int) by omega]
 refine (Shelf.Tryd.Builder_Grow_fresh w.heap.size w.heap.size _ _ (Nat.le_refl _) (heap_alloc_new w _) (by simp) (by omega)).mono ?_
 rintro e w1 ⟨rfl, hb0, hb1⟩
 have H1 := hidR (Or.inr hb0 : Lib.IsBuilder 87 5 w.heap.size w.heap.size (Lib.byteCells []) w1)
 have Hb1 := hidR (((Below.refl w.heap.size w).alloc (Nat.le_refl _) _).trans hb1)
 clear hb0 hb1 hC hcz hc1
 go_wp2_with fail
 go_loopg [11, 53] 1 (fun g s11 s53 wx => ∃ (i start : Nat) (acc : List UInt8), s53 = .int .i64 i ∧ s11 = .int .i64 start ∧ i + g = 1 ∧ Hid (start = if i = 0 then 0 else j + 1) ∧ Hid (acc = if i = 0 then [] else s.data.toList.take j) ∧
   Hid (Lib.IsBuilder 87 5 w.heap.size w.heap.size (Lib.byteCells acc) wx) ∧ Hid (Below w.heap.size w wx))
 case atStart => exact ⟨0, 0, [], rfl, rfl, rfl, hidR rfl, hidR rfl, H1, Hb1⟩
 case round =>
  obtain ⟨i, start, acc, rfl, rfl, hig, hst, hac, HB, HW⟩ := hrel
  have hBw : w.heap.size ≤ wr.heap.size := HW.out.size
  cases gk with
  | zero =>
   obtain rfl : i = 1 := by omega
   obtain rfl : start = j + 1 := hst.out
   obtain rfl : acc = s.data.toList.take j := hac.out
   have c1 : (0 : Int) ≤ ((j + 1 : Nat) : Int) := by omega
   have c2 : ((j + 1 : Nat) : Int) ≤ (s.size : Int) := by omega
   go_wp2_with fail
   refine (write_string w.heap.size w.heap.size _ _ wr HB.out (by rw [Lib.byteCells_length, ByteArray.size_extract, List.length_take]; omega) hBw).mono ?_
   rintro e w3 ⟨rfl, h3, hb3⟩
   rw [Lib.strCells_eq, Lib.extract_to_end, ← Lib.byteCells_append] at h3
   have H3 := hidR (Or.inr h3 : Lib.IsBuilder 87 5 w.heap.size w.heap.size _ w3)
   have Hb3 := hidR (HW.out.trans hb3)
   have hBw3 : w.heap.size ≤ w3.heap.size := Hb3.out.size
   clear h3 hb3
   go_wp2_with fail
   refine (Shelf.Tryd.Builder_String_any w.heap.size w.heap.size _ w3 H3.out hBw3).mono ?_
   rintro e w5 ⟨rfl, hb5⟩
   have Hb5 := hidR (Hb3.out.trans hb5)
   clear hb5
   go_wp2
   go_ret
   exact ⟨rfl, Hb5.out⟩
  | succ g =>
   obtain rfl : i = 0 := by omega
   obtain rfl : g = 0 := by omega
   obtain rfl : start = 0 := hst.out
   obtain rfl : acc = [] := hac.out
   have c3 : (0 : Int) ≤ (j : Int) := by omega
   have c4 : (j : Int) ≤ (s.size : Int) := by omega
   go_wp2_with (first | (go_at_call 97; refine (hI _).mono ?_; rintro e w' ⟨rfl, hw⟩; rw [hw]))
   refine (write_string w.heap.size w.heap.size _ _ wr HB.out (by rw [Lib.byteCells_length, ByteArray.size_extract]; simp; omega) hBw).mono ?_
   rintro e w3 ⟨rfl, h3, hb3⟩
   have hBw3 : w.heap.size ≤ w3.heap.size := Nat.le_trans hBw hb3.size
   have H3 := hidR h3
   have Hb3 := hidR hb3
   clear h3 hb3
   go_wp2_with fail
   refine (write_string w.heap.size w.heap.size _ _ w3 (Or.inr H3.out) (by rw [List.length_append, Lib.byteCells_length, Lib.strCells_length, ByteArray.size_extract, show (⟨#[]⟩ : ByteArray).size = 0 from rfl]; simp; omega) hBw3).mono ?_
   rintro e w4 ⟨rfl, h4, hb4⟩
   have e4 : Lib.byteCells [] ++ Lib.strCells (s.extract 0 j) ++ Lib.strCells ⟨#[]⟩ = Lib.byteCells (s.data.toList.take j) := by
    rw [Lib.strCells_eq, Lib.strCells_eq, Lib.extract_data]
    simp [Lib.byteCells]
   rw [e4] at h4
   have H4 := hidR (Or.inr h4 : Lib.IsBuilder 87 5 w.heap.size w.heap.size _ w4)
   have Hb4 := hidR ((HW.out.trans Hb3.out).trans hb4)
   clear h4 hb4 e4
   go_wp2
   go_roundg 0
   case measure => omega
   case rel => exact ⟨1, j + 1, _, rfl, by first | rfl | simp | (simp; omega), rfl, hidR rfl, hidR rfl, H4, Hb4⟩
theorem replace_any (s : ByteArray) (w : World) (hs : s.size ≤ 140737488351232) :
  Calls Tryd.prog 73 #[.string s, .string ⟨#[46]⟩, .string ⟨#[]⟩, .int .i64 1] w fun e w' => e = .returned (.string ⟨(cut1 s.data.toList).toArray⟩) ∧ Below w.heap.size w w' := by
 by_cases hc : Lib.countByte s.data.toList 46 = 0
 ·refine (replace_none s w hc).mono ?_
  rintro e w' ⟨rfl, rfl⟩
  refine ⟨?_, Below.refl _ _⟩
  rw [(cut1_at s.data.toList).1 hc]
 ·obtain ⟨j, h1, h2, h3⟩ := (cut1_at s.data.toList).2 hc
  rw [h3]
  exact replace_some s w hs _ rfl hc j h1 (by rw [Lib.size_eq]; exact h2)
def EV (c : Int) (v : Value) : Prop := (c = 0 → v = .nilIface) ∧ (c ≠ 0 → ∃ t p, v = .iface t p)
def pintOf (l : List UInt8) : Int × Int := match Lib.parseIntB 64 l with | .ok v => (v, 0) | .range => (Lib.intSat 64 l, 1) | _ => (0, 1)
theorem pint_any (s : ByteArray) (hs : s.size ≤ 140737488355328) (r1 r2 : Int) (w : World) (h : pintOf s.data.toList = (r1, r2)) (hG : GR w) :
  Calls Tryd.prog 72 #[.string s, .int .i64 10, .int .i64 64] w fun e w' => ∃ ev, EV r2 ev ∧ e = .returned (.tuple #[.int .i64 r1, ev]) ∧ Below w.heap.size w w' := by
 unfold pintOf at h
 rcases hq : Lib.parseIntB 64 s.data.toList with v | _ | _
 ·rw [hq] at h; cases h
  refine (Shelf.Tryd.strconv_ParseInt_10_at64_ok s (by omega) _ hq w).mono ?_
  rintro e w' ⟨rfl, rfl | ⟨t, rfl⟩⟩
  ·exact ⟨_, ⟨fun _ => rfl, fun h => absurd rfl h⟩, rfl, Below.refl _ _⟩
  ·exact ⟨_, ⟨fun _ => rfl, fun h => absurd rfl h⟩, rfl, bytes_below (Below.refl _ _) (Nat.le_refl _) _ _⟩
 ·rw [hq] at h; cases h
  obtain ⟨tp, p, hv⟩ := hG.syn
  refine (Shelf.Tryd.strconv_ParseInt_10_at64_syntax_var s (by omega) hq tp p w hv).mono ?_
  rintro e w' ⟨N, rfl, -, -, hb⟩
  exact ⟨_, ⟨fun h => absurd h (by decide), fun _ => ⟨_, _, rfl⟩⟩, rfl, hb⟩
 ·rw [hq] at h; cases h
  obtain ⟨tp, p, hv⟩ := hG.rng
  refine (Shelf.Tryd.strconv_ParseInt_10_at64_range_var s (by omega) hq tp p w hv).mono ?_
  rintro e w' ⟨N, rfl, -, -, hb⟩
  exact ⟨_, ⟨fun h => absurd h (by decide), fun _ => ⟨_, _, rfl⟩⟩, rfl, hb⟩
theorem neq_run (e : Operand → Value) (x : Operand) (o : Oper) (hop : o.op = .binOp .neq 89 x (.const .nilIface) 89) (he : e (.const .nilIface) = .nilIface) (c : Int) (ev : Value) (hx : e x = ev) (hv : EV c ev) (w : World) :
  (execOp e o).run Tryd.prog w = .ok (.value (.bool (c != 0))) w := by
 by_cases hc : c = 0
 ·obtain rfl := hv.1 hc
  subst hc
  unfold execOp
  simp only [hop, hx, he]
  go_simp
 ·obtain ⟨t, p, rfl⟩ := hv.2 hc
  have h1 : (c != 0) = true := bne_iff_ne.mpr hc
  rw [h1]
  unfold execOp
  simp only [hop, hx, he]
  go_simp
theorem neq_event {ops : Array Oper} {rest : List Oper} {o : Oper} {a : Act} {Q : Exit → Act → World → Prop} (w : World) (hg : o.guard = none) (x : Operand) (hop : o.op = .binOp .neq 89 x (.const .nilIface) 89)
  (c : Int) (ev : Value) (hx : a.eval x = ev) (hv : EV c ev) (h : wpList Tryd.prog ops Q rest (a.put o.dst (.bool (c != 0))) w) : wpList Tryd.prog ops Q (o :: rest) a w := by
 refine wpList_plain hg fun K' hK' => ?_
 unfold Oper.wp
 rw [neq_run _ x o hop rfl c ev hx hv w]
 exact hK' _ _ h
end Go.Proofs.YtppojbafagneeaaDoor.Pure
