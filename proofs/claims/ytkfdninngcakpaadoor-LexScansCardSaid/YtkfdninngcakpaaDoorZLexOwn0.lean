/- Own text, for this claim: what Atoi, the units and their look-up answer, in the printed callers' form. -/
import Derived.Test.YtkfdninngcakpaaDoorZQLexx2
import Derived.Test.YtkfdninngcakpaaDoorZLexMap
import Derived.Test.YtkfdninngcakpaaDoorZLexGl
import Derived.Test.YtkfdninngcakpaaDoorZShAtoi
import Derived.Maps.Own
import Derived.Laws.IdiomCopy
import Derived.Tactics
import Derived.WalkKit
namespace Go.Proofs.YtkfdninngcakpaaDoor.Pure
open Go.RowKit Go.Maps Go.WideMaps Go.WideElems Go.Proofs.YtkfdninngcakpaaDoor.PLex Go.Proofs.YtkfdninngcakpaaDoorW.PrintWords Go.Proofs.YtkfdninngcakpaaDoorW.PrintLast Go.Proofs.YtkfdninngcakpaaDoorW.PrintMore
set_option linter.unusedVariables false
set_option linter.unusedSimpArgs false
def EV (c : Int) (v : Value) : Prop := (c = 0 → v = .nilIface) ∧ (c ≠ 0 → ∃ t p, v = .iface t p)
def atoiOf (l : List UInt8) : Int × Int := match Lib.atoiAll l with | .ok v => (v, 0) | .range => (Lib.atoiSat l, 1) | _ => (0, 1)
theorem atoi_any (s : ByteArray) (hs : s.size ≤ 140737488355328) (r1 r2 : Int) (w : World) (h : atoiOf s.data.toList = (r1, r2)) (hG : Gl w) :
  Calls Tryd.prog 56 #[.string s] w fun e w' => ∃ ev, EV r2 ev ∧ e = .returned (.tuple #[.int .i64 r1, ev]) ∧ Below w.heap.size w w' := by
 unfold atoiOf at h
 rcases hq : Lib.atoiAll s.data.toList with v | _ | _
 ·
  rw [hq] at h; cases h
  refine (Shelf.Tryd.strconv_Atoi_ok s (by omega) _ hq w).mono ?_
  rintro e w' ⟨rfl, rfl | ⟨t, rfl⟩⟩
  ·exact ⟨_, ⟨fun _ => rfl, fun h => absurd rfl h⟩, rfl, Below.refl _ _⟩
  ·exact ⟨_, ⟨fun _ => rfl, fun h => absurd rfl h⟩, rfl, bytes_below (Below.refl _ _) (Nat.le_refl _) _ _⟩
 ·
  rw [hq] at h; cases h
  obtain ⟨tp, p, hv⟩ := hG.syn
  refine (Shelf.Tryd.strconv_Atoi_syntax_var s (by omega) hq tp p w hv).mono ?_
  rintro e w' ⟨N, rfl, -, -, hb⟩
  exact ⟨_, ⟨fun h => absurd h (by decide), fun _ => ⟨_, _, rfl⟩⟩, rfl, hb⟩
 ·
  rw [hq] at h; cases h
  obtain ⟨tp, p, hv⟩ := hG.rng
  refine (Shelf.Tryd.strconv_Atoi_range_var s (by omega) hq tp p w hv).mono ?_
  rintro e w' ⟨N, rfl, -, -, hb⟩
  exact ⟨_, ⟨fun h => absurd h (by decide), fun _ => ⟨_, _, rfl⟩⟩, rfl, hb⟩
theorem neq_run (e : Operand → Value) (x : Operand) (o : Oper) (hop : o.op = .binOp .neq 71 x (.const .nilIface) 71) (he : e (.const .nilIface) = .nilIface) (c : Int) (ev : Value) (hx : e x = ev) (hv : EV c ev) (w : World) :
  (execOp e o).run Tryd.prog w = .ok (.value (.bool (c != 0))) w := by
 by_cases hc : c = 0
 ·obtain rfl := hv.1 hc
  subst hc
  unfold execOp
  simp only [hop, hx, he]
  go_simp
 ·obtain ⟨t, p, rfl⟩ := hv.2 hc
  have h1 : (c != 0) = true := bne_iff_ne.mpr hc
  rw [h1]
  unfold execOp
  simp only [hop, hx, he]
  go_simp
theorem neq_event {ops : Array Oper} {rest : List Oper} {o : Oper} {a : Act} {Q : Exit → Act → World → Prop} (w : World) (hg : o.guard = none) (x : Operand) (hop : o.op = .binOp .neq 71 x (.const .nilIface) 71)
  (c : Int) (ev : Value) (hx : a.eval x = ev) (hv : EV c ev) (h : wpList Tryd.prog ops Q rest (a.put o.dst (.bool (c != 0))) w) : wpList Tryd.prog ops Q (o :: rest) a w := by
 refine wpList_plain hg fun K' hK' => ?_
 unfold Oper.wp
 rw [neq_run _ x o hop rfl c ev hx hv w]
 exact hK' _ _ h
theorem wf_u8 {c : Int} (h : 0 ≤ c ∧ c ≤ 255) : (Lit.int .u8 c).wf = true := by
 simp only [Lit.wf, IntKind.min, IntKind.max, IntKind.signed, IntKind.bits, Bool.and_eq_true, decide_eq_true_eq]
 simp; omega
theorem units_look {w : World} {b : Nat} (h : w.ownsMap Tryd.prog 5 (plainElem (H := Unit) Tryd.prog 3) b 4 (numMap KU (.map []))) (c : Int) (hc : 0 ≤ c ∧ c ≤ 255) :
  (Instr.lookup 77 (.map (some b)) (.int .u8 c) false).run Tryd.prog w = .ok (.int .i64 (unitOf c)) w := by
 obtain ⟨x, hrun, hat, -⟩ := h.lookup_int (int_keyed Tryd.underlying5) (t := 77) (e := 3) Tryd.underlying77 Tryd.underlying3 (by kernel_rfl) (key := .int .u8 c) (keyOf_int_mk Tryd.underlying5 (wf_u8 hc))
 rw [units_at] at hat
 rw [hrun]
 cases hat; rfl
end Go.Proofs.YtkfdninngcakpaaDoor.Pure
namespace Go.Proofs.YtkfdninngcakpaaDoor.PLex
open Go.RowKit Go.Proofs.YtkfdninngcakpaaDoorW.PrintWords Go.Proofs.YtkfdninngcakpaaDoorW.PrintLast Go.Proofs.YtkfdninngcakpaaDoorW.PrintMore
set_option linter.unusedVariables false
set_option linter.unusedSimpArgs false
def strconv_Atoi_56.f (a0 : ByteArray) : Option (Int × Int) := if a0.size ≤ 140737488355328 then some (Pure.atoiOf a0.data.toList) else none
theorem strconv_Atoi_56.calls (a0 : ByteArray) (r1 : Int) (r2 : Int) (w : World) (h : strconv_Atoi_56.f a0 = some (r1, r2)) (hG : Pure.Gl w) :
  Calls Tryd.prog 56 #[.string a0] w fun e w' => ∃ ev, Pure.EV r2 ev ∧ e = .returned (.tuple #[.int .i64 r1, ev]) ∧ Below w.heap.size w w' := by
 unfold strconv_Atoi_56.f at h
 split at h
 ·rename_i hs
  exact Pure.atoi_any a0 hs r1 r2 w (Option.some.inj h) hG
 ·cases h
def lex_units.f  : Option (Int) := some 0
theorem lex_units.calls  (r : Int) (w : World) (h : lex_units.f  = some r) :
  Calls Tryd.prog 57 #[] w fun e w' => ∃ b, e = .returned (.map (some b)) ∧ w'.ownsMap Tryd.prog 5 (Go.plainElem (H := Unit) Tryd.prog 3) b 4 (Pure.numMap Pure.KU (.map [])) ∧ Below w.heap.size w w' := Pure.units_any w
end Go.Proofs.YtkfdninngcakpaaDoor.PLex
