/- Own text, for this claim: asm.PrintInstr: an instruction's words with a blank between each two; where it is none, or names what is not there, the error. -/
import Derived.Test.YtjhbiennmambkaaDoorZAsmOper
import Derived.Test.YtjhbiennmambkaaDoorZShAsm
import Derived.Maps.OwnOps
import Derived.Maps.OwnSet
import Derived.Maps.Ext
import Derived.Deep.DeepMust
import Derived.Lib.Join
namespace Go.Proofs.YtjhbiennmambkaaDoor.Pure
open Go.RowKit Go.Maps Go.WideMaps Go.WideElems Go.Proofs.YtjhbiennmambkaaDoorW.PrintWords Go.Proofs.YtjhbiennmambkaaDoorW.PrintLast Go.Proofs.YtjhbiennmambkaaDoorW.PrintMore Go.Proofs.YtjhbiennmambkaaDoor.PAsmInstrs
set_option linter.unusedVariables false
set_option linter.unusedSimpArgs false
theorem wpList_insert_own {H : Type} {P : Program} (w : World) {ops : Array Oper} {rest : List Oper} {o : Oper} {a : Act} {Q : Exit → Act → World → Prop}
  (hg : o.guard = none) (m x v : Operand) (t : TypeId) (hop : o.op = Op.insert t m x v)
  (k e : TypeId) (K : Keyed P k) (ht : P.underlying t = some (.map k e)) (R : Value → Option (DataW H × List MemPlace)) (b n : Nat) (D : DataW H)
  (hm : a.eval m = .map (some b)) (hown : w.ownsMap P k R b n D) (hn : n < maxLen) (key val : Value) (kl : Lit) (hx : a.eval x = key) (hv : a.eval v = val) (hkey : keyOf P k key = some kl)
  (d : DataW H) (ps : List MemPlace) (hval : R val = some (d, ps))
  (hK : ∀ w', w'.ownsMap P k R b (n + 1) (D.put kl d) → w.grownBy w' (some b) → wpList P ops Q rest (a.put o.dst undef) w') :
  wpList P ops Q (o :: rest) a w := by
 refine wpList_plain hg fun K' hK' => ?_
 obtain ⟨w', hrun, r1, r2⟩ := hown.update K ht hn hkey hval
 unfold Oper.wp
 simp [execOp, hop, hm, hx, hv, hrun, Result.andThen]
 exact hK' _ _ (hK w' r1 r2)
theorem wpList_makeMap_k {P : Program} (w : World) {ops : Array Oper} {rest : List Oper} {o : Oper} {a : Act} {Q : Exit → Act → World → Prop}
  (hg : o.guard = none) (t k e : TypeId) (hop : o.op = Op.makeMap t none)
  (hK : ∀ b w1, w.heap.size ≤ b → w1.ownsMap P k (plainElem (H := Unit) P e) b 0 (.map []) → Below w.heap.size w w1 → wpList P ops Q rest (a.put o.dst (.map (some b))) w1) :
  wpList P ops Q (o :: rest) a w := by
 refine wpList_plain hg fun K' hK' => ?_
 unfold Oper.wp
 simp [execOp, hop, run_makeMap, Result.andThen]
 exact hK' _ _ (hK w.heap.size _ (Nat.le_refl _) (World.ownsMap_made w P k _) ((Below.refl _ _).alloc (Nat.le_refl _) _))
theorem gate_insert {P : Program} {ops : Array Oper} {rest : List Oper} {o : Oper} {a : Act} {Q : Exit → Act → World → Prop} {W : World} {t : TypeId} {m x v : Operand} (_ho : o.op = Op.insert t m x v) (h : wpList P ops Q (o :: rest) a W) : wpList P ops Q (o :: rest) a W := h
def mapD (n2 n0 n1 : Nat) : DataW Unit := (((DataW.map []).put (.int .i64 1) (.lit (.int .i64 (n2 : Int)))).put (.int .i64 3) (.lit (.int .i64 (n0 : Int)))).put (.int .i64 28) (.lit (.int .i64 (n1 : Int)))
theorem mapD_at (n2 n0 n1 : Nat) (op : Int) : (mapD n2 n0 n1).atKey (.int .i64 op) (.lit (.int .i64 0)) = .lit (.int .i64 (if op = 28 then (n1 : Int) else if op = 3 then (n0 : Int) else if op = 1 then (n2 : Int) else 0)) := by
 have h1 : IsMap (DataW.map (H := Unit) []) := isMap_empty
 unfold mapD
 by_cases h4 : op = 28
 ·subst h4; rw [atKey_put_same ((h1.put _ _).put _ _) (show WideAt.IsKeyLit (.int .i64 28) from trivial)]; rfl
 rw [atKey_put_other (by simpa using h4), if_neg h4]
 by_cases h3 : op = 3
 ·subst h3; rw [atKey_put_same (h1.put _ _) (show WideAt.IsKeyLit (.int .i64 3) from trivial)]; rfl
 rw [atKey_put_other (by simpa using h3), if_neg h3]
 by_cases h2 : op = 1
 ·subst h2; rw [atKey_put_same h1 (show WideAt.IsKeyLit (.int .i64 1) from trivial)]; rfl
 rw [atKey_put_other (by simpa using h2), if_neg h2]; rfl
end Go.Proofs.YtjhbiennmambkaaDoor.Pure
