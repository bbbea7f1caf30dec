/- Own text: the walk of lex.keywords: a map of the language's words, made anew by each call. -/
import Derived.Test.YtkfdninngcakpaaProg
import Derived.Test.YtkfdninngcakpaaRows
import Derived.Test.YtkfdninngcakpaaWMore
import Derived.WalkKit
import Derived.ProofKit
import Derived.Below
import Derived.Maps.OwnOps
import Derived.Maps.Ext
import Derived.Deep.DeepMust
import Derived.Outline
namespace Go.Proofs.Ytkfdninngcakpaa.Pure
open Go.RowKit Go.Maps Go.WideMaps Go.WideElems Go.Proofs.YtkfdninngcakpaaW.PrintWords Go.Proofs.YtkfdninngcakpaaW.PrintLast Go.Proofs.YtkfdninngcakpaaW.PrintMore
set_option linter.unusedVariables false
set_option linter.unusedSimpArgs false

theorem wpList_insert_own {H : Type} {P : Program} (w : World) {ops : Array Oper} {rest : List Oper} {o : Oper} {a : Act} {Q : Exit → Act → World → Prop}
    (hg : o.guard = none) (m x v : Operand) (t : TypeId) (hop : o.op = Op.insert t m x v)
    (k e : TypeId) (K : Keyed P k) (ht : P.underlying t = some (.map k e)) (R : Value → Option (DataW H × List MemPlace)) (b n : Nat) (D : DataW H)
    (hm : a.eval m = .map (some b)) (hown : w.ownsMap P k R b n D) (hn : n < maxLen) (key val : Value) (kl : Lit) (hx : a.eval x = key) (hv : a.eval v = val) (hkey : keyOf P k key = some kl)
    (d : DataW H) (ps : List MemPlace) (hval : R val = some (d, ps))
    (hK : ∀ w', w'.ownsMap P k R b (n + 1) (D.put kl d) → w.grownBy w' (some b) → wpList P ops Q rest (a.put o.dst undef) w') :
    wpList P ops Q (o :: rest) a w := by
  refine wpList_plain hg fun K' hK' => ?_
  obtain ⟨w', hrun, r1, r2⟩ := hown.update K ht hn hkey hval
  unfold Oper.wp
  simp [execOp, hop, hm, hx, hv, hrun, Result.andThen]
  exact hK' _ _ (hK w' r1 r2)
theorem wpList_makeMap_own {P : Program} (w : World) {ops : Array Oper} {rest : List Oper} {o : Oper} {a : Act} {Q : Exit → Act → World → Prop}
    (hg : o.guard = none) (t : TypeId) (hop : o.op = Op.makeMap t none) (hK : wpList P ops Q rest (a.put o.dst (.map (some w.heap.size))) (w.alloc (.map #[] 0))) :
    wpList P ops Q (o :: rest) a w := by
  refine wpList_plain hg fun K' hK' => ?_
  unfold Oper.wp
  simp [execOp, hop, run_makeMap, Result.andThen]
  exact hK' _ _ hK
theorem gate_insert {P : Program} {ops : Array Oper} {rest : List Oper} {o : Oper} {a : Act} {Q : Exit → Act → World → Prop} {W : World} {t : TypeId} {m x v : Operand} (_ho : o.op = Op.insert t m x v) (h : wpList P ops Q (o :: rest) a W) : wpList P ops Q (o :: rest) a W := h
/-- A map of words, each with the number 1, one after the other. -/
def wordMap : List (List UInt8) → DataW Unit → DataW Unit
  | [], D => D
  | l :: t, D => wordMap t (D.put (.string l) (.lit (.int .i64 1)))
theorem wordMap_at (s : List UInt8) : ∀ (ws : List (List UInt8)) (D : DataW Unit), IsMap D → (wordMap ws D).atKey (.string s) (.lit (.int .i64 0)) = if s ∈ ws then .lit (.int .i64 1) else D.atKey (.string s) (.lit (.int .i64 0)) := by
  intro ws
  induction ws with
  | nil => intro D _; simp [wordMap]
  | cons l t ih =>
    intro D hD
    rw [wordMap, ih _ (hD.put _ _)]
    by_cases h : s ∈ t
    · rw [if_pos h, if_pos (by simp [h])]
    · rw [if_neg h]
      by_cases e : s = l
      · subst e
        rw [atKey_put_same hD (show WideAt.IsKeyLit (.string s) from trivial), if_pos (by simp)]
      · rw [atKey_put_other (by simpa using e), if_neg (by simp [h, e])]
/-- The words of the language. -/
def KW : List (List UInt8) := [[100, 101, 97, 108], [115, 116, 97, 114, 116], [104, 111, 108, 105, 100, 97, 121, 115], [111, 98, 115, 101, 114, 118, 101], [100, 101, 102], [99, 111, 110, 116, 114, 97, 99, 116], [122, 101, 114, 111], [112, 97, 121], [103, 105, 118, 101], [115, 99, 97, 108, 101], [100, 101, 108, 97, 121], [97, 116], [105, 102], [101, 108, 115, 101], [108, 101, 116], [105, 110], [102, 111, 114], [101, 118, 101, 114, 121], [102, 114, 111, 109], [116, 111], [115, 116, 101, 112], [102, 111, 108, 108, 111, 119, 105, 110, 103], [109, 111, 100, 105, 102, 105, 101, 100], [112, 114, 101, 99, 101, 100, 105, 110, 103], [97, 99, 99, 117, 109, 117, 108, 97, 116, 101], [98, 121], [116, 104, 101, 110], [119, 104, 101, 110], [119, 105, 116, 104, 105, 110], [97, 110, 100], [116, 114, 117, 101], [102, 97, 108, 115, 101], [100, 97, 121], [109, 105, 110], [109, 97, 120], [97, 98, 115], [114, 97, 116, 105, 111], [116, 104, 105, 114, 116, 121], [100, 111, 119, 110], [102, 108, 111, 111, 114], [99, 101, 105, 108], [104, 97, 108, 102, 95, 117, 112], [104, 97, 108, 102, 95, 101, 118, 101, 110]]

set_option maxHeartbeats 8000000 in
set_option maxRecDepth 100000 in
theorem keywords_any (w : World) : Calls Try.prog 12 #[] w fun e w' => ∃ b, e = .returned (.map (some b)) ∧ w'.ownsMap Try.prog 9 (plainElem (H := Unit) Try.prog 3) b 43 (wordMap KW (.map [])) ∧ Below w.heap.size w w' := by
  have HB := Aside0.mk ((Below.refl w.heap.size w).alloc (Nat.le_refl _) (.map #[] 0))
  have HO := Aside0.mk (World.ownsMap_made (H := Unit) w Try.prog 9 (plainElem Try.prog 3))
  obtain ⟨b, hb⟩ : ∃ b, b = w.heap.size := ⟨_, rfl⟩
  have GB : Aside0 (w.heap.size ≤ b) := ⟨by omega⟩
  have EB := Aside0.mk hb
  rw [← hb] at HO
  clear hb
  have KL : Keyed Try.prog 9 := string_keyed Try.underlying9
  go_enter Try.func12, Try.ntmps12
  go_wp2_with (first | ((with_reducible refine gate_dst (N := 1) rfl ?_); go_must (refine wpList_makeMap_own _ rfl 23 rfl ?_; (try rw [← EB.out]))) | ((with_reducible refine gate_insert (t := 23) rfl ?_); go_must (refine wpList_insert_own (H := Unit) _ rfl (.tmp 1) _ _ 23 rfl 9 3 KL Try.underlying23 (plainElem Try.prog 3) b _ _ (by rw [EB.out]; rfl) HO.out (by simp [maxLen]) _ _ _ rfl rfl (keyOf_string_mk Try.underlying9 (by decide)) _ _ (plainElem_int Try.underlying3 (by rfl)) ?_; intro w' ho hg; have n0_ := Aside0.mk ho; have n1_ := Aside0.mk (pw_below_grown HB.out (some b) (Nat.le_trans HB.out.size (Nat.le_refl _)) hg (fun k hk => by cases hk; exact GB.out)); clear ho hg HO HB; have HO := n0_; have HB := n1_; clear n0_ n1_)))
  go_ret
  exact ⟨b, by first | rfl | (rw [EB.out]) | (rw [EB.out]; rfl), HO.out, HB.out⟩
end Go.Proofs.Ytkfdninngcakpaa.Pure
