/- Own text, for this claim: the maps that the scanner makes: the language's words, the marks of two bytes, the units of a tenor. -/
import Derived.Test.YtkfdninngcakpaaDoorProg
import Derived.Test.YtkfdninngcakpaaDoorRows
import Derived.Test.YtkfdninngcakpaaDoorZW
import Derived.WalkKit
import Derived.ProofKit
import Derived.Below
import Derived.Maps.OwnOps
import Derived.Maps.Ext
import Derived.Deep.DeepMust
import Derived.Outline
namespace Go.Proofs.YtkfdninngcakpaaDoor.Pure
open Go.RowKit Go.Maps Go.WideMaps Go.WideElems Go.Proofs.YtkfdninngcakpaaDoorW.PrintWords Go.Proofs.YtkfdninngcakpaaDoorW.PrintLast Go.Proofs.YtkfdninngcakpaaDoorW.PrintMore
set_option linter.unusedVariables false
set_option linter.unusedSimpArgs false
theorem wpList_insert_own {H : Type} {P : Program} (w : World) {ops : Array Oper} {rest : List Oper} {o : Oper} {a : Act} {Q : Exit → Act → World → Prop}
  (hg : o.guard = none) (m x v : Operand) (t : TypeId) (hop : o.op = Op.insert t m x v)
  (k e : TypeId) (K : Keyed P k) (ht : P.underlying t = some (.map k e)) (R : Value → Option (DataW H × List MemPlace)) (b n : Nat) (D : DataW H)
  (hm : a.eval m = .map (some b)) (hown : w.ownsMap P k R b n D) (hn : n < maxLen) (key val : Value) (kl : Lit) (hx : a.eval x = key) (hv : a.eval v = val) (hkey : keyOf P k key = some kl)
  (d : DataW H) (ps : List MemPlace) (hval : R val = some (d, ps))
  (hK : ∀ w', w'.ownsMap P k R b (n + 1) (D.put kl d) → w.grownBy w' (some b) → wpList P ops Q rest (a.put o.dst undef) w') :
  wpList P ops Q (o :: rest) a w := by
 refine wpList_plain hg fun K' hK' => ?_
 obtain ⟨w', hrun, r1, r2⟩ := hown.update K ht hn hkey hval
 unfold Oper.wp
 simp [execOp, hop, hm, hx, hv, hrun, Result.andThen]
 exact hK' _ _ (hK w' r1 r2)
theorem wpList_makeMap_own {P : Program} (w : World) {ops : Array Oper} {rest : List Oper} {o : Oper} {a : Act} {Q : Exit → Act → World → Prop}
  (hg : o.guard = none) (t : TypeId) (hop : o.op = Op.makeMap t none) (hK : wpList P ops Q rest (a.put o.dst (.map (some w.heap.size))) (w.alloc (.map #[] 0))) :
  wpList P ops Q (o :: rest) a w := by
 refine wpList_plain hg fun K' hK' => ?_
 unfold Oper.wp
 simp [execOp, hop, run_makeMap, Result.andThen]
 exact hK' _ _ hK
theorem gate_insert {P : Program} {ops : Array Oper} {rest : List Oper} {o : Oper} {a : Act} {Q : Exit → Act → World → Prop} {W : World} {t : TypeId} {m x v : Operand} (_ho : o.op = Op.insert t m x v) (h : wpList P ops Q (o :: rest) a W) : wpList P ops Q (o :: rest) a W := h
def wordMap : List (List UInt8) → DataW Unit → DataW Unit
 | [], D => D
 | l :: t, D => wordMap t (D.put (.string l) (.lit (.int .i64 1)))
theorem wordMap_at (s : List UInt8) : ∀ (ws : List (List UInt8)) (D : DataW Unit), IsMap D → (wordMap ws D).atKey (.string s) (.lit (.int .i64 0)) = if s ∈ ws then .lit (.int .i64 1) else D.atKey (.string s) (.lit (.int .i64 0)) := by
 intro ws
 induction ws with
 | nil => intro D _; simp [wordMap]
 | cons l t ih =>
  intro D hD
  rw [wordMap, ih _ (hD.put _ _)]
  by_cases h : s ∈ t
  ·rw [if_pos h, if_pos (by simp [h])]
  ·rw [if_neg h]
   by_cases e : s = l
   ·subst e
    rw [atKey_put_same hD (show WideAt.IsKeyLit (.string s) from trivial), if_pos (by simp)]
   ·rw [atKey_put_other (by simpa using e), if_neg (by simp [h, e])]
def numMap : List (Int × Int) → DataW Unit → DataW Unit
 | [], D => D
 | (k, v) :: t, D => numMap t (D.put (.int .u8 k) (.lit (.int .i64 v)))
def KP : List (List UInt8) := [[46, 46], [60, 61], [62, 61], [61, 61], [33, 61], [38, 38], [124, 124]]
def KU : List (Int × Int) := [(100, 1), (119, 2), (109, 3), (121, 4)]
def unitOf (c : Int) : Int := if c = 100 then 1 else if c = 119 then 2 else if c = 109 then 3 else if c = 121 then 4 else 0
theorem units_at (c : Int) : (numMap KU (.map [])).atKey (.int .u8 c) (.lit (.int .i64 0)) = .lit (.int .i64 (unitOf c)) := by
 unfold unitOf
 have h1 : IsMap (DataW.map (H := Unit) []) := isMap_empty
 simp only [KU, numMap]
 by_cases h4 : c = 121
 ·subst h4; rw [atKey_put_same (((h1.put _ _).put _ _).put _ _) (show WideAt.IsKeyLit (.int .u8 121) from trivial)]; rfl
 rw [atKey_put_other (by simpa using h4)]
 by_cases h3 : c = 109
 ·subst h3; rw [atKey_put_same ((h1.put _ _).put _ _) (show WideAt.IsKeyLit (.int .u8 109) from trivial)]; rfl
 rw [atKey_put_other (by simpa using h3)]
 by_cases h2 : c = 119
 ·subst h2; rw [atKey_put_same (h1.put _ _) (show WideAt.IsKeyLit (.int .u8 119) from trivial)]; rfl
 rw [atKey_put_other (by simpa using h2)]
 by_cases h5 : c = 100
 ·subst h5; rw [atKey_put_same h1 (show WideAt.IsKeyLit (.int .u8 100) from trivial)]; rfl
 rw [atKey_put_other (by simpa using h5), if_neg h5, if_neg h2, if_neg h3, if_neg h4]; rfl
set_option maxHeartbeats 8000000 in
set_option maxRecDepth 100000 in
theorem pairs_any (w : World) : Calls Tryd.prog 58 #[] w fun e w' => ∃ b, e = .returned (.map (some b)) ∧ w'.ownsMap Tryd.prog 9 (plainElem (H := Unit) Tryd.prog 3) b 7 (wordMap KP (.map [])) ∧ Below w.heap.size w w' := by
 have HB := yA ((Below.refl w.heap.size w).alloc (Nat.le_refl _) (.map #[] 0))
 have HO := yA (World.ownsMap_made (H := Unit) w Tryd.prog 9 (plainElem Tryd.prog 3))
 obtain ⟨b, hb⟩ : ∃ b, b = w.heap.size := ⟨_, rfl⟩
 have GB : Aside0 (w.heap.size ≤ b) := ⟨by omega⟩
 have EB := yA hb
 rw [← hb] at HO
 clear hb
 have KL : Keyed Tryd.prog 9 := string_keyed Tryd.underlying9
 go_enter Tryd.func58, Tryd.ntmps58
 go_wp2_with (first | ((with_reducible refine yP (N := 1) rfl ?_); go_must (refine wpList_makeMap_own _ rfl 52 rfl ?_; (try rw [← EB.out]))) | ((with_reducible refine gate_insert (t := 52) rfl ?_); go_must (refine wpList_insert_own (H := Unit) _ rfl (.tmp 1) _ _ 52 rfl 9 3 KL Tryd.underlying52 (plainElem Tryd.prog 3) b _ _ (by rw [EB.out]; rfl) HO.out (by simp [maxLen]) _ _ _ rfl rfl (keyOf_string_mk Tryd.underlying9 (by decide)) _ _ (plainElem_int Tryd.underlying3 (by rfl)) ?_; intro w' ho hg; have n0_ := yA ho; have n1_ := yA (pw_below_grown HB.out (some b) (Nat.le_trans HB.out.size (Nat.le_refl _)) hg (fun k hk => by cases hk; exact GB.out)); clear ho hg HO HB; have HO := n0_; have HB := n1_; clear n0_ n1_)))
 go_ret
 exact ⟨b, by first | rfl | (rw [EB.out]) | (rw [EB.out]; rfl), HO.out, HB.out⟩
set_option maxHeartbeats 8000000 in
set_option maxRecDepth 100000 in
theorem units_any (w : World) : Calls Tryd.prog 57 #[] w fun e w' => ∃ b, e = .returned (.map (some b)) ∧ w'.ownsMap Tryd.prog 5 (plainElem (H := Unit) Tryd.prog 3) b 4 (numMap KU (.map [])) ∧ Below w.heap.size w w' := by
 have HB := yA ((Below.refl w.heap.size w).alloc (Nat.le_refl _) (.map #[] 0))
 have HO := yA (World.ownsMap_made (H := Unit) w Tryd.prog 5 (plainElem Tryd.prog 3))
 obtain ⟨b, hb⟩ : ∃ b, b = w.heap.size := ⟨_, rfl⟩
 have GB : Aside0 (w.heap.size ≤ b) := ⟨by omega⟩
 have EB := yA hb
 rw [← hb] at HO
 clear hb
 have KL : Keyed Tryd.prog 5 := int_keyed Tryd.underlying5
 go_enter Tryd.func57, Tryd.ntmps57
 go_wp2_with (first | ((with_reducible refine yP (N := 1) rfl ?_); go_must (refine wpList_makeMap_own _ rfl 77 rfl ?_; (try rw [← EB.out]))) | ((with_reducible refine gate_insert (t := 77) rfl ?_); go_must (refine wpList_insert_own (H := Unit) _ rfl (.tmp 1) _ _ 77 rfl 5 3 KL Tryd.underlying77 (plainElem Tryd.prog 3) b _ _ (by rw [EB.out]; rfl) HO.out (by simp [maxLen]) _ _ _ rfl rfl (keyOf_int_mk Tryd.underlying5 (by decide)) _ _ (plainElem_int Tryd.underlying3 (by rfl)) ?_; intro w' ho hg; have n0_ := yA ho; have n1_ := yA (pw_below_grown HB.out (some b) (Nat.le_trans HB.out.size (Nat.le_refl _)) hg (fun k hk => by cases hk; exact GB.out)); clear ho hg HO HB; have HO := n0_; have HB := n1_; clear n0_ n1_)))
 go_ret
 exact ⟨b, by first | rfl | (rw [EB.out]) | (rw [EB.out]; rfl), HO.out, HB.out⟩
end Go.Proofs.YtkfdninngcakpaaDoor.Pure
