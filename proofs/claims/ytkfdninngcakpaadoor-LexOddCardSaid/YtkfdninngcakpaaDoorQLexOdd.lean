/- Own text: functions of law LexOdd, after the text that the kit's printer writes. -/
import Derived.Test.YtkfdninngcakpaaDoorQLexx4
import Derived.WalkMore
import Derived.Deep.DeepMust
import Derived.Outline
import Derived.Deep.RegionWith
namespace Go.Proofs.YtkfdninngcakpaaDoor.PLex
open Go.RowKit Go.Proofs.YtkfdninngcakpaaDoorW.PrintWords Go.Proofs.YtkfdninngcakpaaDoorW.PrintLast Go.Proofs.YtkfdninngcakpaaDoorW.PrintMore
attribute [local go_sem] max2_int min2_int max_two min_two max_three min_three max_four min_four   -- for this text's walks alone
set_option linter.unusedVariables false
set_option linter.unusedSimpArgs false
attribute [local go_sem high] eqA32
/-! ### payofflaw06_LexOdd: function 6 -/
mutual
def payofflaw06_LexOdd.j0 : Nat → ByteArray → Int → ByteArray → Bool → Option (Bool)
  | 0, _, _, _, _ => none
  | k + 1, x0, x1, x2, x71 => if x71 = true then (some true) else ((lex_Scan.f k x0).bind fun bt222 => (if x0.size + 1 ≤ 9223372036854775807 then ((some (([x1] : List Int) : List Int)).bind fun y227 => (if (x0 ++ (⟨#[10]⟩ : ByteArray)).size + (strOfNums y227).size ≤ 9223372036854775807 then (if ((x0 ++ (⟨#[10]⟩ : ByteArray)) ++ (strOfNums y227)).size + x2.size ≤ 9223372036854775807 then (if bt222.2.2 = 0 then (payofflaw06_LexOdd.j1 k x0 bt222.1 (((x0 ++ (⟨#[10]⟩ : ByteArray)) ++ (strOfNums y227)) ++ x2) (decide (((((x0 ++ (⟨#[10]⟩ : ByteArray)) ++ (strOfNums y227)) ++ x2).size : Int) > 65536))) else (payofflaw06_LexOdd.j1 k x0 bt222.1 (((x0 ++ (⟨#[10]⟩ : ByteArray)) ++ (strOfNums y227)) ++ x2) true)) else (none)) else (none))) else (none)))
def payofflaw06_LexOdd.j1 : Nat → ByteArray → List (S32) → ByteArray → Bool → Option (Bool)
  | 0, _, _, _, _ => none
  | k + 1, x0, x8, x11, x92 => if x92 = true then (some true) else ((lex_Scan.f k x11).bind fun bt230 => (if bt230.2.2 = 61 then (if bt230.2.1 = (wrap64 ((x0.size : Int) + 1)) then ((payofflaw06_sameTokens.f k x8 bt230.1).bind fun t235 => (some t235)) else (some false)) else (some false)))
end
def payofflaw06_LexOdd.f (k : Nat) (a0 : ByteArray) (a1 : Int) (a2 : ByteArray) : Option (Bool) := (payofflaw06_takes.f k).bind fun t221 => (if t221 = true then (if a1 > 32 then (if a1 < 127 then (if a1 = 34 then (if a1 = 32 then (payofflaw06_LexOdd.j0 k a0 a1 a2 true) else (if a1 = 9 then (payofflaw06_LexOdd.j0 k a0 a1 a2 true) else (if a1 = 10 then (payofflaw06_LexOdd.j0 k a0 a1 a2 true) else (payofflaw06_LexOdd.j0 k a0 a1 a2 (a1 == 13))))) else (if a1 = 36 then (if a1 = 32 then (payofflaw06_LexOdd.j0 k a0 a1 a2 true) else (if a1 = 9 then (payofflaw06_LexOdd.j0 k a0 a1 a2 true) else (if a1 = 10 then (payofflaw06_LexOdd.j0 k a0 a1 a2 true) else (payofflaw06_LexOdd.j0 k a0 a1 a2 (a1 == 13))))) else (if a1 = 64 then (if a1 = 32 then (payofflaw06_LexOdd.j0 k a0 a1 a2 true) else (if a1 = 9 then (payofflaw06_LexOdd.j0 k a0 a1 a2 true) else (if a1 = 10 then (payofflaw06_LexOdd.j0 k a0 a1 a2 true) else (payofflaw06_LexOdd.j0 k a0 a1 a2 (a1 == 13))))) else (if a1 = 94 then (if a1 = 32 then (payofflaw06_LexOdd.j0 k a0 a1 a2 true) else (if a1 = 9 then (payofflaw06_LexOdd.j0 k a0 a1 a2 true) else (if a1 = 10 then (payofflaw06_LexOdd.j0 k a0 a1 a2 true) else (payofflaw06_LexOdd.j0 k a0 a1 a2 (a1 == 13))))) else (if a1 = 126 then (if a1 = 32 then (payofflaw06_LexOdd.j0 k a0 a1 a2 true) else (if a1 = 9 then (payofflaw06_LexOdd.j0 k a0 a1 a2 true) else (if a1 = 10 then (payofflaw06_LexOdd.j0 k a0 a1 a2 true) else (payofflaw06_LexOdd.j0 k a0 a1 a2 (a1 == 13))))) else (if a1 = 92 then (if a1 = 32 then (payofflaw06_LexOdd.j0 k a0 a1 a2 true) else (if a1 = 9 then (payofflaw06_LexOdd.j0 k a0 a1 a2 true) else (if a1 = 10 then (payofflaw06_LexOdd.j0 k a0 a1 a2 true) else (payofflaw06_LexOdd.j0 k a0 a1 a2 (a1 == 13))))) else (if a1 = 39 then (if a1 = 32 then (payofflaw06_LexOdd.j0 k a0 a1 a2 true) else (if a1 = 9 then (payofflaw06_LexOdd.j0 k a0 a1 a2 true) else (if a1 = 10 then (payofflaw06_LexOdd.j0 k a0 a1 a2 true) else (payofflaw06_LexOdd.j0 k a0 a1 a2 (a1 == 13))))) else (if a1 = 95 then (if a1 = 32 then (payofflaw06_LexOdd.j0 k a0 a1 a2 true) else (if a1 = 9 then (payofflaw06_LexOdd.j0 k a0 a1 a2 true) else (if a1 = 10 then (payofflaw06_LexOdd.j0 k a0 a1 a2 true) else (payofflaw06_LexOdd.j0 k a0 a1 a2 (a1 == 13))))) else (payofflaw06_LexOdd.j0 k a0 a1 a2 true))))))))) else (if a1 = 32 then (payofflaw06_LexOdd.j0 k a0 a1 a2 true) else (if a1 = 9 then (payofflaw06_LexOdd.j0 k a0 a1 a2 true) else (if a1 = 10 then (payofflaw06_LexOdd.j0 k a0 a1 a2 true) else (payofflaw06_LexOdd.j0 k a0 a1 a2 (a1 == 13)))))) else (if a1 = 32 then (payofflaw06_LexOdd.j0 k a0 a1 a2 true) else (if a1 = 9 then (payofflaw06_LexOdd.j0 k a0 a1 a2 true) else (if a1 = 10 then (payofflaw06_LexOdd.j0 k a0 a1 a2 true) else (payofflaw06_LexOdd.j0 k a0 a1 a2 (a1 == 13)))))) else (some false))
theorem payofflaw06_LexOdd.mono_l : ∀ k, (∀ y0 y1 y2 y3, LeO (payofflaw06_LexOdd.j0 k y0 y1 y2 y3) (payofflaw06_LexOdd.j0 (k + 1) y0 y1 y2 y3)) ∧ (∀ y0 y1 y2 y3, LeO (payofflaw06_LexOdd.j1 k y0 y1 y2 y3) (payofflaw06_LexOdd.j1 (k + 1) y0 y1 y2 y3))
  | 0 => ⟨fun _ _ _ _ r h => by simp [payofflaw06_LexOdd.j0] at h, fun _ _ _ _ r h => by simp [payofflaw06_LexOdd.j1] at h⟩
  | k + 1 => by
    obtain ⟨ih0, ih1⟩ := payofflaw06_LexOdd.mono_l k
    refine ⟨?_, ?_⟩
    · intro y0 y1 y2 y3
      unfold payofflaw06_LexOdd.j0
      repeat' first
      | (with_reducible exact ih0 _ _ _ _)
      | (with_reducible exact ih1 _ _ _ _)
      | (with_reducible exact lex_Scan.mono _ _)
      | (with_reducible exact payofflaw06_sameTokens.mono _ _ _)
      | (with_reducible exact payofflaw06_takes.mono _)
      | (with_reducible exact LeO.refl _)
      | (with_reducible exact LeO.none _)
      | (with_reducible refine LeO.ite ?_ ?_)
      | (with_reducible refine LeO.bind ?_ (fun _ => ?_))
      | exact ih0 _ _ _ _
      | exact ih1 _ _ _ _
      | exact lex_Scan.mono _ _
      | exact payofflaw06_sameTokens.mono _ _ _
      | exact payofflaw06_takes.mono _
      | exact LeO.none _
      | refine LeO.ite ?_ ?_
      | refine LeO.bind ?_ (fun _ => ?_)
    · intro y0 y1 y2 y3
      unfold payofflaw06_LexOdd.j1
      repeat' first
      | (with_reducible exact ih0 _ _ _ _)
      | (with_reducible exact ih1 _ _ _ _)
      | (with_reducible exact lex_Scan.mono _ _)
      | (with_reducible exact payofflaw06_sameTokens.mono _ _ _)
      | (with_reducible exact payofflaw06_takes.mono _)
      | (with_reducible exact LeO.refl _)
      | (with_reducible exact LeO.none _)
      | (with_reducible refine LeO.ite ?_ ?_)
      | (with_reducible refine LeO.bind ?_ (fun _ => ?_))
      | exact ih0 _ _ _ _
      | exact ih1 _ _ _ _
      | exact lex_Scan.mono _ _
      | exact payofflaw06_sameTokens.mono _ _ _
      | exact payofflaw06_takes.mono _
      | exact LeO.none _
      | refine LeO.ite ?_ ?_
      | refine LeO.bind ?_ (fun _ => ?_)
theorem payofflaw06_LexOdd.mono : ∀ a0 a1 a2 k, LeO (payofflaw06_LexOdd.f k a0 a1 a2) (payofflaw06_LexOdd.f (k + 1) a0 a1 a2) := by
  intro a0 a1 a2 k
  obtain ⟨ih0, ih1⟩ := payofflaw06_LexOdd.mono_l k
  unfold payofflaw06_LexOdd.f
  repeat' first
      | (with_reducible exact ih0 _ _ _ _)
      | (with_reducible exact ih1 _ _ _ _)
      | (with_reducible exact lex_Scan.mono _ _)
      | (with_reducible exact payofflaw06_sameTokens.mono _ _ _)
      | (with_reducible exact payofflaw06_takes.mono _)
      | (with_reducible exact LeO.refl _)
      | (with_reducible exact LeO.none _)
      | (with_reducible refine LeO.ite ?_ ?_)
      | (with_reducible refine LeO.bind ?_ (fun _ => ?_))
      | exact ih0 _ _ _ _
      | exact ih1 _ _ _ _
      | exact lex_Scan.mono _ _
      | exact payofflaw06_sameTokens.mono _ _ _
      | exact payofflaw06_takes.mono _
      | exact LeO.none _
      | refine LeO.ite ?_ ?_
      | refine LeO.bind ?_ (fun _ => ?_)
set_option maxHeartbeats 8000000 in
set_option maxRecDepth 100000 in
theorem payofflaw06_LexOdd.calls (k : Nat) (a0 : ByteArray) (a1 : Int) (a2 : ByteArray) (r : Bool) (w : World) (h : payofflaw06_LexOdd.f k a0 a1 a2 = some r) (hG : Pure.Gl w) :
    Calls Tryd.prog 6 #[.string a0, .int .u8 a1, .string a2] w fun e w' => e = .returned (.bool r) ∧ Below w.heap.size w w' := by
  have HG := Aside0.mk hG
  clear hG
  have HB := Aside0.mk (Below.refl w.heap.size w)
  have H : ((payofflaw06_takes.f k).bind fun t221 => (if t221 = true then (if a1 > 32 then (if a1 < 127 then (if a1 = 34 then (if a1 = 32 then (payofflaw06_LexOdd.j0 k a0 a1 a2 true) else (if a1 = 9 then (payofflaw06_LexOdd.j0 k a0 a1 a2 true) else (if a1 = 10 then (payofflaw06_LexOdd.j0 k a0 a1 a2 true) else (payofflaw06_LexOdd.j0 k a0 a1 a2 (a1 == 13))))) else (if a1 = 36 then (if a1 = 32 then (payofflaw06_LexOdd.j0 k a0 a1 a2 true) else (if a1 = 9 then (payofflaw06_LexOdd.j0 k a0 a1 a2 true) else (if a1 = 10 then (payofflaw06_LexOdd.j0 k a0 a1 a2 true) else (payofflaw06_LexOdd.j0 k a0 a1 a2 (a1 == 13))))) else (if a1 = 64 then (if a1 = 32 then (payofflaw06_LexOdd.j0 k a0 a1 a2 true) else (if a1 = 9 then (payofflaw06_LexOdd.j0 k a0 a1 a2 true) else (if a1 = 10 then (payofflaw06_LexOdd.j0 k a0 a1 a2 true) else (payofflaw06_LexOdd.j0 k a0 a1 a2 (a1 == 13))))) else (if a1 = 94 then (if a1 = 32 then (payofflaw06_LexOdd.j0 k a0 a1 a2 true) else (if a1 = 9 then (payofflaw06_LexOdd.j0 k a0 a1 a2 true) else (if a1 = 10 then (payofflaw06_LexOdd.j0 k a0 a1 a2 true) else (payofflaw06_LexOdd.j0 k a0 a1 a2 (a1 == 13))))) else (if a1 = 126 then (if a1 = 32 then (payofflaw06_LexOdd.j0 k a0 a1 a2 true) else (if a1 = 9 then (payofflaw06_LexOdd.j0 k a0 a1 a2 true) else (if a1 = 10 then (payofflaw06_LexOdd.j0 k a0 a1 a2 true) else (payofflaw06_LexOdd.j0 k a0 a1 a2 (a1 == 13))))) else (if a1 = 92 then (if a1 = 32 then (payofflaw06_LexOdd.j0 k a0 a1 a2 true) else (if a1 = 9 then (payofflaw06_LexOdd.j0 k a0 a1 a2 true) else (if a1 = 10 then (payofflaw06_LexOdd.j0 k a0 a1 a2 true) else (payofflaw06_LexOdd.j0 k a0 a1 a2 (a1 == 13))))) else (if a1 = 39 then (if a1 = 32 then (payofflaw06_LexOdd.j0 k a0 a1 a2 true) else (if a1 = 9 then (payofflaw06_LexOdd.j0 k a0 a1 a2 true) else (if a1 = 10 then (payofflaw06_LexOdd.j0 k a0 a1 a2 true) else (payofflaw06_LexOdd.j0 k a0 a1 a2 (a1 == 13))))) else (if a1 = 95 then (if a1 = 32 then (payofflaw06_LexOdd.j0 k a0 a1 a2 true) else (if a1 = 9 then (payofflaw06_LexOdd.j0 k a0 a1 a2 true) else (if a1 = 10 then (payofflaw06_LexOdd.j0 k a0 a1 a2 true) else (payofflaw06_LexOdd.j0 k a0 a1 a2 (a1 == 13))))) else (payofflaw06_LexOdd.j0 k a0 a1 a2 true))))))))) else (if a1 = 32 then (payofflaw06_LexOdd.j0 k a0 a1 a2 true) else (if a1 = 9 then (payofflaw06_LexOdd.j0 k a0 a1 a2 true) else (if a1 = 10 then (payofflaw06_LexOdd.j0 k a0 a1 a2 true) else (payofflaw06_LexOdd.j0 k a0 a1 a2 (a1 == 13)))))) else (if a1 = 32 then (payofflaw06_LexOdd.j0 k a0 a1 a2 true) else (if a1 = 9 then (payofflaw06_LexOdd.j0 k a0 a1 a2 true) else (if a1 = 10 then (payofflaw06_LexOdd.j0 k a0 a1 a2 true) else (payofflaw06_LexOdd.j0 k a0 a1 a2 (a1 == 13)))))) else (some false))) = some r := h
  clear h
  replace H := Option.bind_eq_some_iff.mp H
  obtain ⟨t221, A40, H⟩ := H
  replace H : (if t221 = true then (if a1 > 32 then (if a1 < 127 then (if a1 = 34 then (if a1 = 32 then (payofflaw06_LexOdd.j0 k a0 a1 a2 true) else (if a1 = 9 then (payofflaw06_LexOdd.j0 k a0 a1 a2 true) else (if a1 = 10 then (payofflaw06_LexOdd.j0 k a0 a1 a2 true) else (payofflaw06_LexOdd.j0 k a0 a1 a2 (a1 == 13))))) else (if a1 = 36 then (if a1 = 32 then (payofflaw06_LexOdd.j0 k a0 a1 a2 true) else (if a1 = 9 then (payofflaw06_LexOdd.j0 k a0 a1 a2 true) else (if a1 = 10 then (payofflaw06_LexOdd.j0 k a0 a1 a2 true) else (payofflaw06_LexOdd.j0 k a0 a1 a2 (a1 == 13))))) else (if a1 = 64 then (if a1 = 32 then (payofflaw06_LexOdd.j0 k a0 a1 a2 true) else (if a1 = 9 then (payofflaw06_LexOdd.j0 k a0 a1 a2 true) else (if a1 = 10 then (payofflaw06_LexOdd.j0 k a0 a1 a2 true) else (payofflaw06_LexOdd.j0 k a0 a1 a2 (a1 == 13))))) else (if a1 = 94 then (if a1 = 32 then (payofflaw06_LexOdd.j0 k a0 a1 a2 true) else (if a1 = 9 then (payofflaw06_LexOdd.j0 k a0 a1 a2 true) else (if a1 = 10 then (payofflaw06_LexOdd.j0 k a0 a1 a2 true) else (payofflaw06_LexOdd.j0 k a0 a1 a2 (a1 == 13))))) else (if a1 = 126 then (if a1 = 32 then (payofflaw06_LexOdd.j0 k a0 a1 a2 true) else (if a1 = 9 then (payofflaw06_LexOdd.j0 k a0 a1 a2 true) else (if a1 = 10 then (payofflaw06_LexOdd.j0 k a0 a1 a2 true) else (payofflaw06_LexOdd.j0 k a0 a1 a2 (a1 == 13))))) else (if a1 = 92 then (if a1 = 32 then (payofflaw06_LexOdd.j0 k a0 a1 a2 true) else (if a1 = 9 then (payofflaw06_LexOdd.j0 k a0 a1 a2 true) else (if a1 = 10 then (payofflaw06_LexOdd.j0 k a0 a1 a2 true) else (payofflaw06_LexOdd.j0 k a0 a1 a2 (a1 == 13))))) else (if a1 = 39 then (if a1 = 32 then (payofflaw06_LexOdd.j0 k a0 a1 a2 true) else (if a1 = 9 then (payofflaw06_LexOdd.j0 k a0 a1 a2 true) else (if a1 = 10 then (payofflaw06_LexOdd.j0 k a0 a1 a2 true) else (payofflaw06_LexOdd.j0 k a0 a1 a2 (a1 == 13))))) else (if a1 = 95 then (if a1 = 32 then (payofflaw06_LexOdd.j0 k a0 a1 a2 true) else (if a1 = 9 then (payofflaw06_LexOdd.j0 k a0 a1 a2 true) else (if a1 = 10 then (payofflaw06_LexOdd.j0 k a0 a1 a2 true) else (payofflaw06_LexOdd.j0 k a0 a1 a2 (a1 == 13))))) else (payofflaw06_LexOdd.j0 k a0 a1 a2 true))))))))) else (if a1 = 32 then (payofflaw06_LexOdd.j0 k a0 a1 a2 true) else (if a1 = 9 then (payofflaw06_LexOdd.j0 k a0 a1 a2 true) else (if a1 = 10 then (payofflaw06_LexOdd.j0 k a0 a1 a2 true) else (payofflaw06_LexOdd.j0 k a0 a1 a2 (a1 == 13)))))) else (if a1 = 32 then (payofflaw06_LexOdd.j0 k a0 a1 a2 true) else (if a1 = 9 then (payofflaw06_LexOdd.j0 k a0 a1 a2 true) else (if a1 = 10 then (payofflaw06_LexOdd.j0 k a0 a1 a2 true) else (payofflaw06_LexOdd.j0 k a0 a1 a2 (a1 == 13)))))) else (some false)) = some r := H
  have A4 := Aside0.mk A40
  clear A40
  by_cases c5 : t221 = true
  · subst c5
    have H1 : (if a1 > 32 then (if a1 < 127 then (if a1 = 34 then (if a1 = 32 then (payofflaw06_LexOdd.j0 k a0 a1 a2 true) else (if a1 = 9 then (payofflaw06_LexOdd.j0 k a0 a1 a2 true) else (if a1 = 10 then (payofflaw06_LexOdd.j0 k a0 a1 a2 true) else (payofflaw06_LexOdd.j0 k a0 a1 a2 (a1 == 13))))) else (if a1 = 36 then (if a1 = 32 then (payofflaw06_LexOdd.j0 k a0 a1 a2 true) else (if a1 = 9 then (payofflaw06_LexOdd.j0 k a0 a1 a2 true) else (if a1 = 10 then (payofflaw06_LexOdd.j0 k a0 a1 a2 true) else (payofflaw06_LexOdd.j0 k a0 a1 a2 (a1 == 13))))) else (if a1 = 64 then (if a1 = 32 then (payofflaw06_LexOdd.j0 k a0 a1 a2 true) else (if a1 = 9 then (payofflaw06_LexOdd.j0 k a0 a1 a2 true) else (if a1 = 10 then (payofflaw06_LexOdd.j0 k a0 a1 a2 true) else (payofflaw06_LexOdd.j0 k a0 a1 a2 (a1 == 13))))) else (if a1 = 94 then (if a1 = 32 then (payofflaw06_LexOdd.j0 k a0 a1 a2 true) else (if a1 = 9 then (payofflaw06_LexOdd.j0 k a0 a1 a2 true) else (if a1 = 10 then (payofflaw06_LexOdd.j0 k a0 a1 a2 true) else (payofflaw06_LexOdd.j0 k a0 a1 a2 (a1 == 13))))) else (if a1 = 126 then (if a1 = 32 then (payofflaw06_LexOdd.j0 k a0 a1 a2 true) else (if a1 = 9 then (payofflaw06_LexOdd.j0 k a0 a1 a2 true) else (if a1 = 10 then (payofflaw06_LexOdd.j0 k a0 a1 a2 true) else (payofflaw06_LexOdd.j0 k a0 a1 a2 (a1 == 13))))) else (if a1 = 92 then (if a1 = 32 then (payofflaw06_LexOdd.j0 k a0 a1 a2 true) else (if a1 = 9 then (payofflaw06_LexOdd.j0 k a0 a1 a2 true) else (if a1 = 10 then (payofflaw06_LexOdd.j0 k a0 a1 a2 true) else (payofflaw06_LexOdd.j0 k a0 a1 a2 (a1 == 13))))) else (if a1 = 39 then (if a1 = 32 then (payofflaw06_LexOdd.j0 k a0 a1 a2 true) else (if a1 = 9 then (payofflaw06_LexOdd.j0 k a0 a1 a2 true) else (if a1 = 10 then (payofflaw06_LexOdd.j0 k a0 a1 a2 true) else (payofflaw06_LexOdd.j0 k a0 a1 a2 (a1 == 13))))) else (if a1 = 95 then (if a1 = 32 then (payofflaw06_LexOdd.j0 k a0 a1 a2 true) else (if a1 = 9 then (payofflaw06_LexOdd.j0 k a0 a1 a2 true) else (if a1 = 10 then (payofflaw06_LexOdd.j0 k a0 a1 a2 true) else (payofflaw06_LexOdd.j0 k a0 a1 a2 (a1 == 13))))) else (payofflaw06_LexOdd.j0 k a0 a1 a2 true))))))))) else (if a1 = 32 then (payofflaw06_LexOdd.j0 k a0 a1 a2 true) else (if a1 = 9 then (payofflaw06_LexOdd.j0 k a0 a1 a2 true) else (if a1 = 10 then (payofflaw06_LexOdd.j0 k a0 a1 a2 true) else (payofflaw06_LexOdd.j0 k a0 a1 a2 (a1 == 13)))))) else (if a1 = 32 then (payofflaw06_LexOdd.j0 k a0 a1 a2 true) else (if a1 = 9 then (payofflaw06_LexOdd.j0 k a0 a1 a2 true) else (if a1 = 10 then (payofflaw06_LexOdd.j0 k a0 a1 a2 true) else (payofflaw06_LexOdd.j0 k a0 a1 a2 (a1 == 13)))))) = some r := by rw [if_pos rfl] at H; exact H
    clear H
    have H := H1
    clear H1
    have HC6 := Aside0.mk H
    clear H
    go_enter Tryd.func6, Tryd.ntmps6
    go_upto_region 4 with (first | ((with_reducible refine gate_callee (f := 13) rfl ?_); refine goesL_ (some 15) rfl rfl Tryd.func13 (by kernel_rfl) rfl #[] rfl (by (try simp only [List.map_toArray, List.map_cons, List.map_nil]); first | done | rfl | (simp only [List.length_drop, List.length_take]; rfl)) ?_; (with_reducible refine (payofflaw06_takes.calls k  true _ A4.out (Pure.Gl.below HG.out (by repeat (first | (with_reducible first | exact HB.out | apply below_alloc | apply pw_below_drewN | apply below_drew1 | (refine below_set ?_ (by first | exact trivial )) ) | exact HB.out)))).mono ?_); rintro e w7 ⟨rfl, hb⟩; refine ⟨_, rfl, ?_⟩; have n0_ := Aside0.mk (below_step (by repeat (first | (with_reducible first | exact HB.out | apply below_alloc | apply pw_below_drewN | apply below_drew1) | exact HB.out)) hb); clear HB; have HB := n0_; clear n0_; (try clear hb); (try clear hb2); (try clear hk); (try clear hi)))
    (try simp only [Act.put, List.setIfInBounds_toArray, List.set_cons_zero, List.set_cons_succ])
    go_cut [71] (fun v71 wc => ∃ (kq : Nat) (x71_5 : Bool), v71 = .bool x71_5 ∧ Aside0 (payofflaw06_LexOdd.j0 kq a0 a1 a2 x71_5 = some r) ∧ Aside0 (kq ≤ k) ∧ Aside0 (Below w.heap.size w wc))
    case first =>
      have H := HC6.out
      clear HC6
      by_cases c8 : a1 > 32
      · rw [if_pos c8] at H
        have c8b0 : decide (32 < a1) = true := decide_eq_true c8
        clear c8
        (first | rw [c8b0] | (simp only [i64_w, i32_w]; rw [c8b0]) | skip)
        by_cases c9 : a1 < 127
        · rw [if_pos c9] at H
          have c9b0 : decide (a1 < 127) = true := decide_eq_true c9
          clear c9
          by_cases c10 : a1 = 34
          · rw [if_pos c10] at H
            have c10b0 : (a1 == 34) = true := beq_iff_eq.mpr c10
            have c10b1 : (a1 != 34) = false := bne_eq_false_iff_eq.mpr c10
            clear c10
            by_cases c11 : a1 = 32
            · rw [if_pos c11] at H
              have c11b0 : (a1 == 32) = true := beq_iff_eq.mpr c11
              have c11b1 : (a1 != 32) = false := bne_eq_false_iff_eq.mpr c11
              clear c11
              have H' := Aside0.mk H
              clear H
              go_wp2
              go_meet
              case rel => exact ⟨_, (true), (by first | rfl | (simp; done) | (simp [*]; done)), H', ⟨by first | omega | exact Nat.le_refl _⟩, ⟨by repeat (first | (with_reducible first | exact HB.out | apply below_alloc | apply pw_below_drewN | apply below_drew1) | exact HB.out)⟩⟩
            · rw [if_neg c11] at H
              have c11b0 : (a1 == 32) = false := beq_eq_false_iff_ne.mpr c11
              have c11b1 : (a1 != 32) = true := bne_iff_ne.mpr c11
              by_cases c12 : a1 = 9
              · rw [if_pos c12] at H
                have c12b0 : (a1 == 9) = true := beq_iff_eq.mpr c12
                have c12b1 : (a1 != 9) = false := bne_eq_false_iff_eq.mpr c12
                clear c12
                have H' := Aside0.mk H
                clear H
                go_wp2
                go_meet
                case rel => exact ⟨_, (true), (by first | rfl | (simp; done) | (simp [*]; done)), H', ⟨by first | omega | exact Nat.le_refl _⟩, ⟨by repeat (first | (with_reducible first | exact HB.out | apply below_alloc | apply pw_below_drewN | apply below_drew1) | exact HB.out)⟩⟩
              · rw [if_neg c12] at H
                have c12b0 : (a1 == 9) = false := beq_eq_false_iff_ne.mpr c12
                have c12b1 : (a1 != 9) = true := bne_iff_ne.mpr c12
                by_cases c13 : a1 = 10
                · rw [if_pos c13] at H
                  have c13b0 : (a1 == 10) = true := beq_iff_eq.mpr c13
                  have c13b1 : (a1 != 10) = false := bne_eq_false_iff_eq.mpr c13
                  clear c13
                  have H' := Aside0.mk H
                  clear H
                  go_wp2
                  go_meet
                  case rel => exact ⟨_, (true), (by first | rfl | (simp; done) | (simp [*]; done)), H', ⟨by first | omega | exact Nat.le_refl _⟩, ⟨by repeat (first | (with_reducible first | exact HB.out | apply below_alloc | apply pw_below_drewN | apply below_drew1) | exact HB.out)⟩⟩
                · rw [if_neg c13] at H
                  have c13b0 : (a1 == 10) = false := beq_eq_false_iff_ne.mpr c13
                  have c13b1 : (a1 != 10) = true := bne_iff_ne.mpr c13
                  have H' := Aside0.mk H
                  clear H
                  go_wp2
                  go_meet
                  case rel => exact ⟨_, ((a1 == 13)), (by first | rfl | (simp; done) | (simp [*]; done)), H', ⟨by first | omega | exact Nat.le_refl _⟩, ⟨by repeat (first | (with_reducible first | exact HB.out | apply below_alloc | apply pw_below_drewN | apply below_drew1) | exact HB.out)⟩⟩
          · rw [if_neg c10] at H
            have c10b0 : (a1 == 34) = false := beq_eq_false_iff_ne.mpr c10
            have c10b1 : (a1 != 34) = true := bne_iff_ne.mpr c10
            by_cases c14 : a1 = 36
            · rw [if_pos c14] at H
              have c14b0 : (a1 == 36) = true := beq_iff_eq.mpr c14
              have c14b1 : (a1 != 36) = false := bne_eq_false_iff_eq.mpr c14
              clear c14
              by_cases c15 : a1 = 32
              · rw [if_pos c15] at H
                have c15b0 : (a1 == 32) = true := beq_iff_eq.mpr c15
                have c15b1 : (a1 != 32) = false := bne_eq_false_iff_eq.mpr c15
                clear c15
                have H' := Aside0.mk H
                clear H
                go_wp2
                go_meet
                case rel => exact ⟨_, (true), (by first | rfl | (simp; done) | (simp [*]; done)), H', ⟨by first | omega | exact Nat.le_refl _⟩, ⟨by repeat (first | (with_reducible first | exact HB.out | apply below_alloc | apply pw_below_drewN | apply below_drew1) | exact HB.out)⟩⟩
              · rw [if_neg c15] at H
                have c15b0 : (a1 == 32) = false := beq_eq_false_iff_ne.mpr c15
                have c15b1 : (a1 != 32) = true := bne_iff_ne.mpr c15
                by_cases c16 : a1 = 9
                · rw [if_pos c16] at H
                  have c16b0 : (a1 == 9) = true := beq_iff_eq.mpr c16
                  have c16b1 : (a1 != 9) = false := bne_eq_false_iff_eq.mpr c16
                  clear c16
                  have H' := Aside0.mk H
                  clear H
                  go_wp2
                  go_meet
                  case rel => exact ⟨_, (true), (by first | rfl | (simp; done) | (simp [*]; done)), H', ⟨by first | omega | exact Nat.le_refl _⟩, ⟨by repeat (first | (with_reducible first | exact HB.out | apply below_alloc | apply pw_below_drewN | apply below_drew1) | exact HB.out)⟩⟩
                · rw [if_neg c16] at H
                  have c16b0 : (a1 == 9) = false := beq_eq_false_iff_ne.mpr c16
                  have c16b1 : (a1 != 9) = true := bne_iff_ne.mpr c16
                  by_cases c17 : a1 = 10
                  · rw [if_pos c17] at H
                    have c17b0 : (a1 == 10) = true := beq_iff_eq.mpr c17
                    have c17b1 : (a1 != 10) = false := bne_eq_false_iff_eq.mpr c17
                    clear c17
                    have H' := Aside0.mk H
                    clear H
                    go_wp2
                    go_meet
                    case rel => exact ⟨_, (true), (by first | rfl | (simp; done) | (simp [*]; done)), H', ⟨by first | omega | exact Nat.le_refl _⟩, ⟨by repeat (first | (with_reducible first | exact HB.out | apply below_alloc | apply pw_below_drewN | apply below_drew1) | exact HB.out)⟩⟩
                  · rw [if_neg c17] at H
                    have c17b0 : (a1 == 10) = false := beq_eq_false_iff_ne.mpr c17
                    have c17b1 : (a1 != 10) = true := bne_iff_ne.mpr c17
                    have H' := Aside0.mk H
                    clear H
                    go_wp2
                    go_meet
                    case rel => exact ⟨_, ((a1 == 13)), (by first | rfl | (simp; done) | (simp [*]; done)), H', ⟨by first | omega | exact Nat.le_refl _⟩, ⟨by repeat (first | (with_reducible first | exact HB.out | apply below_alloc | apply pw_below_drewN | apply below_drew1) | exact HB.out)⟩⟩
            · rw [if_neg c14] at H
              have c14b0 : (a1 == 36) = false := beq_eq_false_iff_ne.mpr c14
              have c14b1 : (a1 != 36) = true := bne_iff_ne.mpr c14
              by_cases c18 : a1 = 64
              · rw [if_pos c18] at H
                have c18b0 : (a1 == 64) = true := beq_iff_eq.mpr c18
                have c18b1 : (a1 != 64) = false := bne_eq_false_iff_eq.mpr c18
                clear c18
                by_cases c19 : a1 = 32
                · rw [if_pos c19] at H
                  have c19b0 : (a1 == 32) = true := beq_iff_eq.mpr c19
                  have c19b1 : (a1 != 32) = false := bne_eq_false_iff_eq.mpr c19
                  clear c19
                  have H' := Aside0.mk H
                  clear H
                  go_wp2
                  go_meet
                  case rel => exact ⟨_, (true), (by first | rfl | (simp; done) | (simp [*]; done)), H', ⟨by first | omega | exact Nat.le_refl _⟩, ⟨by repeat (first | (with_reducible first | exact HB.out | apply below_alloc | apply pw_below_drewN | apply below_drew1) | exact HB.out)⟩⟩
                · rw [if_neg c19] at H
                  have c19b0 : (a1 == 32) = false := beq_eq_false_iff_ne.mpr c19
                  have c19b1 : (a1 != 32) = true := bne_iff_ne.mpr c19
                  by_cases c20 : a1 = 9
                  · rw [if_pos c20] at H
                    have c20b0 : (a1 == 9) = true := beq_iff_eq.mpr c20
                    have c20b1 : (a1 != 9) = false := bne_eq_false_iff_eq.mpr c20
                    clear c20
                    have H' := Aside0.mk H
                    clear H
                    go_wp2
                    go_meet
                    case rel => exact ⟨_, (true), (by first | rfl | (simp; done) | (simp [*]; done)), H', ⟨by first | omega | exact Nat.le_refl _⟩, ⟨by repeat (first | (with_reducible first | exact HB.out | apply below_alloc | apply pw_below_drewN | apply below_drew1) | exact HB.out)⟩⟩
                  · rw [if_neg c20] at H
                    have c20b0 : (a1 == 9) = false := beq_eq_false_iff_ne.mpr c20
                    have c20b1 : (a1 != 9) = true := bne_iff_ne.mpr c20
                    by_cases c21 : a1 = 10
                    · rw [if_pos c21] at H
                      have c21b0 : (a1 == 10) = true := beq_iff_eq.mpr c21
                      have c21b1 : (a1 != 10) = false := bne_eq_false_iff_eq.mpr c21
                      clear c21
                      have H' := Aside0.mk H
                      clear H
                      go_wp2
                      go_meet
                      case rel => exact ⟨_, (true), (by first | rfl | (simp; done) | (simp [*]; done)), H', ⟨by first | omega | exact Nat.le_refl _⟩, ⟨by repeat (first | (with_reducible first | exact HB.out | apply below_alloc | apply pw_below_drewN | apply below_drew1) | exact HB.out)⟩⟩
                    · rw [if_neg c21] at H
                      have c21b0 : (a1 == 10) = false := beq_eq_false_iff_ne.mpr c21
                      have c21b1 : (a1 != 10) = true := bne_iff_ne.mpr c21
                      have H' := Aside0.mk H
                      clear H
                      go_wp2
                      go_meet
                      case rel => exact ⟨_, ((a1 == 13)), (by first | rfl | (simp; done) | (simp [*]; done)), H', ⟨by first | omega | exact Nat.le_refl _⟩, ⟨by repeat (first | (with_reducible first | exact HB.out | apply below_alloc | apply pw_below_drewN | apply below_drew1) | exact HB.out)⟩⟩
              · rw [if_neg c18] at H
                have c18b0 : (a1 == 64) = false := beq_eq_false_iff_ne.mpr c18
                have c18b1 : (a1 != 64) = true := bne_iff_ne.mpr c18
                by_cases c22 : a1 = 94
                · rw [if_pos c22] at H
                  have c22b0 : (a1 == 94) = true := beq_iff_eq.mpr c22
                  have c22b1 : (a1 != 94) = false := bne_eq_false_iff_eq.mpr c22
                  clear c22
                  by_cases c23 : a1 = 32
                  · rw [if_pos c23] at H
                    have c23b0 : (a1 == 32) = true := beq_iff_eq.mpr c23
                    have c23b1 : (a1 != 32) = false := bne_eq_false_iff_eq.mpr c23
                    clear c23
                    have H' := Aside0.mk H
                    clear H
                    go_wp2
                    go_meet
                    case rel => exact ⟨_, (true), (by first | rfl | (simp; done) | (simp [*]; done)), H', ⟨by first | omega | exact Nat.le_refl _⟩, ⟨by repeat (first | (with_reducible first | exact HB.out | apply below_alloc | apply pw_below_drewN | apply below_drew1) | exact HB.out)⟩⟩
                  · rw [if_neg c23] at H
                    have c23b0 : (a1 == 32) = false := beq_eq_false_iff_ne.mpr c23
                    have c23b1 : (a1 != 32) = true := bne_iff_ne.mpr c23
                    by_cases c24 : a1 = 9
                    · rw [if_pos c24] at H
                      have c24b0 : (a1 == 9) = true := beq_iff_eq.mpr c24
                      have c24b1 : (a1 != 9) = false := bne_eq_false_iff_eq.mpr c24
                      clear c24
                      have H' := Aside0.mk H
                      clear H
                      go_wp2
                      go_meet
                      case rel => exact ⟨_, (true), (by first | rfl | (simp; done) | (simp [*]; done)), H', ⟨by first | omega | exact Nat.le_refl _⟩, ⟨by repeat (first | (with_reducible first | exact HB.out | apply below_alloc | apply pw_below_drewN | apply below_drew1) | exact HB.out)⟩⟩
                    · rw [if_neg c24] at H
                      have c24b0 : (a1 == 9) = false := beq_eq_false_iff_ne.mpr c24
                      have c24b1 : (a1 != 9) = true := bne_iff_ne.mpr c24
                      by_cases c25 : a1 = 10
                      · rw [if_pos c25] at H
                        have c25b0 : (a1 == 10) = true := beq_iff_eq.mpr c25
                        have c25b1 : (a1 != 10) = false := bne_eq_false_iff_eq.mpr c25
                        clear c25
                        have H' := Aside0.mk H
                        clear H
                        go_wp2
                        go_meet
                        case rel => exact ⟨_, (true), (by first | rfl | (simp; done) | (simp [*]; done)), H', ⟨by first | omega | exact Nat.le_refl _⟩, ⟨by repeat (first | (with_reducible first | exact HB.out | apply below_alloc | apply pw_below_drewN | apply below_drew1) | exact HB.out)⟩⟩
                      · rw [if_neg c25] at H
                        have c25b0 : (a1 == 10) = false := beq_eq_false_iff_ne.mpr c25
                        have c25b1 : (a1 != 10) = true := bne_iff_ne.mpr c25
                        have H' := Aside0.mk H
                        clear H
                        go_wp2
                        go_meet
                        case rel => exact ⟨_, ((a1 == 13)), (by first | rfl | (simp; done) | (simp [*]; done)), H', ⟨by first | omega | exact Nat.le_refl _⟩, ⟨by repeat (first | (with_reducible first | exact HB.out | apply below_alloc | apply pw_below_drewN | apply below_drew1) | exact HB.out)⟩⟩
                · rw [if_neg c22] at H
                  have c22b0 : (a1 == 94) = false := beq_eq_false_iff_ne.mpr c22
                  have c22b1 : (a1 != 94) = true := bne_iff_ne.mpr c22
                  by_cases c26 : a1 = 126
                  · rw [if_pos c26] at H
                    have c26b0 : (a1 == 126) = true := beq_iff_eq.mpr c26
                    have c26b1 : (a1 != 126) = false := bne_eq_false_iff_eq.mpr c26
                    clear c26
                    by_cases c27 : a1 = 32
                    · rw [if_pos c27] at H
                      have c27b0 : (a1 == 32) = true := beq_iff_eq.mpr c27
                      have c27b1 : (a1 != 32) = false := bne_eq_false_iff_eq.mpr c27
                      clear c27
                      have H' := Aside0.mk H
                      clear H
                      go_wp2
                      go_meet
                      case rel => exact ⟨_, (true), (by first | rfl | (simp; done) | (simp [*]; done)), H', ⟨by first | omega | exact Nat.le_refl _⟩, ⟨by repeat (first | (with_reducible first | exact HB.out | apply below_alloc | apply pw_below_drewN | apply below_drew1) | exact HB.out)⟩⟩
                    · rw [if_neg c27] at H
                      have c27b0 : (a1 == 32) = false := beq_eq_false_iff_ne.mpr c27
                      have c27b1 : (a1 != 32) = true := bne_iff_ne.mpr c27
                      by_cases c28 : a1 = 9
                      · rw [if_pos c28] at H
                        have c28b0 : (a1 == 9) = true := beq_iff_eq.mpr c28
                        have c28b1 : (a1 != 9) = false := bne_eq_false_iff_eq.mpr c28
                        clear c28
                        have H' := Aside0.mk H
                        clear H
                        go_wp2
                        go_meet
                        case rel => exact ⟨_, (true), (by first | rfl | (simp; done) | (simp [*]; done)), H', ⟨by first | omega | exact Nat.le_refl _⟩, ⟨by repeat (first | (with_reducible first | exact HB.out | apply below_alloc | apply pw_below_drewN | apply below_drew1) | exact HB.out)⟩⟩
                      · rw [if_neg c28] at H
                        have c28b0 : (a1 == 9) = false := beq_eq_false_iff_ne.mpr c28
                        have c28b1 : (a1 != 9) = true := bne_iff_ne.mpr c28
                        by_cases c29 : a1 = 10
                        · rw [if_pos c29] at H
                          have c29b0 : (a1 == 10) = true := beq_iff_eq.mpr c29
                          have c29b1 : (a1 != 10) = false := bne_eq_false_iff_eq.mpr c29
                          clear c29
                          have H' := Aside0.mk H
                          clear H
                          go_wp2
                          go_meet
                          case rel => exact ⟨_, (true), (by first | rfl | (simp; done) | (simp [*]; done)), H', ⟨by first | omega | exact Nat.le_refl _⟩, ⟨by repeat (first | (with_reducible first | exact HB.out | apply below_alloc | apply pw_below_drewN | apply below_drew1) | exact HB.out)⟩⟩
                        · rw [if_neg c29] at H
                          have c29b0 : (a1 == 10) = false := beq_eq_false_iff_ne.mpr c29
                          have c29b1 : (a1 != 10) = true := bne_iff_ne.mpr c29
                          have H' := Aside0.mk H
                          clear H
                          go_wp2
                          go_meet
                          case rel => exact ⟨_, ((a1 == 13)), (by first | rfl | (simp; done) | (simp [*]; done)), H', ⟨by first | omega | exact Nat.le_refl _⟩, ⟨by repeat (first | (with_reducible first | exact HB.out | apply below_alloc | apply pw_below_drewN | apply below_drew1) | exact HB.out)⟩⟩
                  · rw [if_neg c26] at H
                    have c26b0 : (a1 == 126) = false := beq_eq_false_iff_ne.mpr c26
                    have c26b1 : (a1 != 126) = true := bne_iff_ne.mpr c26
                    by_cases c30 : a1 = 92
                    · rw [if_pos c30] at H
                      have c30b0 : (a1 == 92) = true := beq_iff_eq.mpr c30
                      have c30b1 : (a1 != 92) = false := bne_eq_false_iff_eq.mpr c30
                      clear c30
                      by_cases c31 : a1 = 32
                      · rw [if_pos c31] at H
                        have c31b0 : (a1 == 32) = true := beq_iff_eq.mpr c31
                        have c31b1 : (a1 != 32) = false := bne_eq_false_iff_eq.mpr c31
                        clear c31
                        have H' := Aside0.mk H
                        clear H
                        go_wp2
                        go_meet
                        case rel => exact ⟨_, (true), (by first | rfl | (simp; done) | (simp [*]; done)), H', ⟨by first | omega | exact Nat.le_refl _⟩, ⟨by repeat (first | (with_reducible first | exact HB.out | apply below_alloc | apply pw_below_drewN | apply below_drew1) | exact HB.out)⟩⟩
                      · rw [if_neg c31] at H
                        have c31b0 : (a1 == 32) = false := beq_eq_false_iff_ne.mpr c31
                        have c31b1 : (a1 != 32) = true := bne_iff_ne.mpr c31
                        by_cases c32 : a1 = 9
                        · rw [if_pos c32] at H
                          have c32b0 : (a1 == 9) = true := beq_iff_eq.mpr c32
                          have c32b1 : (a1 != 9) = false := bne_eq_false_iff_eq.mpr c32
                          clear c32
                          have H' := Aside0.mk H
                          clear H
                          go_wp2
                          go_meet
                          case rel => exact ⟨_, (true), (by first | rfl | (simp; done) | (simp [*]; done)), H', ⟨by first | omega | exact Nat.le_refl _⟩, ⟨by repeat (first | (with_reducible first | exact HB.out | apply below_alloc | apply pw_below_drewN | apply below_drew1) | exact HB.out)⟩⟩
                        · rw [if_neg c32] at H
                          have c32b0 : (a1 == 9) = false := beq_eq_false_iff_ne.mpr c32
                          have c32b1 : (a1 != 9) = true := bne_iff_ne.mpr c32
                          by_cases c33 : a1 = 10
                          · rw [if_pos c33] at H
                            have c33b0 : (a1 == 10) = true := beq_iff_eq.mpr c33
                            have c33b1 : (a1 != 10) = false := bne_eq_false_iff_eq.mpr c33
                            clear c33
                            have H' := Aside0.mk H
                            clear H
                            go_wp2
                            go_meet
                            case rel => exact ⟨_, (true), (by first | rfl | (simp; done) | (simp [*]; done)), H', ⟨by first | omega | exact Nat.le_refl _⟩, ⟨by repeat (first | (with_reducible first | exact HB.out | apply below_alloc | apply pw_below_drewN | apply below_drew1) | exact HB.out)⟩⟩
                          · rw [if_neg c33] at H
                            have c33b0 : (a1 == 10) = false := beq_eq_false_iff_ne.mpr c33
                            have c33b1 : (a1 != 10) = true := bne_iff_ne.mpr c33
                            have H' := Aside0.mk H
                            clear H
                            go_wp2
                            go_meet
                            case rel => exact ⟨_, ((a1 == 13)), (by first | rfl | (simp; done) | (simp [*]; done)), H', ⟨by first | omega | exact Nat.le_refl _⟩, ⟨by repeat (first | (with_reducible first | exact HB.out | apply below_alloc | apply pw_below_drewN | apply below_drew1) | exact HB.out)⟩⟩
                    · rw [if_neg c30] at H
                      have c30b0 : (a1 == 92) = false := beq_eq_false_iff_ne.mpr c30
                      have c30b1 : (a1 != 92) = true := bne_iff_ne.mpr c30
                      by_cases c34 : a1 = 39
                      · rw [if_pos c34] at H
                        have c34b0 : (a1 == 39) = true := beq_iff_eq.mpr c34
                        have c34b1 : (a1 != 39) = false := bne_eq_false_iff_eq.mpr c34
                        clear c34
                        by_cases c35 : a1 = 32
                        · rw [if_pos c35] at H
                          have c35b0 : (a1 == 32) = true := beq_iff_eq.mpr c35
                          have c35b1 : (a1 != 32) = false := bne_eq_false_iff_eq.mpr c35
                          clear c35
                          have H' := Aside0.mk H
                          clear H
                          go_wp2
                          go_meet
                          case rel => exact ⟨_, (true), (by first | rfl | (simp; done) | (simp [*]; done)), H', ⟨by first | omega | exact Nat.le_refl _⟩, ⟨by repeat (first | (with_reducible first | exact HB.out | apply below_alloc | apply pw_below_drewN | apply below_drew1) | exact HB.out)⟩⟩
                        · rw [if_neg c35] at H
                          have c35b0 : (a1 == 32) = false := beq_eq_false_iff_ne.mpr c35
                          have c35b1 : (a1 != 32) = true := bne_iff_ne.mpr c35
                          by_cases c36 : a1 = 9
                          · rw [if_pos c36] at H
                            have c36b0 : (a1 == 9) = true := beq_iff_eq.mpr c36
                            have c36b1 : (a1 != 9) = false := bne_eq_false_iff_eq.mpr c36
                            clear c36
                            have H' := Aside0.mk H
                            clear H
                            go_wp2
                            go_meet
                            case rel => exact ⟨_, (true), (by first | rfl | (simp; done) | (simp [*]; done)), H', ⟨by first | omega | exact Nat.le_refl _⟩, ⟨by repeat (first | (with_reducible first | exact HB.out | apply below_alloc | apply pw_below_drewN | apply below_drew1) | exact HB.out)⟩⟩
                          · rw [if_neg c36] at H
                            have c36b0 : (a1 == 9) = false := beq_eq_false_iff_ne.mpr c36
                            have c36b1 : (a1 != 9) = true := bne_iff_ne.mpr c36
                            by_cases c37 : a1 = 10
                            · rw [if_pos c37] at H
                              have c37b0 : (a1 == 10) = true := beq_iff_eq.mpr c37
                              have c37b1 : (a1 != 10) = false := bne_eq_false_iff_eq.mpr c37
                              clear c37
                              have H' := Aside0.mk H
                              clear H
                              go_wp2
                              go_meet
                              case rel => exact ⟨_, (true), (by first | rfl | (simp; done) | (simp [*]; done)), H', ⟨by first | omega | exact Nat.le_refl _⟩, ⟨by repeat (first | (with_reducible first | exact HB.out | apply below_alloc | apply pw_below_drewN | apply below_drew1) | exact HB.out)⟩⟩
                            · rw [if_neg c37] at H
                              have c37b0 : (a1 == 10) = false := beq_eq_false_iff_ne.mpr c37
                              have c37b1 : (a1 != 10) = true := bne_iff_ne.mpr c37
                              have H' := Aside0.mk H
                              clear H
                              go_wp2
                              go_meet
                              case rel => exact ⟨_, ((a1 == 13)), (by first | rfl | (simp; done) | (simp [*]; done)), H', ⟨by first | omega | exact Nat.le_refl _⟩, ⟨by repeat (first | (with_reducible first | exact HB.out | apply below_alloc | apply pw_below_drewN | apply below_drew1) | exact HB.out)⟩⟩
                      · rw [if_neg c34] at H
                        have c34b0 : (a1 == 39) = false := beq_eq_false_iff_ne.mpr c34
                        have c34b1 : (a1 != 39) = true := bne_iff_ne.mpr c34
                        by_cases c38 : a1 = 95
                        · rw [if_pos c38] at H
                          have c38b0 : (a1 == 95) = true := beq_iff_eq.mpr c38
                          have c38b1 : (a1 != 95) = false := bne_eq_false_iff_eq.mpr c38
                          clear c38
                          by_cases c39 : a1 = 32
                          · rw [if_pos c39] at H
                            have c39b0 : (a1 == 32) = true := beq_iff_eq.mpr c39
                            have c39b1 : (a1 != 32) = false := bne_eq_false_iff_eq.mpr c39
                            clear c39
                            have H' := Aside0.mk H
                            clear H
                            go_wp2
                            go_meet
                            case rel => exact ⟨_, (true), (by first | rfl | (simp; done) | (simp [*]; done)), H', ⟨by first | omega | exact Nat.le_refl _⟩, ⟨by repeat (first | (with_reducible first | exact HB.out | apply below_alloc | apply pw_below_drewN | apply below_drew1) | exact HB.out)⟩⟩
                          · rw [if_neg c39] at H
                            have c39b0 : (a1 == 32) = false := beq_eq_false_iff_ne.mpr c39
                            have c39b1 : (a1 != 32) = true := bne_iff_ne.mpr c39
                            by_cases c40 : a1 = 9
                            · rw [if_pos c40] at H
                              have c40b0 : (a1 == 9) = true := beq_iff_eq.mpr c40
                              have c40b1 : (a1 != 9) = false := bne_eq_false_iff_eq.mpr c40
                              clear c40
                              have H' := Aside0.mk H
                              clear H
                              go_wp2
                              go_meet
                              case rel => exact ⟨_, (true), (by first | rfl | (simp; done) | (simp [*]; done)), H', ⟨by first | omega | exact Nat.le_refl _⟩, ⟨by repeat (first | (with_reducible first | exact HB.out | apply below_alloc | apply pw_below_drewN | apply below_drew1) | exact HB.out)⟩⟩
                            · rw [if_neg c40] at H
                              have c40b0 : (a1 == 9) = false := beq_eq_false_iff_ne.mpr c40
                              have c40b1 : (a1 != 9) = true := bne_iff_ne.mpr c40
                              by_cases c41 : a1 = 10
                              · rw [if_pos c41] at H
                                have c41b0 : (a1 == 10) = true := beq_iff_eq.mpr c41
                                have c41b1 : (a1 != 10) = false := bne_eq_false_iff_eq.mpr c41
                                clear c41
                                have H' := Aside0.mk H
                                clear H
                                go_wp2
                                go_meet
                                case rel => exact ⟨_, (true), (by first | rfl | (simp; done) | (simp [*]; done)), H', ⟨by first | omega | exact Nat.le_refl _⟩, ⟨by repeat (first | (with_reducible first | exact HB.out | apply below_alloc | apply pw_below_drewN | apply below_drew1) | exact HB.out)⟩⟩
                              · rw [if_neg c41] at H
                                have c41b0 : (a1 == 10) = false := beq_eq_false_iff_ne.mpr c41
                                have c41b1 : (a1 != 10) = true := bne_iff_ne.mpr c41
                                have H' := Aside0.mk H
                                clear H
                                go_wp2
                                go_meet
                                case rel => exact ⟨_, ((a1 == 13)), (by first | rfl | (simp; done) | (simp [*]; done)), H', ⟨by first | omega | exact Nat.le_refl _⟩, ⟨by repeat (first | (with_reducible first | exact HB.out | apply below_alloc | apply pw_below_drewN | apply below_drew1) | exact HB.out)⟩⟩
                        · rw [if_neg c38] at H
                          have c38b0 : (a1 == 95) = false := beq_eq_false_iff_ne.mpr c38
                          have c38b1 : (a1 != 95) = true := bne_iff_ne.mpr c38
                          have H' := Aside0.mk H
                          clear H
                          go_wp2
                          go_meet
                          case rel => exact ⟨_, (true), (by first | rfl | (simp; done) | (simp [*]; done)), H', ⟨by first | omega | exact Nat.le_refl _⟩, ⟨by repeat (first | (with_reducible first | exact HB.out | apply below_alloc | apply pw_below_drewN | apply below_drew1) | exact HB.out)⟩⟩
        · rw [if_neg c9] at H
          have c9b0 : decide (a1 < 127) = false := decide_eq_false c9
          clear c9
          by_cases c42 : a1 = 32
          · rw [if_pos c42] at H
            have c42b0 : (a1 == 32) = true := beq_iff_eq.mpr c42
            have c42b1 : (a1 != 32) = false := bne_eq_false_iff_eq.mpr c42
            clear c42
            have H' := Aside0.mk H
            clear H
            go_wp2
            go_meet
            case rel => exact ⟨_, (true), (by first | rfl | (simp; done) | (simp [*]; done)), H', ⟨by first | omega | exact Nat.le_refl _⟩, ⟨by repeat (first | (with_reducible first | exact HB.out | apply below_alloc | apply pw_below_drewN | apply below_drew1) | exact HB.out)⟩⟩
          · rw [if_neg c42] at H
            have c42b0 : (a1 == 32) = false := beq_eq_false_iff_ne.mpr c42
            have c42b1 : (a1 != 32) = true := bne_iff_ne.mpr c42
            by_cases c43 : a1 = 9
            · rw [if_pos c43] at H
              have c43b0 : (a1 == 9) = true := beq_iff_eq.mpr c43
              have c43b1 : (a1 != 9) = false := bne_eq_false_iff_eq.mpr c43
              clear c43
              have H' := Aside0.mk H
              clear H
              go_wp2
              go_meet
              case rel => exact ⟨_, (true), (by first | rfl | (simp; done) | (simp [*]; done)), H', ⟨by first | omega | exact Nat.le_refl _⟩, ⟨by repeat (first | (with_reducible first | exact HB.out | apply below_alloc | apply pw_below_drewN | apply below_drew1) | exact HB.out)⟩⟩
            · rw [if_neg c43] at H
              have c43b0 : (a1 == 9) = false := beq_eq_false_iff_ne.mpr c43
              have c43b1 : (a1 != 9) = true := bne_iff_ne.mpr c43
              by_cases c44 : a1 = 10
              · rw [if_pos c44] at H
                have c44b0 : (a1 == 10) = true := beq_iff_eq.mpr c44
                have c44b1 : (a1 != 10) = false := bne_eq_false_iff_eq.mpr c44
                clear c44
                have H' := Aside0.mk H
                clear H
                go_wp2
                go_meet
                case rel => exact ⟨_, (true), (by first | rfl | (simp; done) | (simp [*]; done)), H', ⟨by first | omega | exact Nat.le_refl _⟩, ⟨by repeat (first | (with_reducible first | exact HB.out | apply below_alloc | apply pw_below_drewN | apply below_drew1) | exact HB.out)⟩⟩
              · rw [if_neg c44] at H
                have c44b0 : (a1 == 10) = false := beq_eq_false_iff_ne.mpr c44
                have c44b1 : (a1 != 10) = true := bne_iff_ne.mpr c44
                have H' := Aside0.mk H
                clear H
                go_wp2
                go_meet
                case rel => exact ⟨_, ((a1 == 13)), (by first | rfl | (simp; done) | (simp [*]; done)), H', ⟨by first | omega | exact Nat.le_refl _⟩, ⟨by repeat (first | (with_reducible first | exact HB.out | apply below_alloc | apply pw_below_drewN | apply below_drew1) | exact HB.out)⟩⟩
      · rw [if_neg c8] at H
        have c8b0 : decide (32 < a1) = false := decide_eq_false c8
        clear c8
        (first | rw [c8b0] | (simp only [i64_w, i32_w]; rw [c8b0]) | skip)
        by_cases c45 : a1 = 32
        · rw [if_pos c45] at H
          have c45b0 : (a1 == 32) = true := beq_iff_eq.mpr c45
          have c45b1 : (a1 != 32) = false := bne_eq_false_iff_eq.mpr c45
          clear c45
          have H' := Aside0.mk H
          clear H
          go_wp2
          go_meet
          case rel => exact ⟨_, (true), (by first | rfl | (simp; done) | (simp [*]; done)), H', ⟨by first | omega | exact Nat.le_refl _⟩, ⟨by repeat (first | (with_reducible first | exact HB.out | apply below_alloc | apply pw_below_drewN | apply below_drew1) | exact HB.out)⟩⟩
        · rw [if_neg c45] at H
          have c45b0 : (a1 == 32) = false := beq_eq_false_iff_ne.mpr c45
          have c45b1 : (a1 != 32) = true := bne_iff_ne.mpr c45
          by_cases c46 : a1 = 9
          · rw [if_pos c46] at H
            have c46b0 : (a1 == 9) = true := beq_iff_eq.mpr c46
            have c46b1 : (a1 != 9) = false := bne_eq_false_iff_eq.mpr c46
            clear c46
            have H' := Aside0.mk H
            clear H
            go_wp2
            go_meet
            case rel => exact ⟨_, (true), (by first | rfl | (simp; done) | (simp [*]; done)), H', ⟨by first | omega | exact Nat.le_refl _⟩, ⟨by repeat (first | (with_reducible first | exact HB.out | apply below_alloc | apply pw_below_drewN | apply below_drew1) | exact HB.out)⟩⟩
          · rw [if_neg c46] at H
            have c46b0 : (a1 == 9) = false := beq_eq_false_iff_ne.mpr c46
            have c46b1 : (a1 != 9) = true := bne_iff_ne.mpr c46
            by_cases c47 : a1 = 10
            · rw [if_pos c47] at H
              have c47b0 : (a1 == 10) = true := beq_iff_eq.mpr c47
              have c47b1 : (a1 != 10) = false := bne_eq_false_iff_eq.mpr c47
              clear c47
              have H' := Aside0.mk H
              clear H
              go_wp2
              go_meet
              case rel => exact ⟨_, (true), (by first | rfl | (simp; done) | (simp [*]; done)), H', ⟨by first | omega | exact Nat.le_refl _⟩, ⟨by repeat (first | (with_reducible first | exact HB.out | apply below_alloc | apply pw_below_drewN | apply below_drew1) | exact HB.out)⟩⟩
            · rw [if_neg c47] at H
              have c47b0 : (a1 == 10) = false := beq_eq_false_iff_ne.mpr c47
              have c47b1 : (a1 != 10) = true := bne_iff_ne.mpr c47
              have H' := Aside0.mk H
              clear H
              go_wp2
              go_meet
              case rel => exact ⟨_, ((a1 == 13)), (by first | rfl | (simp; done) | (simp [*]; done)), H', ⟨by first | omega | exact Nat.le_refl _⟩, ⟨by repeat (first | (with_reducible first | exact HB.out | apply below_alloc | apply pw_below_drewN | apply below_drew1) | exact HB.out)⟩⟩
    case rest =>
      clear HC6
      try clear c1
      try clear c2
      try clear p2
      try clear c3
      try clear c4
      try clear c5
      try clear c6
      try clear c8
      try clear c8b0
      try clear c9
      try clear c9b0
      try clear c10
      try clear c10b0
      try clear c10b1
      try clear c11
      try clear c11b0
      try clear c11b1
      try clear c12
      try clear c12b0
      try clear c12b1
      try clear c13
      try clear c13b0
      try clear c13b1
      try clear c14
      try clear c14b0
      try clear c14b1
      try clear c15
      try clear c15b0
      try clear c15b1
      try clear c16
      try clear c16b0
      try clear c16b1
      try clear c17
      try clear c17b0
      try clear c17b1
      try clear c18
      try clear c18b0
      try clear c18b1
      try clear c19
      try clear c19b0
      try clear c19b1
      try clear c20
      try clear c20b0
      try clear c20b1
      try clear c21
      try clear c21b0
      try clear c21b1
      try clear c22
      try clear c22b0
      try clear c22b1
      try clear c23
      try clear c23b0
      try clear c23b1
      try clear c24
      try clear c24b0
      try clear c24b1
      try clear c25
      try clear c25b0
      try clear c25b1
      try clear c26
      try clear c26b0
      try clear c26b1
      try clear c27
      try clear c27b0
      try clear c27b1
      try clear c28
      try clear c28b0
      try clear c28b1
      try clear c29
      try clear c29b0
      try clear c29b1
      try clear c30
      try clear c30b0
      try clear c30b1
      try clear c31
      try clear c31b0
      try clear c31b1
      try clear c32
      try clear c32b0
      try clear c32b1
      try clear c33
      try clear c33b0
      try clear c33b1
      try clear c34
      try clear c34b0
      try clear c34b1
      try clear c35
      try clear c35b0
      try clear c35b1
      try clear c36
      try clear c36b0
      try clear c36b1
      try clear c37
      try clear c37b0
      try clear c37b1
      try clear c38
      try clear c38b0
      try clear c38b1
      try clear c39
      try clear c39b0
      try clear c39b1
      try clear c40
      try clear c40b0
      try clear c40b1
      try clear c41
      try clear c41b0
      try clear c41b1
      try clear c42
      try clear c42b0
      try clear c42b1
      try clear c43
      try clear c43b0
      try clear c43b1
      try clear c44
      try clear c44b0
      try clear c44b1
      try clear c45
      try clear c45b0
      try clear c45b1
      try clear c46
      try clear c46b0
      try clear c46b1
      try clear c47
      try clear c47b0
      try clear c47b1
      obtain ⟨kq, x71_5, rfl, HA, HJ5, HB⟩ := hcut
      cases kq with
      | zero => exact absurd HA.out (by simp [payofflaw06_LexOdd.j0])
      | succ kj5 =>
        have H := HA.out
        clear HA
        simp only [payofflaw06_LexOdd.j0] at H
        by_cases c48 : x71_5 = true
        · subst c48
          have H1 : (some true) = some r := by rw [if_pos rfl] at H; exact H
          clear H
          have H := H1
          clear H1
          obtain rfl := Option.some.inj H
          go_wp2
          go_ret
          exact ⟨by first | rfl | (simp [errW_none, errW_some] <;> rfl) | (simp [*, errW_none, errW_some] <;> rfl), by repeat (first | (with_reducible first | exact HB.out | apply below_alloc | apply pw_below_drewN | apply below_drew1) | exact HB.out)⟩
        · replace c48 := Bool.eq_false_iff.mpr c48
          subst c48
          have H1 : ((lex_Scan.f kj5 a0).bind fun bt222 => (if a0.size + 1 ≤ 9223372036854775807 then ((some (([a1] : List Int) : List Int)).bind fun y227 => (if (a0 ++ (⟨#[10]⟩ : ByteArray)).size + (strOfNums y227).size ≤ 9223372036854775807 then (if ((a0 ++ (⟨#[10]⟩ : ByteArray)) ++ (strOfNums y227)).size + a2.size ≤ 9223372036854775807 then (if bt222.2.2 = 0 then (payofflaw06_LexOdd.j1 kj5 a0 bt222.1 (((a0 ++ (⟨#[10]⟩ : ByteArray)) ++ (strOfNums y227)) ++ a2) (decide (((((a0 ++ (⟨#[10]⟩ : ByteArray)) ++ (strOfNums y227)) ++ a2).size : Int) > 65536))) else (payofflaw06_LexOdd.j1 kj5 a0 bt222.1 (((a0 ++ (⟨#[10]⟩ : ByteArray)) ++ (strOfNums y227)) ++ a2) true)) else (none)) else (none))) else (none))) = some r := by rw [if_neg (show ¬ (false = true) by decide)] at H; exact H
          clear H
          have H := H1
          clear H1
          replace H := Option.bind_eq_some_iff.mp H
          obtain ⟨⟨t222, t223, t224⟩, A490, H⟩ := H
          replace H : (if a0.size + 1 ≤ 9223372036854775807 then ((some (([a1] : List Int) : List Int)).bind fun y227 => (if (a0 ++ (⟨#[10]⟩ : ByteArray)).size + (strOfNums y227).size ≤ 9223372036854775807 then (if ((a0 ++ (⟨#[10]⟩ : ByteArray)) ++ (strOfNums y227)).size + a2.size ≤ 9223372036854775807 then (if t224 = 0 then (payofflaw06_LexOdd.j1 kj5 a0 t222 (((a0 ++ (⟨#[10]⟩ : ByteArray)) ++ (strOfNums y227)) ++ a2) (decide (((((a0 ++ (⟨#[10]⟩ : ByteArray)) ++ (strOfNums y227)) ++ a2).size : Int) > 65536))) else (payofflaw06_LexOdd.j1 kj5 a0 t222 (((a0 ++ (⟨#[10]⟩ : ByteArray)) ++ (strOfNums y227)) ++ a2) true)) else (none)) else (none))) else (none)) = some r := H
          have A49 := Aside0.mk A490
          clear A490
          by_cases c50 : a0.size + 1 ≤ 9223372036854775807
          · rw [if_pos c50] at H
            have c50b0 := eq_true c50
            have c50b1 : decide (a0.size + 1 ≤ 9223372036854775807) = true := decide_eq_true c50
            try have c50b2 : (9223372036854775807 < a0.size + 1) = False := eq_false (Nat.not_lt.2 c50)
            obtain ⟨y227, hy227⟩ : ∃ y_ : List Int, y_ = (([a1] : List Int)) := ⟨_, rfl⟩
            replace H : (if (a0 ++ (⟨#[10]⟩ : ByteArray)).size + (strOfNums y227).size ≤ 9223372036854775807 then (if ((a0 ++ (⟨#[10]⟩ : ByteArray)) ++ (strOfNums y227)).size + a2.size ≤ 9223372036854775807 then (if t224 = 0 then (payofflaw06_LexOdd.j1 kj5 a0 t222 (((a0 ++ (⟨#[10]⟩ : ByteArray)) ++ (strOfNums y227)) ++ a2) (decide (((((a0 ++ (⟨#[10]⟩ : ByteArray)) ++ (strOfNums y227)) ++ a2).size : Int) > 65536))) else (payofflaw06_LexOdd.j1 kj5 a0 t222 (((a0 ++ (⟨#[10]⟩ : ByteArray)) ++ (strOfNums y227)) ++ a2) true)) else (none)) else (none)) = some r := by first | (rw [hy227]; with_reducible exact H) | (have H2_ := (Option.bind_some _ _).symm.trans H; rw [hy227]; with_reducible exact H2_) | (have H2_ := (Option.bind_some _ _).symm.trans H; with_reducible exact H2_) | with_reducible exact H | (rw [hy227]; exact H) | exact H
            have Ny227 := Aside0.mk hy227
            clear hy227
            obtain ⟨s1, hs1⟩ : ∃ s_ : ByteArray, (a0 ++ (⟨#[10]⟩ : ByteArray)) = s_ := ⟨_, rfl⟩
            (try rw [hs1] at H)
            by_cases c51 : s1.size + (strOfNums y227).size ≤ 9223372036854775807
            · rw [if_pos c51] at H
              have c51b0 := eq_true c51
              have c51b1 : decide (s1.size + (strOfNums y227).size ≤ 9223372036854775807) = true := decide_eq_true c51
              try have c51b2 : (9223372036854775807 < s1.size + (strOfNums y227).size) = False := eq_false (Nat.not_lt.2 c51)
              obtain ⟨s2, hs2⟩ : ∃ s_ : ByteArray, (s1 ++ (strOfNums y227)) = s_ := ⟨_, rfl⟩
              (try rw [hs2] at H)
              obtain ⟨s3, hs3⟩ : ∃ s_ : ByteArray, (s2 ++ a2) = s_ := ⟨_, rfl⟩
              (try rw [hs3] at H)
              by_cases c52 : s2.size + a2.size ≤ 9223372036854775807
              · rw [if_pos c52] at H
                have c52b0 := eq_true c52
                have c52b1 : decide (s2.size + a2.size ≤ 9223372036854775807) = true := decide_eq_true c52
                try have c52b2 : (9223372036854775807 < s2.size + a2.size) = False := eq_false (Nat.not_lt.2 c52)
                have HC53 := Aside0.mk H
                clear H
                go_upto_region 8 with (first | ((with_reducible refine gate_callee (f := 10) rfl ?_); refine goesL_ (some 74) rfl rfl Tryd.func10 (by kernel_rfl) rfl #[.string a0] rfl (by (try simp only [List.map_toArray, List.map_cons, List.map_nil]); first | done | rfl | (simp only [List.length_drop, List.length_take]; rfl)) ?_; (with_reducible refine (lex_Scan.calls kj5 a0 t222 t223 t224 _ A49.out (Pure.Gl.below HG.out (by repeat (first | (with_reducible first | exact HB.out | apply below_alloc | apply pw_below_drewN | apply below_drew1 | (refine below_set ?_ (by first | exact trivial )) ) | exact HB.out)))).mono ?_); rintro e w54 ⟨v225, rfl, ho0, hb⟩; refine ⟨_, rfl, ?_⟩; have n0_ := Aside0.mk (Kd.R_lower ho0 (below_size (by repeat (first | (with_reducible first | exact HB.out | apply below_alloc | apply pw_below_drewN | apply below_drew1) | exact HB.out)))); have n1_ := Aside0.mk (below_step (by repeat (first | (with_reducible first | exact HB.out | apply below_alloc | apply pw_below_drewN | apply below_drew1) | exact HB.out)) hb); clear HB; have HO226 := n0_; have HB := n1_; clear n0_ n1_; (try clear hb); (try clear hb2); (try clear hk); (try clear hi); (try clear ho0)) | ((with_reducible refine gate_dst (N := 81) rfl ?_); (try (refine gate_guard (by rfl) ?_; dsimp only)); refine Kd.R_lit (Kd.int .u8) _ 5 ?hg (N := 81) ?hd (xs := ([a1] : List Int)) (inner := [.int .u8 a1]) (ok := fun _ => True) (okp := fun _ => True) ?hr ?hp (fun _ hk => hk) trivial (Below.refl _ _) (Nat.le_refl _) (by simp) ?_; (case hd => rfl); (case hg => rfl); (case hr => first | (go_simp; done) | (go_simp; rfl)); (case hp => exact (Reps.one (show Kd.M (Kd.int .u8) _ _ _ a1 [.int .u8 a1] from rfl) (Reps.none _ _))); intro v228 w55 ho56 hb hg_ hnew_; clear hg_ hnew_; (first | rw [← Ny227.out] at ho56 | (simp only [Int.reduceToNat] at ho56; rw [← Ny227.out] at ho56)); have n0_ := Aside0.mk (Kd.R_below (by (with_reducible repeat (first | apply Kd.R_alloc | apply Kd.R_drewN | apply Kd.R_drew)); exact HO226.out) hb); have n1_ := Aside0.mk (Kd.R_lower ho56 (below_size (by repeat (first | (with_reducible first | exact HB.out | apply below_alloc | apply pw_below_drewN | apply below_drew1) | exact HB.out)))); have n2_ := Aside0.mk (below_step (by repeat (first | (with_reducible first | exact HB.out | apply below_alloc | apply pw_below_drewN | apply below_drew1) | exact HB.out)) hb); clear HO226; clear HB; have HO226 := n0_; have HO229 := n1_; have HB := n2_; clear n0_ n1_ n2_; clear hb ho56; have hcv57 := own_string (P := Tryd.prog) Tryd.underlying37 Tryd.underlying5 Tryd.underlying9 (Kd.own_of_R HO229.out)))
                (try simp only [Act.put, List.setIfInBounds_toArray, List.set_cons_zero, List.set_cons_succ])
                go_cut [92] (fun v92 wc => ∃ (kq : Nat) (x92_52 : Bool), v92 = .bool x92_52 ∧ Aside0 (payofflaw06_LexOdd.j1 kq a0 t222 s3 x92_52 = some r) ∧ Aside0 (kq ≤ kj5) ∧ Aside0 (Kd.R k32 32 wc w.heap.size (fun _ => True) v225 t222) ∧ Aside0 (Below w.heap.size w wc))
                case first =>
                  have H := HC53.out
                  clear HC53
                  by_cases c58 : t224 = 0
                  · rw [if_pos c58] at H
                    have c58b0 : (t224 == 0) = true := beq_iff_eq.mpr c58
                    have c58b1 : (t224 != 0) = false := bne_eq_false_iff_eq.mpr c58
                    clear c58
                    (first | rw [c58b0] | (simp only [i64_w, i32_w]; rw [c58b0]) | skip)
                    have H' := Aside0.mk H
                    clear H
                    go_wp2
                    go_meet
                    case rel => exact ⟨_, (decide ((s3.size : Int) > 65536)), (by first | rfl | (simp; done) | (simp [*]; done)), H', ⟨by have := HJ5.out; first | omega | exact Nat.le_refl _⟩, ⟨by (with_reducible repeat (first | apply Kd.R_alloc | apply Kd.R_drewN | apply Kd.R_drew)); exact HO226.out⟩, ⟨by repeat (first | (with_reducible first | exact HB.out | apply below_alloc | apply pw_below_drewN | apply below_drew1) | exact HB.out)⟩⟩
                  · rw [if_neg c58] at H
                    have c58b0 : (t224 == 0) = false := beq_eq_false_iff_ne.mpr c58
                    have c58b1 : (t224 != 0) = true := bne_iff_ne.mpr c58
                    (first | rw [c58b0] | (simp only [i64_w, i32_w]; rw [c58b0]) | skip)
                    have H' := Aside0.mk H
                    clear H
                    go_wp2
                    go_meet
                    case rel => exact ⟨_, (true), (by first | rfl | (simp; done) | (simp [*]; done)), H', ⟨by have := HJ5.out; first | omega | exact Nat.le_refl _⟩, ⟨by (with_reducible repeat (first | apply Kd.R_alloc | apply Kd.R_drewN | apply Kd.R_drew)); exact HO226.out⟩, ⟨by repeat (first | (with_reducible first | exact HB.out | apply below_alloc | apply pw_below_drewN | apply below_drew1) | exact HB.out)⟩⟩
                case rest =>
                  clear HC53
                  try clear c1
                  try clear c2
                  try clear p2
                  try clear c3
                  try clear c4
                  try clear c5
                  try clear hcv5
                  try clear c6
                  try clear c8
                  try clear c8b0
                  try clear c9
                  try clear c9b0
                  try clear c10
                  try clear c10b0
                  try clear c10b1
                  try clear c11
                  try clear c11b0
                  try clear c11b1
                  try clear c12
                  try clear c12b0
                  try clear c12b1
                  try clear c13
                  try clear c13b0
                  try clear c13b1
                  try clear c14
                  try clear c14b0
                  try clear c14b1
                  try clear c15
                  try clear c15b0
                  try clear c15b1
                  try clear c16
                  try clear c16b0
                  try clear c16b1
                  try clear c17
                  try clear c17b0
                  try clear c17b1
                  try clear c18
                  try clear c18b0
                  try clear c18b1
                  try clear c19
                  try clear c19b0
                  try clear c19b1
                  try clear c20
                  try clear c20b0
                  try clear c20b1
                  try clear c21
                  try clear c21b0
                  try clear c21b1
                  try clear c22
                  try clear c22b0
                  try clear c22b1
                  try clear c23
                  try clear c23b0
                  try clear c23b1
                  try clear c24
                  try clear c24b0
                  try clear c24b1
                  try clear c25
                  try clear c25b0
                  try clear c25b1
                  try clear c26
                  try clear c26b0
                  try clear c26b1
                  try clear c27
                  try clear c27b0
                  try clear c27b1
                  try clear c28
                  try clear c28b0
                  try clear c28b1
                  try clear c29
                  try clear c29b0
                  try clear c29b1
                  try clear c30
                  try clear c30b0
                  try clear c30b1
                  try clear c31
                  try clear c31b0
                  try clear c31b1
                  try clear c32
                  try clear c32b0
                  try clear c32b1
                  try clear c33
                  try clear c33b0
                  try clear c33b1
                  try clear c34
                  try clear c34b0
                  try clear c34b1
                  try clear c35
                  try clear c35b0
                  try clear c35b1
                  try clear c36
                  try clear c36b0
                  try clear c36b1
                  try clear c37
                  try clear c37b0
                  try clear c37b1
                  try clear c38
                  try clear c38b0
                  try clear c38b1
                  try clear c39
                  try clear c39b0
                  try clear c39b1
                  try clear c40
                  try clear c40b0
                  try clear c40b1
                  try clear c41
                  try clear c41b0
                  try clear c41b1
                  try clear c42
                  try clear c42b0
                  try clear c42b1
                  try clear c43
                  try clear c43b0
                  try clear c43b1
                  try clear c44
                  try clear c44b0
                  try clear c44b1
                  try clear c45
                  try clear c45b0
                  try clear c45b1
                  try clear c46
                  try clear c46b0
                  try clear c46b1
                  try clear c47
                  try clear c47b0
                  try clear c47b1
                  try clear c48
                  try clear c50
                  try clear c50b0
                  try clear c50b1
                  try clear c50b2
                  try clear c51
                  try clear c51b0
                  try clear c51b1
                  try clear c51b2
                  try clear c52
                  try clear c52b0
                  try clear c52b1
                  try clear c52b2
                  try clear hcv57
                  try clear c58
                  try clear c58b0
                  try clear c58b1
                  try clear p2
                  obtain ⟨kq, x92_52, rfl, HA, HJ52, HO_8, HB⟩ := hcut
                  cases kq with
                  | zero => exact absurd HA.out (by simp [payofflaw06_LexOdd.j1])
                  | succ kj52 =>
                    have H := HA.out
                    clear HA
                    simp only [payofflaw06_LexOdd.j1] at H
                    by_cases c59 : x92_52 = true
                    · subst c59
                      have H1 : (some true) = some r := by rw [if_pos rfl] at H; exact H
                      clear H
                      have H := H1
                      clear H1
                      obtain rfl := Option.some.inj H
                      go_wp2
                      go_ret
                      exact ⟨by first | rfl | (simp [errW_none, errW_some] <;> rfl) | (simp [*, errW_none, errW_some] <;> rfl), by repeat (first | (with_reducible first | exact HB.out | apply below_alloc | apply pw_below_drewN | apply below_drew1) | exact HB.out)⟩
                    · replace c59 := Bool.eq_false_iff.mpr c59
                      subst c59
                      have H1 : ((lex_Scan.f kj52 s3).bind fun bt230 => (if bt230.2.2 = 61 then (if bt230.2.1 = (wrap64 ((a0.size : Int) + 1)) then ((payofflaw06_sameTokens.f kj52 t222 bt230.1).bind fun t235 => (some t235)) else (some false)) else (some false))) = some r := by rw [if_neg (show ¬ (false = true) by decide)] at H; exact H
                      clear H
                      have H := H1
                      clear H1
                      replace H := Option.bind_eq_some_iff.mp H
                      obtain ⟨⟨t230, t231, t232⟩, A600, H⟩ := H
                      replace H : (if t232 = 61 then (if t231 = (wrap64 ((a0.size : Int) + 1)) then ((payofflaw06_sameTokens.f kj52 t222 t230).bind fun t235 => (some t235)) else (some false)) else (some false)) = some r := H
                      have A60 := Aside0.mk A600
                      clear A600
                      by_cases c61 : t232 = 61
                      · rw [if_pos c61] at H
                        have c61b0 : (t232 == 61) = true := beq_iff_eq.mpr c61
                        have c61b1 : (t232 != 61) = false := bne_eq_false_iff_eq.mpr c61
                        clear c61
                        by_cases c62 : t231 = (wrap64 ((a0.size : Int) + 1))
                        · rw [if_pos c62] at H
                          have c62b0 : (t231 == (wrap64 ((a0.size : Int) + 1))) = true := beq_iff_eq.mpr c62
                          have c62b1 : (t231 != (wrap64 ((a0.size : Int) + 1))) = false := bne_eq_false_iff_eq.mpr c62
                          clear c62
                          replace H := Option.bind_eq_some_iff.mp H
                          obtain ⟨t235, A630, H⟩ := H
                          replace H : (some t235) = some r := H
                          have A63 := Aside0.mk A630
                          clear A630
                          obtain rfl := Option.some.inj H
                          go_wp2_with (first | ((with_reducible refine gate_callee (f := 10) rfl ?_); refine goesL_ (some 95) rfl rfl Tryd.func10 (by kernel_rfl) rfl #[.string s3] rfl (by (try simp only [List.map_toArray, List.map_cons, List.map_nil]); first | done | rfl | (simp only [List.length_drop, List.length_take]; rfl)) ?_; (with_reducible refine (lex_Scan.calls kj52 s3 t230 t231 t232 _ A60.out (Pure.Gl.below HG.out (by repeat (first | (with_reducible first | exact HB.out | apply below_alloc | apply pw_below_drewN | apply below_drew1 | (refine below_set ?_ (by first | exact trivial )) ) | exact HB.out)))).mono ?_); rintro e w64 ⟨v233, rfl, ho0, hb⟩; refine ⟨_, rfl, ?_⟩; have n0_ := Aside0.mk (Kd.R_elder' (by (with_reducible repeat (first | apply Kd.R_alloc | apply Kd.R_drewN | apply Kd.R_drew)); exact HO_8.out) (Kd.R_base ho0) hb); have n1_ := Aside0.mk (Kd.R_lower (Kd.R_new' ho0 (Kd.R_lt (by (with_reducible repeat (first | apply Kd.R_alloc | apply Kd.R_drewN | apply Kd.R_drew)); exact HO_8.out))) (below_size (by repeat (first | (with_reducible first | exact HB.out | apply below_alloc | apply pw_below_drewN | apply below_drew1) | exact HB.out)))); have n2_ := Aside0.mk (below_step (by repeat (first | (with_reducible first | exact HB.out | apply below_alloc | apply pw_below_drewN | apply below_drew1) | exact HB.out)) hb); clear HO_8; clear HB; have HO_8 := n0_; have HO234 := n1_; have HB := n2_; clear n0_ n1_ n2_; (try clear hb); (try clear hb2); (try clear hk); (try clear hi); (try clear ho0); obtain ⟨Ao65, co65, eo65⟩ := Kd.R_slice HO_8.out; subst eo65; obtain ⟨Ao66, co66, eo66⟩ := Kd.R_slice HO234.out; subst eo66) | (go_at_call 12; (with_reducible refine (payofflaw06_sameTokens.calls kj52 _ _ t222 _ _ t230 t235 _ ?side1 ?side2 ?side3 ?side4 A63.out).mono ?_); (case side1 => repeat (first | exact (Kd.R_reads' HO_8.out).2.2 | (with_reducible refine Kd.C_alloc ?_ _) | (with_reducible refine Kd.C_drewN ?_ _) | (with_reducible refine Kd.C_drew ?_))); (case side2 => exact (Kd.R_reads' HO_8.out).2.1); (case side3 => repeat (first | exact (Kd.R_reads' HO234.out).2.2 | (with_reducible refine Kd.C_alloc ?_ _) | (with_reducible refine Kd.C_drewN ?_ _) | (with_reducible refine Kd.C_drew ?_))); (case side4 => exact (Kd.R_reads' HO234.out).2.1); rintro e w' ⟨rfl, ⟨nd, rfl⟩⟩))
                          go_ret
                          exact ⟨by first | rfl | (simp [errW_none, errW_some] <;> rfl) | (simp [*, errW_none, errW_some] <;> rfl), by repeat (first | (with_reducible first | exact HB.out | apply below_alloc | apply pw_below_drewN | apply below_drew1) | exact HB.out)⟩
                        · rw [if_neg c62] at H
                          have c62b0 : (t231 == (wrap64 ((a0.size : Int) + 1))) = false := beq_eq_false_iff_ne.mpr c62
                          have c62b1 : (t231 != (wrap64 ((a0.size : Int) + 1))) = true := bne_iff_ne.mpr c62
                          obtain rfl := Option.some.inj H
                          go_wp2_with (first | ((with_reducible refine gate_callee (f := 10) rfl ?_); refine goesL_ (some 95) rfl rfl Tryd.func10 (by kernel_rfl) rfl #[.string s3] rfl (by (try simp only [List.map_toArray, List.map_cons, List.map_nil]); first | done | rfl | (simp only [List.length_drop, List.length_take]; rfl)) ?_; (with_reducible refine (lex_Scan.calls kj52 s3 t230 t231 t232 _ A60.out (Pure.Gl.below HG.out (by repeat (first | (with_reducible first | exact HB.out | apply below_alloc | apply pw_below_drewN | apply below_drew1 | (refine below_set ?_ (by first | exact trivial )) ) | exact HB.out)))).mono ?_); rintro e w67 ⟨v233, rfl, ho0, hb⟩; refine ⟨_, rfl, ?_⟩; have n0_ := Aside0.mk (Kd.R_elder' (by (with_reducible repeat (first | apply Kd.R_alloc | apply Kd.R_drewN | apply Kd.R_drew)); exact HO_8.out) (Kd.R_base ho0) hb); have n1_ := Aside0.mk (Kd.R_lower (Kd.R_new' ho0 (Kd.R_lt (by (with_reducible repeat (first | apply Kd.R_alloc | apply Kd.R_drewN | apply Kd.R_drew)); exact HO_8.out))) (below_size (by repeat (first | (with_reducible first | exact HB.out | apply below_alloc | apply pw_below_drewN | apply below_drew1) | exact HB.out)))); have n2_ := Aside0.mk (below_step (by repeat (first | (with_reducible first | exact HB.out | apply below_alloc | apply pw_below_drewN | apply below_drew1) | exact HB.out)) hb); clear HO_8; clear HB; have HO_8 := n0_; have HO234 := n1_; have HB := n2_; clear n0_ n1_ n2_; (try clear hb); (try clear hb2); (try clear hk); (try clear hi); (try clear ho0)))
                          go_ret
                          exact ⟨by first | rfl | (simp [errW_none, errW_some] <;> rfl) | (simp [*, errW_none, errW_some] <;> rfl), by repeat (first | (with_reducible first | exact HB.out | apply below_alloc | apply pw_below_drewN | apply below_drew1) | exact HB.out)⟩
                      · rw [if_neg c61] at H
                        have c61b0 : (t232 == 61) = false := beq_eq_false_iff_ne.mpr c61
                        have c61b1 : (t232 != 61) = true := bne_iff_ne.mpr c61
                        obtain rfl := Option.some.inj H
                        go_wp2_with (first | ((with_reducible refine gate_callee (f := 10) rfl ?_); refine goesL_ (some 95) rfl rfl Tryd.func10 (by kernel_rfl) rfl #[.string s3] rfl (by (try simp only [List.map_toArray, List.map_cons, List.map_nil]); first | done | rfl | (simp only [List.length_drop, List.length_take]; rfl)) ?_; (with_reducible refine (lex_Scan.calls kj52 s3 t230 t231 t232 _ A60.out (Pure.Gl.below HG.out (by repeat (first | (with_reducible first | exact HB.out | apply below_alloc | apply pw_below_drewN | apply below_drew1 | (refine below_set ?_ (by first | exact trivial )) ) | exact HB.out)))).mono ?_); rintro e w68 ⟨v233, rfl, ho0, hb⟩; refine ⟨_, rfl, ?_⟩; have n0_ := Aside0.mk (Kd.R_elder' (by (with_reducible repeat (first | apply Kd.R_alloc | apply Kd.R_drewN | apply Kd.R_drew)); exact HO_8.out) (Kd.R_base ho0) hb); have n1_ := Aside0.mk (Kd.R_lower (Kd.R_new' ho0 (Kd.R_lt (by (with_reducible repeat (first | apply Kd.R_alloc | apply Kd.R_drewN | apply Kd.R_drew)); exact HO_8.out))) (below_size (by repeat (first | (with_reducible first | exact HB.out | apply below_alloc | apply pw_below_drewN | apply below_drew1) | exact HB.out)))); have n2_ := Aside0.mk (below_step (by repeat (first | (with_reducible first | exact HB.out | apply below_alloc | apply pw_below_drewN | apply below_drew1) | exact HB.out)) hb); clear HO_8; clear HB; have HO_8 := n0_; have HO234 := n1_; have HB := n2_; clear n0_ n1_ n2_; (try clear hb); (try clear hb2); (try clear hk); (try clear hi); (try clear ho0)))
                        go_ret
                        exact ⟨by first | rfl | (simp [errW_none, errW_some] <;> rfl) | (simp [*, errW_none, errW_some] <;> rfl), by repeat (first | (with_reducible first | exact HB.out | apply below_alloc | apply pw_below_drewN | apply below_drew1) | exact HB.out)⟩
              · rw [if_neg c52] at H
                exact absurd H (by simp)
            · rw [if_neg c51] at H
              exact absurd H (by simp)
          · rw [if_neg c50] at H
            exact absurd H (by simp)
  · replace c5 := Bool.eq_false_iff.mpr c5
    subst c5
    have H1 : (some false) = some r := by rw [if_neg (show ¬ (false = true) by decide)] at H; exact H
    clear H
    have H := H1
    clear H1
    obtain rfl := Option.some.inj H
    go_enter Tryd.func6, Tryd.ntmps6
    go_wp2_with (first | ((with_reducible refine gate_callee (f := 13) rfl ?_); refine goesL_ (some 15) rfl rfl Tryd.func13 (by kernel_rfl) rfl #[] rfl (by (try simp only [List.map_toArray, List.map_cons, List.map_nil]); first | done | rfl | (simp only [List.length_drop, List.length_take]; rfl)) ?_; (with_reducible refine (payofflaw06_takes.calls k  false _ A4.out (Pure.Gl.below HG.out (by repeat (first | (with_reducible first | exact HB.out | apply below_alloc | apply pw_below_drewN | apply below_drew1 | (refine below_set ?_ (by first | exact trivial )) ) | exact HB.out)))).mono ?_); rintro e w69 ⟨rfl, hb⟩; refine ⟨_, rfl, ?_⟩; have n0_ := Aside0.mk (below_step (by repeat (first | (with_reducible first | exact HB.out | apply below_alloc | apply pw_below_drewN | apply below_drew1) | exact HB.out)) hb); clear HB; have HB := n0_; clear n0_; (try clear hb); (try clear hb2); (try clear hk); (try clear hi)))
    go_ret
    exact ⟨by first | rfl | (simp [errW_none, errW_some] <;> rfl) | (simp [*, errW_none, errW_some] <;> rfl), by repeat (first | (with_reducible first | exact HB.out | apply below_alloc | apply pw_below_drewN | apply below_drew1) | exact HB.out)⟩

end Go.Proofs.YtkfdninngcakpaaDoor.PLex
