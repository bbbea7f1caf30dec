/- Own text: TableFirst: the first thing that is wrong gives error and place, whatever lines follow; for every text and every tail. -/
import Derived.Test.YtppojbafagneeaaDoorParLaw
import Derived.Test.YtppojbafagneeaaDoorQTableFirst
import Derived.SizedLaws
namespace Go.Proofs.YtppojbafagneeaaDoor.Pure
open Go.RowKit Go.Maps Go.ChangeShapes Go.WideShapes Go.Proofs.YtppojbafagneeaaDoor.PTab Go.Proofs.YtppojbafagneeaaDoorW.PrintWords Go.Proofs.YtppojbafagneeaaDoorW.PrintLast Go.Proofs.YtppojbafagneeaaDoorW.PrintMore
set_option linter.unusedVariables false
set_option linter.unusedSimpArgs false
theorem app_list (a b : ByteArray) : ((a ++ (⟨#[10]⟩ : ByteArray)) ++ b).data.toList = a.data.toList ++ 10 :: b.data.toList := by
  rw [ByteArray.data_append, ByteArray.data_append, Array.toList_append, Array.toList_append]
  simp
theorem first_ev (a0 a1 : ByteArray) (h0 : a0.size ≤ 140737488351232) (h1 : a1.size ≤ 140737488351232) : Ev (fun k => payofflaw05_TableFirst.f k a0 a1) true := by
  have hsz : a0.size = a0.data.toList.length := by simp
  have hs1 : (a0 ++ (⟨#[10]⟩ : ByteArray)).size = a0.size + 1 := by rw [ByteArray.size_append]; rfl
  have hs2 : ((a0 ++ (⟨#[10]⟩ : ByteArray)) ++ a1).size = (a0.data.toList ++ 10 :: a1.data.toList).length := by
    have h1 : a1.size = a1.data.toList.length := by simp
    have h2 : (⟨#[10]⟩ : ByteArray).size = 1 := rfl
    rw [ByteArray.size_append, ByteArray.size_append, List.length_append, List.length_cons]
    omega
  unfold payofflaw05_TableFirst.f
  refine Ev.call plain_is (Ev.bind plain_back (Ev.pos rfl (Ev.pos (by omega) (Ev.pos (by rw [hs1]; omega) ?_))))
  refine Ev.bind (parse_ev a0) ?_
  obtain ⟨⟨n, r, p, e⟩, hq⟩ : ∃ q, parseT a0.data.toList = q := ⟨_, rfl⟩
  rw [hq]
  have hp0 : 0 ≤ p := by
    by_cases he : e = 0
    · subst he; rw [(parse_ok hq).1]; exact Int.le_refl _
    · exact (parse_bad hq he).2.2.1
  have yes : Ev (fun _ : Nat => some (decide (p ≥ 0))) true := Ev.ret (decide_eq_true hp0)
  by_cases hl : (((a0 ++ (⟨#[10]⟩ : ByteArray)) ++ a1).size : Int) > 1048576
  · exact Ev.pos hl yes
  refine Ev.neg hl ?_
  by_cases he : e = 0
  · exact Ev.pos he yes
  refine Ev.neg he ?_
  by_cases hp : p ≥ (a0.size : Int)
  · exact Ev.pos hp yes
  refine Ev.neg hp ?_
  have hpe := parse_ev ((a0 ++ (⟨#[10]⟩ : ByteArray)) ++ a1)
  rw [app_list, parse_first hq he (by omega) (by omega)] at hpe
  exact Ev.bind hpe (Ev.pos rfl (Ev.ret (by simp)))
theorem TableFirst_walk (a0 a1 : ByteArray) (w : World) (h0 : a0.size ≤ 140737488351232) (h1 : a1.size ≤ 140737488351232) (hL : GB w) :
    Calls Tryd.prog 12 #[.string a0, .string a1] w fun e w' => e = .returned (.bool true) ∧ Below w.heap.size w w' := by
  obtain ⟨k, h⟩ := (first_ev a0 a1 h0 h1).rounds
  exact payofflaw05_TableFirst.calls k a0 a1 true w h hL
end Go.Proofs.YtppojbafagneeaaDoor.Pure
