/- Own text: TableRead: what is read is valid, and read back as it was, if it can be printed; what is refused has a place in the text or at its end; for every text. -/
import Derived.Test.YtppojbafagneeaaDoorParLaw
import Derived.Test.YtppojbafagneeaaDoorQTableRead
import Derived.SizedLaws
namespace Go.Proofs.YtppojbafagneeaaDoor.Pure
open Go.RowKit Go.Maps Go.ChangeShapes Go.WideShapes Go.Proofs.YtppojbafagneeaaDoor.PTab Go.Proofs.YtppojbafagneeaaDoorW.PrintWords Go.Proofs.YtppojbafagneeaaDoorW.PrintLast Go.Proofs.YtppojbafagneeaaDoorW.PrintMore
set_option linter.unusedVariables false
set_option linter.unusedSimpArgs false
theorem read_ev (a0 : ByteArray) : Ev (fun k => payofflaw05_TableRead.f k a0) true := by
  have hsz : a0.size = a0.data.toList.length := by simp
  unfold payofflaw05_TableRead.f
  refine Ev.call plain_is (Ev.bind plain_back (Ev.pos rfl (Ev.bind (parse_ev a0) ?_)))
  obtain ⟨⟨n, r, p, e⟩, hq⟩ : ∃ q, parseT a0.data.toList = q := ⟨_, rfl⟩
  rw [hq]
  by_cases he : e = 0
  · subst he
    obtain ⟨hp, hv, hc⟩ := parse_ok hq
    have hs := small_of_valid hv hc
    have hve := validT_ev n r hs
    rw [hv] at hve
    have hpr := print_f hs
    refine Ev.pos rfl ?_
    by_cases hl : 1048576 < (prt n r).length
    · rw [print_long hv hl] at hpr
      exact Ev.call hpr (Ev.pos rfl (Ev.bind hve (Ev.ret rfl)))
    · rw [print_ok hv hl] at hpr
      exact Ev.call hpr (Ev.neg (show ¬ ((0 : Int) = 6) by decide) (Ev.pos hp (Ev.bind hve (Ev.pos rfl (Ev.bind (back_ev n r hv hc hl) (Ev.ret rfl))))))
  · obtain ⟨hn, hr, hp0, hp1, hk, hlong⟩ := parse_bad hq he
    subst hn hr
    have hsame := same_ev [] [] (by simp) (by simp) (by simp)
    refine Ev.neg he ?_
    by_cases h51 : e = 51
    · refine Ev.pos h51 (Ev.bind hsame (Ev.pos rfl (Ev.pos hp0 (Ev.pos (show p ≤ (a0.size : Int) by omega) ?_))))
      by_cases hl : (a0.size : Int) > 1048576
      · have := (hlong (by omega)).1; omega
      · exact Ev.neg hl (Ev.ret rfl)
    refine Ev.neg h51 ?_
    by_cases h52 : e = 52
    · refine Ev.pos h52 (Ev.bind hsame (Ev.pos rfl (Ev.pos hp0 (Ev.pos (show p ≤ (a0.size : Int) by omega) ?_))))
      by_cases hl : (a0.size : Int) > 1048576
      · have := (hlong (by omega)).1; omega
      · exact Ev.neg hl (Ev.ret rfl)
    have h6 : e = 6 := by rcases hk with h | h | h <;> omega
    refine Ev.neg h52 (Ev.bind hsame (Ev.pos rfl (Ev.pos hp0 (Ev.pos (show p ≤ (a0.size : Int) by omega) (Ev.pos h6 ?_)))))
    by_cases hl : (a0.size : Int) > 1048576
    · exact Ev.pos hl (Ev.ret (by rw [(hlong (by omega)).2]; rfl))
    · exact Ev.neg hl (Ev.ret rfl)
theorem TableRead_walk (a0 : ByteArray) (w : World) (h0 : a0.size ≤ 140737488351232) (hL : GB w) :
    Calls Tryd.prog 11 #[.string a0] w fun e w' => e = .returned (.bool true) ∧ Below w.heap.size w w' := by
  obtain ⟨k, h⟩ := (read_ev a0).rounds
  exact payofflaw05_TableRead.calls k a0 true w h hL
end Go.Proofs.YtppojbafagneeaaDoor.Pure
