/- Own text: what the second form's bound tells of the tables that are handed in: how many names they have. -/
import Derived.Test.YtppojbafagneeaaDoorRows
import Derived.Test.YtppojbafagneeaaDoorTabOpen
namespace Go.Proofs.YtppojbafagneeaaDoor.Pure
open Go.RowKit Go.ChangeShapes Go.WideShapes Go.ChangeAt Go.Proofs.YtppojbafagneeaaDoor.PTab Go.Proofs.YtppojbafagneeaaDoorW.PrintWords
set_option linter.unusedVariables false
theorem bulk_one {H : Type} (d : DataW H) : 1 ≤ Rows.uptoBulk d := by
  cases d with
  | lit l => cases l <;> simp [Rows.uptoBulk]
  | _ => simp [Rows.uptoBulk]
theorem bulk_len {H : Type} (l : List (DataW H)) : l.length ≤ Rows.uptoBulkAll l := by
  induction l with
  | nil => simp [Rows.uptoBulkAll]
  | cons x r ih => have := bulk_one x; simp only [Rows.uptoBulkAll, List.length_cons]; omega
theorem bulk_two {H : Type} {d0 d1 : DataW H} {r : List (DataW H)} (h : Rows.uptoSmall H (d0 :: d1 :: r) = true) : Rows.uptoBulk d0 + Rows.uptoBulk d1 ≤ 1048576 := by
  have h := of_decide_eq_true h
  simp only [Rows.uptoBulkAll] at h
  omega
section
variable {H : Type} {enc : TypeId × Value → H} {W : World} {spare : Nat → Bool} {held : Bool}
theorem names_len {fuel : Nat} {A : Option Addr} {n c : Nat} {y : DataW H × List MemPlace} (h : DataW.trod enc Tryd.prog W 0 spare held fuel 22 [.slice A n c] = some y) : n ≤ Rows.uptoBulk y.1 := by
  rcases Deep.open_slice Tryd.underlying22 h with ⟨hcs, -⟩ | ⟨x, len, c', m, k, D, Pl, hcs, hb, hl, hm, hmm, hx, hel⟩
  · have e := (List.cons.inj hcs).1
    injection e with e1 e2 e3
    subst e2
    exact Nat.zero_le _
  · have e := (List.cons.inj hcs).1
    injection e with e1 e2 e3
    subst hx
    have h1 := bulk_len ((List.range len).map D)
    rw [List.length_map, List.length_range] at h1
    rw [e2]
    simp only [Rows.uptoBulk]
    omega
set_option maxRecDepth 100000 in
theorem tab_len {r : Reach} {b0 : Nat} {A : Option Addr} {n c : Nat} {x : Value} {d : DataW H} {p : List MemPlace} (hv : Value.okWide Tryd.prog W r b0 25 (.agg #[.slice A n c, x])) (h : DataW.Trod enc Tryd.prog W 0 spare held 25 (.agg #[.slice A n c, x]) d p) : n ≤ Rows.uptoBulk d := by
  obtain ⟨v0, v1, y0, y1, k, e, rfl, -, t0, t1⟩ := Joins.open_agg2 Tryd.underlying25 (by kernel_rfl) (by kernel_rfl) hv h
  have e : v0 = .slice A n c := by
    have e2 := congrArg (fun v : Value => match v with | .agg cs => cs[0]? | _ => none) e
    exact (Option.some.inj e2).symm
  subst e
  have := names_len t0
  simp only [Rows.uptoBulk, Rows.uptoBulkAll]
  omega
end
end Go.Proofs.YtppojbafagneeaaDoor.Pure
