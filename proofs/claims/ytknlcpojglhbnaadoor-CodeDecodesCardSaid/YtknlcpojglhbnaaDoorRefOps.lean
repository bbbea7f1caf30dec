/- Own text: the walks of the reference's row, Name, Operands, Effect, within. -/
import Derived.Test.YtknlcpojglhbnaaDoorOps
namespace Go.Proofs.YtknlcpojglhbnaaDoor.Pure
open Go.RowKit Go.Proofs.YtknlcpojglhbnaaDoorW.PrintWords Go.Proofs.YtknlcpojglhbnaaDoorW.PrintLast Go.Proofs.YtknlcpojglhbnaaDoorW.PrintMore
set_option linter.unusedVariables false
set_option linter.unusedSimpArgs false

section
variable (t t2 : TypeId) (fr fr2 : Nat × Nat)
set_option maxHeartbeats 1000000 in
set_option maxRecDepth 100000 in
theorem row_in (i : Nat) (hi : i < 29) (w : World) (hT : w.heap[1]? = some (.cells tA t fr)) :
    Calls Tryd.prog 34 #[.int .i64 i] w fun e w' => e = .returned (.tuple #[.agg #[.string ⟨(kat i).nm.toArray⟩, .int .i64 (bat i).1, .int .i64 (bat i).2, .int .i64 (kat i).t, .int .i64 (kat i).p], .int .i64 0]) ∧ Below w.heap.size w w' := by
  have hlt : 1 < w.heap.size := blk_lt' hT
  have hc0 : w.cell? ⟨1, i * 5, none⟩ = some (.string ⟨(kat i).nm.toArray⟩) := (cell_of_row w 1 (i * 5) tA t fr hT).trans (tA_get i 0 hi (by omega))
  have hc1 : w.cell? ⟨1, i * 5 + 1, none⟩ = some (.int .i64 (bat i).1) := (cell_of_row w 1 (i * 5 + 1) tA t fr hT).trans (tA_get i 1 hi (by omega))
  have hc2 : w.cell? ⟨1, i * 5 + 2, none⟩ = some (.int .i64 (bat i).2) := (cell_of_row w 1 (i * 5 + 2) tA t fr hT).trans (tA_get i 2 hi (by omega))
  have hc3 : w.cell? ⟨1, i * 5 + 3, none⟩ = some (.int .i64 (kat i).t) := (cell_of_row w 1 (i * 5 + 3) tA t fr hT).trans (tA_get i 3 hi (by omega))
  have hc4 : w.cell? ⟨1, i * 5 + 4, none⟩ = some (.int .i64 (kat i).p) := (cell_of_row w 1 (i * 5 + 4) tA t fr hT).trans (tA_get i 4 hi (by omega))
  clear hT
  have n29 : ¬ (29 ≤ i) := by omega
  generalize (kat i).nm = x0 at *
  generalize (bat i).1 = x1 at *
  generalize (bat i).2 = x2 at *
  generalize (kat i).t = x3 at *
  generalize (kat i).p = x4 at *
  go_enter Tryd.func34, Tryd.ntmps34
  go_wp2
  exact bodyPost_ret (v := .tuple #[.agg #[.string ⟨x0.toArray⟩, .int .i64 x1, .int .i64 x2, .int .i64 x3, .int .i64 x4], .int .i64 0]) (by simp [results, Tryd.results34, go_sem]) rfl ⟨rfl, (Below.refl _ _).alloc (Nat.le_refl _) _⟩
set_option maxHeartbeats 1000000 in
set_option maxRecDepth 100000 in
theorem row_out (i : Int) (hi : ¬ (0 ≤ i ∧ i < 29)) (w : World) :
    Calls Tryd.prog 34 #[.int .i64 i] w fun e w' => e = .returned (.tuple #[.agg #[.string ⟨#[]⟩, .int .i64 0, .int .i64 0, .int .i64 0, .int .i64 0], .int .i64 111]) ∧ Below w.heap.size w w' := by
  rcases Int.lt_or_le i 0 with h | h
  · clear hi
    go_enter Tryd.func34, Tryd.ntmps34
    go_wp2
    exact bodyPost_ret (v := .tuple #[.agg #[.string ⟨#[]⟩, .int .i64 0, .int .i64 0, .int .i64 0, .int .i64 0], .int .i64 111]) (by simp [results, Tryd.results34, go_sem]) rfl ⟨rfl, (Below.refl _ _).alloc (Nat.le_refl _) _⟩
  · have h2 : 29 ≤ i := by omega
    have h3 : ¬ i < 0 := by omega
    clear hi
    go_enter Tryd.func34, Tryd.ntmps34
    go_wp2
    exact bodyPost_ret (v := .tuple #[.agg #[.string ⟨#[]⟩, .int .i64 0, .int .i64 0, .int .i64 0, .int .i64 0], .int .i64 111]) (by simp [results, Tryd.results34, go_sem]) rfl ⟨rfl, (Below.refl _ _).alloc (Nat.le_refl _) _⟩
/-- A row's call, of any number: what it answers. -/
theorem rname_any (i : Int) (nm : List UInt8) (a b x p f : Int) (w : World) (h : Calls Tryd.prog 34 #[.int .i64 i] w fun e w' => e = .returned (.tuple #[.agg #[.string ⟨nm.toArray⟩, .int .i64 a, .int .i64 b, .int .i64 x, .int .i64 p], .int .i64 f]) ∧ Below w.heap.size w w') :
    Calls Tryd.prog 19 #[.int .i64 i] w fun e w' => e = .returned (.tuple #[.string ⟨nm.toArray⟩, .int .i64 f]) ∧ Below w.heap.size w w' := by
  have H := Aside0.mk h
  clear h
  go_enter Tryd.func19, Tryd.ntmps19
  go_wp2_with fail
  refine H.out.mono ?_
  rintro e w1 ⟨rfl, hb⟩
  go_wp2
  go_ret2
  exact ⟨rfl, hb.alloc hb.size _⟩
theorem roperands_any (i : Int) (nm : List UInt8) (a b x p f : Int) (w : World) (h : Calls Tryd.prog 34 #[.int .i64 i] w fun e w' => e = .returned (.tuple #[.agg #[.string ⟨nm.toArray⟩, .int .i64 a, .int .i64 b, .int .i64 x, .int .i64 p], .int .i64 f]) ∧ Below w.heap.size w w') :
    Calls Tryd.prog 21 #[.int .i64 i] w fun e w' => e = .returned (.tuple #[.int .i64 (if f = 0 then (if 0 ≤ a then 1 else 0) + (if 0 ≤ b then 1 else 0) else 0), .int .i64 f]) ∧ Below w.heap.size w w' := by
  have H := Aside0.mk h
  clear h
  by_cases hf : f = 0
  · subst hf
    rcases Int.lt_or_le a 0 with ha | ha <;> rcases Int.lt_or_le b 0 with hb | hb
    all_goals
      go_enter Tryd.func21, Tryd.ntmps21
      go_wp2_with fail
      refine H.out.mono ?_
      rintro e w1 ⟨rfl, hb⟩
      go_wp2
      go_ret2
      exact ⟨rfl, hb.alloc hb.size _⟩
  · have hf1 : (f != 0) = true := by simpa using hf
    go_enter Tryd.func21, Tryd.ntmps21
    go_wp2_with fail
    refine H.out.mono ?_
    rintro e w1 ⟨rfl, hb⟩
    go_wp2
    go_ret2
    exact ⟨by simp [hf], hb.alloc hb.size _⟩
theorem reffect_any (i : Int) (nm : List UInt8) (a b x p f : Int) (w : World) (h : Calls Tryd.prog 34 #[.int .i64 i] w fun e w' => e = .returned (.tuple #[.agg #[.string ⟨nm.toArray⟩, .int .i64 a, .int .i64 b, .int .i64 x, .int .i64 p], .int .i64 f]) ∧ Below w.heap.size w w') :
    Calls Tryd.prog 23 #[.int .i64 i] w fun e w' => e = .returned (.tuple #[.int .i64 x, .int .i64 p, .int .i64 f]) ∧ Below w.heap.size w w' := by
  have H := Aside0.mk h
  clear h
  go_enter Tryd.func23, Tryd.ntmps23
  go_wp2_with fail
  refine H.out.mono ?_
  rintro e w1 ⟨rfl, hb⟩
  go_wp2
  go_quiet (fail)
  go_wp2
  go_ret3
  exact ⟨rfl, pw_below_drewN (hb.alloc hb.size _) _⟩
end
end Go.Proofs.YtknlcpojglhbnaaDoor.Pure
