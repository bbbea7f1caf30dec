/- Own text: the walks of code.Name, Operands, Effect, Valid and the reference's. -/
import Derived.Test.YtknlcpojglhbnaaDoorTab
import Derived.Test.YtknlcpojglhbnaaDoorPCodeFindsx0
import Derived.Outline
import Derived.WalkKit
import Derived.Below
import Derived.BigQuiet
import Derived.Deep.QuietTactic
import Derived.Laws.Tables
import Derived.Laws.CopyOwn
import Derived.Deep.DeepMust
namespace Go.Proofs.YtknlcpojglhbnaaDoor.Pure
open Go.RowKit Go.Proofs.YtknlcpojglhbnaaDoorW.PrintWords Go.Proofs.YtknlcpojglhbnaaDoorW.PrintLast Go.Proofs.YtknlcpojglhbnaaDoorW.PrintMore
set_option linter.unusedVariables false
set_option linter.unusedSimpArgs false

theorem blk_lt' {w : World} {g : Nat} {o : Obj} (h : w.heap[g]? = some o) : g < w.heap.size := (Array.getElem?_eq_some_iff.1 h).1
def knownB (i : Int) : Bool := decide (0 ≤ i ∧ i < 29)
theorem knownB_in {i : Int} (h : 0 ≤ i ∧ i < 29) : knownB i = true := decide_eq_true h
theorem knownB_out {i : Int} (h : ¬ (0 ≤ i ∧ i < 29)) : knownB i = false := decide_eq_false h
theorem known_any (i : Int) (w : World) : Calls Tryd.prog 33 #[.int .i64 i] w fun e w' => e = .returned (.bool (knownB i)) ∧ w' = w := by
  by_cases h0 : 0 ≤ i
  · by_cases h1 : i < 29
    · have e : Aside0 (knownB i = true) := ⟨knownB_in ⟨h0, h1⟩⟩
      go_enter Tryd.func33, Tryd.ntmps33
      go_wp2
      go_ret
      exact ⟨by rw [e.out]; rfl, rfl⟩
    · have e : Aside0 (knownB i = false) := ⟨knownB_out (by omega)⟩
      go_enter Tryd.func33, Tryd.ntmps33
      go_wp2
      go_ret
      exact ⟨by rw [e.out]; rfl, rfl⟩
  · have e : Aside0 (knownB i = false) := ⟨knownB_out (by omega)⟩
    go_enter Tryd.func33, Tryd.ntmps33
    go_wp2
    go_ret
    exact ⟨by rw [e.out]; rfl, rfl⟩
section
variable (t t2 : TypeId) (fr fr2 : Nat × Nat)
set_option maxHeartbeats 1000000 in
set_option maxRecDepth 100000 in
theorem name_in (i : Nat) (hi : i < 29) (w : World) (hK : w.heap[0]? = some (.cells kA t fr)) :
    Calls Tryd.prog 18 #[.int .i64 i] w fun e w' => e = .returned (.tuple #[.string ⟨(kat i).nm.toArray⟩, .int .i64 0]) ∧ w' = w := by
  have hc : w.cell? ⟨0, i * 6, none⟩ = some (.string ⟨(kat i).nm.toArray⟩) := (cell_of_row w 0 (i * 6) kA t fr hK).trans (kA_get i 0 hi (by omega))
  have HE : Aside0 (knownB (i : Int) = true) := ⟨knownB_in (by omega)⟩
  clear hK
  go_enter Tryd.func18, Tryd.ntmps18
  go_wp2_with (go_at_call 33; refine (known_any _ _).mono ?_; rintro e w' ⟨rfl, rfl⟩; rw [HE.out])
  go_ret2
  exact ⟨rfl, rfl⟩
set_option maxHeartbeats 1000000 in
set_option maxRecDepth 100000 in
theorem name_out (i : Int) (hi : ¬ (0 ≤ i ∧ i < 29)) (w : World) :
    Calls Tryd.prog 18 #[.int .i64 i] w fun e w' => e = .returned (.tuple #[.string ⟨#[]⟩, .int .i64 111]) ∧ w' = w := by
  have HE : Aside0 (knownB i = false) := ⟨knownB_out hi⟩
  clear hi
  go_enter Tryd.func18, Tryd.ntmps18
  go_wp2_with (go_at_call 33; refine (known_any _ _).mono ?_; rintro e w' ⟨rfl, rfl⟩; rw [HE.out])
  go_ret2
  exact ⟨rfl, rfl⟩
set_option maxHeartbeats 1000000 in
set_option maxRecDepth 100000 in
theorem operands_in (i : Nat) (hi : i < 29) (w : World) (hK : w.heap[0]? = some (.cells kA t fr)) :
    Calls Tryd.prog 20 #[.int .i64 i] w fun e w' => e = .returned (.tuple #[.int .i64 (kat i).n, .int .i64 0]) ∧ w' = w := by
  have hc : w.cell? ⟨0, i * 6 + 1, none⟩ = some (.int .i64 (kat i).n) := (cell_of_row w 0 (i * 6 + 1) kA t fr hK).trans (kA_get i 1 hi (by omega))
  have HE : Aside0 (knownB (i : Int) = true) := ⟨knownB_in (by omega)⟩
  clear hK
  go_enter Tryd.func20, Tryd.ntmps20
  go_wp2_with (go_at_call 33; refine (known_any _ _).mono ?_; rintro e w' ⟨rfl, rfl⟩; rw [HE.out])
  go_ret2
  exact ⟨rfl, rfl⟩
set_option maxHeartbeats 1000000 in
set_option maxRecDepth 100000 in
theorem operands_out (i : Int) (hi : ¬ (0 ≤ i ∧ i < 29)) (w : World) :
    Calls Tryd.prog 20 #[.int .i64 i] w fun e w' => e = .returned (.tuple #[.int .i64 0, .int .i64 111]) ∧ w' = w := by
  have HE : Aside0 (knownB i = false) := ⟨knownB_out hi⟩
  clear hi
  go_enter Tryd.func20, Tryd.ntmps20
  go_wp2_with (go_at_call 33; refine (known_any _ _).mono ?_; rintro e w' ⟨rfl, rfl⟩; rw [HE.out])
  go_ret2
  exact ⟨rfl, rfl⟩
set_option maxHeartbeats 1000000 in
set_option maxRecDepth 100000 in
theorem effect_in (i : Nat) (hi : i < 29) (w : World) (hK : w.heap[0]? = some (.cells kA t fr)) :
    Calls Tryd.prog 22 #[.int .i64 i] w fun e w' => e = .returned (.tuple #[.int .i64 (kat i).t, .int .i64 (kat i).p, .int .i64 0]) ∧ Drawn0 w w' := by
  have hc : w.cell? ⟨0, i * 6 + 4, none⟩ = some (.int .i64 (kat i).t) := (cell_of_row w 0 (i * 6 + 4) kA t fr hK).trans (kA_get i 4 hi (by omega))
  have hc2 : w.cell? ⟨0, i * 6 + 5, none⟩ = some (.int .i64 (kat i).p) := (cell_of_row w 0 (i * 6 + 5) kA t fr hK).trans (kA_get i 5 hi (by omega))
  have HE : Aside0 (knownB (i : Int) = true) := ⟨knownB_in (by omega)⟩
  clear hK
  go_enter Tryd.func22, Tryd.ntmps22
  go_wp2_with (go_at_call 33; refine (known_any _ _).mono ?_; rintro e w' ⟨rfl, rfl⟩; rw [HE.out])
  go_quiet (fail)
  go_wp2
  go_ret3
  exact ⟨rfl, by repeat (first | exact Drawn0.refl _ | apply Drawn0.step)⟩
set_option maxHeartbeats 1000000 in
set_option maxRecDepth 100000 in
theorem effect_out (i : Int) (hi : ¬ (0 ≤ i ∧ i < 29)) (w : World) :
    Calls Tryd.prog 22 #[.int .i64 i] w fun e w' => e = .returned (.tuple #[.int .i64 0, .int .i64 0, .int .i64 111]) ∧ w' = w := by
  have HE : Aside0 (knownB i = false) := ⟨knownB_out hi⟩
  clear hi
  go_enter Tryd.func22, Tryd.ntmps22
  go_wp2_with (go_at_call 33; refine (known_any _ _).mono ?_; rintro e w' ⟨rfl, rfl⟩; rw [HE.out])
  go_ret3
  exact ⟨rfl, rfl⟩
end
end Go.Proofs.YtknlcpojglhbnaaDoor.Pure
