/- Own text: the program's table code.kinds, as it stands in any world behind the first: its contracts in the printed callers' form. -/
import Derived.Test.YtknlcpojglhbnaaDoorValid
namespace Go.Proofs.YtknlcpojglhbnaaDoor.Pure
open Go.RowKit Go.ChangeShapes Go.WideShapes Go.Proofs.YtknlcpojglhbnaaDoorW.PrintWords Go.Proofs.YtknlcpojglhbnaaDoorW.PrintLast Go.Proofs.YtknlcpojglhbnaaDoorW.PrintMore
set_option linter.unusedVariables false
set_option linter.unusedSimpArgs false
/-- The program's table stands. -/
def Gl (w : World) : Prop := ∃ t fr, w.heap[0]? = some (.cells kA t fr)
theorem Gl.below {w w1 : World} (h : Gl w) (hb : Below w.heap.size w w1) : Gl w1 := by
  obtain ⟨t, fr, hK⟩ := h
  exact ⟨t, fr, (hb.block 0 (blk_lt' hK)).trans hK⟩
/-- How many operands an operation has. -/
def opn (i : Int) : Int := (kat i.toNat).n
theorem Gl.opn {w : World} (h : Gl w) {i : Int} (hi : 0 ≤ i ∧ i < 29) : w.cell? ⟨0, i.toNat * 6 + 1, none⟩ = some (.int .i64 (opn i)) := by
  obtain ⟨t, fr, hK⟩ := h
  exact (cell_of_row w 0 (i.toNat * 6 + 1) kA t fr hK).trans (kA_get i.toNat 1 (by omega) (by omega))
theorem valid_op {i x y : Int} (h : valid i x y = 0) : 0 ≤ i ∧ i < 29 := by
  unfold valid at h
  split at h
  · rename_i g; exact ⟨g.1, g.2.1⟩
  · cases h
theorem valid_gl (i x y r : Int) (w : World) (h : some (valid i x y) = some r) (hG : Gl w) :
    Calls Tryd.prog 16 #[.agg #[.int .i64 i, .int .i64 x, .int .i64 y]] w fun e w' => e = .returned (.int .i64 r) ∧ Below w.heap.size w w' := by
  cases h
  obtain ⟨t, fr, hK⟩ := hG
  exact valid_any i x y w t fr hK
/-- What Operands answers. -/
def opsOf2 (i : Int) : Int × Int := if 0 ≤ i ∧ i < 29 then (opn i, 0) else (0, 111)
theorem operands_gl (i r1 r2 : Int) (w : World) (h : some (opsOf2 i) = some (r1, r2)) (hG : Gl w) :
    Calls Tryd.prog 20 #[.int .i64 i] w fun e w' => e = .returned (.tuple #[.int .i64 r1, .int .i64 r2]) ∧ Drawn0 w w' := by
  obtain ⟨t, fr, hK⟩ := hG
  unfold opsOf2 at h
  by_cases hi : 0 ≤ i ∧ i < 29
  · rw [if_pos hi] at h
    cases h
    obtain ⟨j, rfl⟩ : ∃ j : Nat, i = j := ⟨i.toNat, by omega⟩
    refine (operands_in t fr j (by omega) w hK).mono ?_
    rintro e w' ⟨rfl, rfl⟩
    exact ⟨by unfold opn; rw [Int.toNat_natCast], Drawn0.refl _⟩
  · rw [if_neg hi] at h
    cases h
    refine (operands_out i hi w).mono ?_
    rintro e w' ⟨rfl, rfl⟩
    exact ⟨rfl, Drawn0.refl _⟩
end Go.Proofs.YtknlcpojglhbnaaDoor.Pure
