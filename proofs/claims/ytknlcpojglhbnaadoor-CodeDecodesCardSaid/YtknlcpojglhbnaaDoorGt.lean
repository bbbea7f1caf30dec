/- Own text: both tables, as they stand in any world behind the first; the reference's row in the printed callers' form. -/
import Derived.Test.YtknlcpojglhbnaaDoorGl
namespace Go.Proofs.YtknlcpojglhbnaaDoor.Pure
open Go.RowKit Go.ChangeShapes Go.WideShapes Go.Proofs.YtknlcpojglhbnaaDoorW.PrintWords Go.Proofs.YtknlcpojglhbnaaDoorW.PrintLast Go.Proofs.YtknlcpojglhbnaaDoorW.PrintMore
set_option linter.unusedVariables false
set_option linter.unusedSimpArgs false
/-- Both tables stand. -/
def G2 (w : World) : Prop := Gl w ∧ ∃ t fr, w.heap[1]? = some (.cells tA t fr)
theorem G2.gl {w : World} (h : G2 w) : Gl w := h.1
theorem G2.below {w w1 : World} (h : G2 w) (hb : Below w.heap.size w w1) : G2 w1 := by
  obtain ⟨h0, t, fr, hT⟩ := h
  exact ⟨h0.below hb, t, fr, (hb.block 1 (blk_lt' hT)).trans hT⟩
/-- What the reference's row answers. -/
def rowOf (i : Int) : ByteArray × Int × Int × Int × Int × Int := if 0 ≤ i ∧ i < 29 then (⟨(kat i.toNat).nm.toArray⟩, (bat i.toNat).1, (bat i.toNat).2, (kat i.toNat).t, (kat i.toNat).p, 0) else (⟨#[]⟩, 0, 0, 0, 0, 111)
theorem row_gt (i : Int) (r1 : ByteArray) (r2 r3 r4 r5 r6 : Int) (w : World) (h : some (rowOf i) = some (r1, r2, r3, r4, r5, r6)) (hG : G2 w) :
    Calls Tryd.prog 34 #[.int .i64 i] w fun e w' => e = .returned (.tuple #[.agg #[.string r1, .int .i64 r2, .int .i64 r3, .int .i64 r4, .int .i64 r5], .int .i64 r6]) ∧ Below w.heap.size w w' := by
  obtain ⟨-, t, fr, hT⟩ := hG
  unfold rowOf at h
  by_cases hi : 0 ≤ i ∧ i < 29
  · rw [if_pos hi] at h
    cases h
    obtain ⟨j, rfl⟩ : ∃ j : Nat, i = j := ⟨i.toNat, by omega⟩
    rw [Int.toNat_natCast]
    exact row_in t fr j (by omega) w hT
  · rw [if_neg hi] at h
    cases h
    exact row_out i hi w
end Go.Proofs.YtknlcpojglhbnaaDoor.Pure
