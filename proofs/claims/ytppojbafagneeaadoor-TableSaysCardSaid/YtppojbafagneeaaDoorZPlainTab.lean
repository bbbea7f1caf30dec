/- Own text, for this claim: plain()'s blocks read as its table, and so behind a store into its second row. -/
import Derived.Test.YtppojbafagneeaaDoorZLawTab
namespace Go.Proofs.YtppojbafagneeaaDoor.Pure
open Go.RowKit Go.Maps Go.ChangeShapes Go.WideShapes Go.Proofs.YtppojbafagneeaaDoor.PTab Go.Proofs.YtppojbafagneeaaDoorW.PrintWords Go.Proofs.YtppojbafagneeaaDoorW.PrintLast Go.Proofs.YtppojbafagneeaaDoorW.PrintMore
set_option linter.unusedVariables false
set_option linter.unusedSimpArgs false
theorem C_block {α : Type} (d : Kd α) {w : World} {g t : Nat} {cs : Array Value} {xs : List α} (hb : w.heap[g]? = some (.cells cs t (0, 0))) (hx : xs.length ≤ 9223372036854775807)
  (h : ∀ j p, xs[j]? = some p → ∃ c, c.length = d.sz ∧ d.K w p c ∧ ∀ i u, c[i]? = some u → cs[j * d.sz + i]? = some u) : d.C w (some ⟨g, 0, none⟩) xs.length xs := by
 refine ⟨rfl, hx, fun _ => ⟨_, rfl, fun j p hp => ?_⟩⟩
 obtain ⟨c, h1, h2, h3⟩ := h j p hp
 exact ⟨c, h1, h2, fun i u hu => by rw [Go.Proofs.YtppojbafagneeaaDoorW.PrintWords.add_plain]; exact (yR hb _).trans (h3 i u hu)⟩
theorem C_row2 {w : World} {g : Nat} (x0 y0 : Bool) (x1 y1 : Int) (hb : w.heap[g]? = some (.cells #[.bool x0, .int .i64 x1, .bool y0, .int .i64 y1] 52 (0, 0))) : k52.C w (some ⟨g, 0, none⟩) ([(⟨x0, x1⟩ : S52), ⟨y0, y1⟩] : List S52).length [⟨x0, x1⟩, ⟨y0, y1⟩] := by
 refine C_block k52 hb (by simp) (fun j p hp => ?_)
 match j, hp with
 | 0, hp =>
  cases hp
  refine ⟨_, rfl, k52_mk _ _, fun i u hu => ?_⟩
  match i, hu with
  | 0, hu => exact hu
  | 1, hu => exact hu
 | 1, hp =>
  cases hp
  refine ⟨_, rfl, k52_mk _ _, fun i u hu => ?_⟩
  match i, hu with
  | 0, hu => exact hu
  | 1, hu => exact hu
theorem PB.tb {w : World} {b g0 g1 g2 g3 gO : Nat} {x0 y0 : Bool} {x1 y1 : Int} (h : PB w b g0 g1 g2 g3 gO #[.bool x0, .int .i64 x1, .bool y0, .int .i64 y1]) :
  TB w (some ⟨g0, 0, none⟩) 2 pN (some ⟨gO, 0, none⟩) 3 [[⟨true, 5⟩, ⟨true, -7⟩], [⟨x0, x1⟩, ⟨y0, y1⟩], [⟨false, 0⟩, ⟨false, 0⟩]] := by
 refine ⟨?_, by decide, ?_, by simp⟩
 ·refine C_block Kd.string (xs := pN) h.names (by decide) (fun j p hp => ?_)
  match j, hp with
  | 0, hp =>
   cases hp
   exact ⟨[_], rfl, rfl, fun i u hu => by match i, hu with | 0, hu => exact hu⟩
  | 1, hp =>
   cases hp
   exact ⟨[_], rfl, rfl, fun i u hu => by match i, hu with | 0, hu => exact hu⟩
 ·refine C_block (Kd.slice 52 k52) h.out (by simp) (fun j p hp => ?_)
  match j, hp with
  | 0, hp =>
   cases hp
   exact ⟨[_], rfl, ⟨_, _, rfl, Nat.le_refl _, C_row2 _ _ _ _ h.r1⟩, fun i u hu => by match i, hu with | 0, hu => exact hu⟩
  | 1, hp =>
   cases hp
   exact ⟨[_], rfl, ⟨_, _, rfl, Nat.le_refl _, C_row2 _ _ _ _ h.r2⟩, fun i u hu => by match i, hu with | 0, hu => exact hu⟩
  | 2, hp =>
   cases hp
   exact ⟨[_], rfl, ⟨_, _, rfl, Nat.le_refl _, C_row2 _ _ _ _ h.r3⟩, fun i u hu => by match i, hu with | 0, hu => exact hu⟩
theorem PB.below {w w1 : World} {b g0 g1 g2 g3 gO : Nat} {c : Array Value} (h : PB w b g0 g1 g2 g3 gO c) (hb : Below w.heap.size w w1) : PB w1 b g0 g1 g2 g3 gO c :=
 ⟨yC h.names hb, yC h.r1 hb, yC h.r2 hb, yC h.r3 hb, yC h.out hb, h.base, h.n12, h.n32⟩
end Go.Proofs.YtppojbafagneeaaDoor.Pure
