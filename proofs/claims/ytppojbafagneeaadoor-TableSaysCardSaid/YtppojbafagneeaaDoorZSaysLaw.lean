/- Own text, for this claim: TableSays: the law for every input. -/
import Derived.Test.YtppojbafagneeaaDoorZSaysWalk
import Derived.Test.YtppojbafagneeaaDoorZTabOpen
namespace Go.Proofs.YtppojbafagneeaaDoor.Pure
open Go.RowKit Go.Maps Go.ChangeShapes Go.WideShapes Go.Proofs.YtppojbafagneeaaDoor.PTab Go.Proofs.YtppojbafagneeaaDoorW.PrintWords Go.Proofs.YtppojbafagneeaaDoorW.PrintLast Go.Proofs.YtppojbafagneeaaDoorW.PrintMore
set_option linter.unusedVariables false
set_option linter.unusedSimpArgs false
section
variable {H : Type} {enc : TypeId × Value → H} {W : World} {spare : Nat → Bool} {held : Bool}
theorem cells_open_w {fuel : Nat} {v : Value} {y : DataW H × List MemPlace} (h : DataW.trod enc Tryd.prog W 0 spare held fuel 54 [v] = some y) (hw : WOk Tryd.prog 54 y.1) :
  ∃ A c l, v = .slice A l.length c ∧ l.length ≤ c ∧ k52.C W A l.length l ∧ l.length * 16 ≤ 140737488351232 ∧ ∀ x ∈ l, -9223372036854775808 ≤ x.f1 ∧ x.f1 ≤ 9223372036854775807 :=
 row_open z52 k52 (by decide) (fun x => -9223372036854775808 ≤ x.f1 ∧ x.f1 ≤ 9223372036854775807) Tryd.underlying54 (by kernel_rfl) (by kernel_rfl) (by decide) (fun n cs y hl h hw => by
  obtain ⟨y0, y1, m, -, hlen, h0, h1⟩ := trod_struct2 Tryd.underlying52 h
  obtain ⟨b, e0, -⟩ := DataW.trod_bool Tryd.underlying4 h0
  obtain ⟨z, e1, -, hz⟩ := DataW.trod_int Tryd.underlying3 h1
  have hC4 : Tryd.prog.cellsOf 4 = 1 := by kernel_rfl
  have hC3 : Tryd.prog.cellsOf 3 = 1 := by kernel_rfl
  have e0 : (cs.drop 0).take (Tryd.prog.cellsOf 4) = [.bool b] := e0
  have e1 : (cs.drop 1).take (Tryd.prog.cellsOf 3) = [.int .i64 z] := e1
  rw [hC4] at e0
  rw [hC3] at e1
  have hl : cs.length = 2 := hl
  rcases cs with _ | ⟨u, _ | ⟨v, _ | ⟨x, r⟩⟩⟩
  ·cases hl
  ·cases hl
  ·have g0 : u = .bool b := (List.cons.inj e0).1
   have g1 : v = .int .i64 z := (List.cons.inj e1).1
   subst g0
   subst g1
   exact ⟨⟨b, z⟩, k52_mk W _, wf64 hz⟩
  ·simp at hl) h hw
theorem rows_open_w {fuel : Nat} {v : Value} {y : DataW H × List MemPlace} (h : DataW.trod enc Tryd.prog W 0 spare held fuel 23 [v] = some y) (hw : WOk Tryd.prog 23 y.1) :
  ∃ A c l, v = .slice A l.length c ∧ l.length ≤ c ∧ (Kd.slice 52 k52).C W A l.length l ∧ l.length * 24 ≤ 140737488351232 ∧ ∀ x ∈ l, x.length * 16 ≤ 140737488351232 ∧ ∀ c ∈ x, -9223372036854775808 ≤ c.f1 ∧ c.f1 ≤ 9223372036854775807 :=
 row_open ([] : List S52) (Kd.slice 52 k52) (show 0 < 1 by decide) (fun x => x.length * 16 ≤ 140737488351232 ∧ ∀ c ∈ x, -9223372036854775808 ≤ c.f1 ∧ c.f1 ≤ 9223372036854775807) Tryd.underlying23 (by kernel_rfl) (by kernel_rfl) (by decide) (fun n cs y hl h hw => by
  have hl : cs.length = 1 := hl
  obtain ⟨u, rfl⟩ := List.length_eq_one_iff.1 hl
  obtain ⟨A, c, l, rfl, h1, h2, h3, h4⟩ := cells_open_w h hw
  exact ⟨l, ⟨A, c, rfl, h1, h2⟩, h3, h4⟩) h hw
set_option maxRecDepth 100000 in
theorem open_tabw {r : Reach} {b0 : Nat} {v : Value} {d : DataW H} {p : List MemPlace} (hv : Value.okWide Tryd.prog W r b0 25 v) (hw : WOk Tryd.prog 25 d) (h : DataW.Trod enc Tryd.prog W 0 spare held 25 v d p) :
  ∃ A0 c0 l0 A1 c1 l1, v = .agg #[.slice A0 l0.length c0, .slice A1 l1.length c1] ∧ Kd.string.C W A0 l0.length l0 ∧ l0.length ≤ c0 ∧ (Kd.slice 52 k52).C W A1 l1.length l1 ∧ l1.length ≤ c1 ∧
   l0.length * 16 ≤ 140737488351232 ∧ (∀ n ∈ l0, n.size ≤ 140737488351232) ∧ l1.length * 24 ≤ 140737488351232 ∧ (∀ x ∈ l1, x.length * 16 ≤ 140737488351232 ∧ ∀ c ∈ x, -9223372036854775808 ≤ c.f1 ∧ c.f1 ≤ 9223372036854775807) := by
 obtain ⟨v0, v1, y0, y1, n, rfl, rfl, -, t0, t1⟩ := Joins.open_agg2 Tryd.underlying25 (by kernel_rfl) (by kernel_rfl) hv h
 have w0 : WOk Tryd.prog 22 y0.1 := WOk.field (j := 0) Tryd.underlying25 hw rfl rfl
 have w1 : WOk Tryd.prog 23 y1.1 := WOk.field (j := 1) Tryd.underlying25 hw rfl rfl
 obtain ⟨A0, c0, l0, rfl, a1, a2, a3, a4⟩ := names_open t0 w0
 obtain ⟨A1, c1, l1, rfl, b1, b2, b3, b4⟩ := rows_open_w t1 w1
 exact ⟨A0, c0, l0, A1, c1, l1, rfl, a2, a1, b2, b1, a3, a4, b3, b4⟩
end
theorem TableSays_walk (A0 : Option Addr) (c0 : Nat) (l0 : List ByteArray) (A1 : Option Addr) (c1 : Nat) (l1 : List (List S52)) (B0 : Option Addr) (d0 : Nat) (m0 : List ByteArray) (B1 : Option Addr) (d1 : Nat) (m1 : List (List S52)) (nm : ByteArray) (day rows : Int) (w : World)
  (h0 : Kd.C Kd.string w A0 l0.length l0) (hc0 : l0.length ≤ c0) (h1 : Kd.C (Kd.slice 52 k52) w A1 l1.length l1) (hc1 : l1.length ≤ c1)
  (b0 : l0.length * 16 ≤ 140737488351232) (b1 : ∀ n ∈ l0, n.size ≤ 140737488351232) (b2 : l1.length * 24 ≤ 140737488351232) (b3 : ∀ r ∈ l1, r.length * 16 ≤ 140737488351232 ∧ ∀ c ∈ r, -9223372036854775808 ≤ c.f1 ∧ c.f1 ≤ 9223372036854775807)
  (g0 : Kd.C Kd.string w B0 m0.length m0) (gc0 : m0.length ≤ d0) (g1 : Kd.C (Kd.slice 52 k52) w B1 m1.length m1) (gc1 : m1.length ≤ d1)
  (e0 : m0.length * 16 ≤ 140737488351232) (e1 : ∀ n ∈ m0, n.size ≤ 140737488351232) (e2 : m1.length * 24 ≤ 140737488351232) (e3 : ∀ r ∈ m1, r.length * 16 ≤ 140737488351232 ∧ ∀ c ∈ r, -9223372036854775808 ≤ c.f1 ∧ c.f1 ≤ 9223372036854775807)
  (wn : nm.size ≤ 140737488351232) (wd : (Lit.int .i64 day).wf = true) (wr : (Lit.int .i64 rows).wf = true) (hG : GB w) :
  Calls Tryd.prog 15 #[.agg #[.slice A0 l0.length c0, .slice A1 l1.length c1], .agg #[.slice B0 m0.length d0, .slice B1 m1.length d1], .string nm, .int .i64 day, .int .i64 rows] w fun e w' => e = .returned (.bool true) ∧ Below w.heap.size w w' := by
 have hs : SmallT l0 l1 := ⟨by omega, b1, by omega, fun r hr => ⟨by have := (b3 r hr).1; omega, (b3 r hr).2⟩⟩
 have gs : SmallT m0 m1 := ⟨by omega, e1, by omega, fun r hr => ⟨by have := (e3 r hr).1; omega, (e3 r hr).2⟩⟩
 exact TableSays_walk0 A0 c0 l0 A1 c1 l1 B0 d0 m0 B1 d1 m1 nm day rows w ⟨h0, hc0, h1, hc1⟩ ⟨g0, gc0, g1, gc1⟩ hs gs hG
end Go.Proofs.YtppojbafagneeaaDoor.Pure
