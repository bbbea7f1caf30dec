/- Own text, for this claim: words for the tables: a row that is told with two elements more behind its end; a slice that is made with a capacity; what the law's variable holds. -/
import Derived.Test.YtppojbafagneeaaDoorZQTab1
import Derived.Test.YtppojbafagneeaaDoorRows
import Derived.ProofKit
import Derived.LaidMore
import Derived.WalkSpells
import Derived.Stop.Joined
namespace Go.Proofs.YtppojbafagneeaaDoor.Pure
open Go.RowKit Go.ChangeShapes Go.WideShapes Go.ChangeAt Go.Proofs.YtppojbafagneeaaDoorW.PrintWords
set_option linter.unusedVariables false
set_option linter.unusedSimpArgs false
def Gl (w : World) : Prop := w.var? Tryd.prog "payoff/payofflaw05.behind" = some #[.bool true, .int .i64 (-77177)]
theorem var_below {P : Program} {w w1 : World} {n : String} {cs : Array Value} (h : w.var? P n = some cs) (hb : Below w.heap.size w w1) : w1.var? P n = some cs := by
 unfold World.var? at h ⊢
 cases hg : P.globalNamed n with
 | none => simp [hg] at h
 | some g =>
  simp only [hg, Option.bind_some] at h ⊢
  have hlt : g < w.heap.size := by
   rcases Nat.lt_or_ge g w.heap.size with h' | h'
   ·exact h'
   ·simp [Array.getElem?_eq_none h'] at h
  rw [hb.block g hlt]; exact h
theorem Gl.below {w w1 : World} (h : Gl w) (hb : Below w.heap.size w w1) : Gl w1 := var_below h hb
theorem gBeh : Tryd.prog.globalNamed "payoff/payofflaw05.behind" = some 0 := by kernel_rfl
theorem tBeh : (Tryd.prog.globals[0]?).map (·.type) = some 52 := by kernel_rfl
theorem Gl.c0 {w : World} (h : Gl w) : w.cell? ⟨0, 0, none⟩ = some (.bool true) := World.var?_cell gBeh h 0
theorem Gl.c1 {w : World} (h : Gl w) : w.cell? ⟨0, 1, none⟩ = some (.int .i64 (-77177)) := World.var?_cell gBeh h 1
theorem of_head {W : World} {rest : List (String × DataW Unit)} (h : laidMet Tryd.prog (("payoff/payofflaw05.behind", Rows.laid_payoff_payofflaw05_behind) :: rest) W) : Gl W := by
 obtain ⟨ps, ⟨g', t', cs, fuel, p, q, hg', ht', hvar, hd, _, _⟩, _⟩ := h
 obtain rfl := Option.some.inj (gBeh.symm.trans hg')
 obtain rfl := Option.some.inj (tBeh.symm.trans ht')
 unfold Gl
 rw [hvar]
 obtain ⟨y0, y1, n, hx, hl, h0, h1⟩ := trod_struct2 Tryd.underlying52 hd
 obtain ⟨b, e0, rfl⟩ := DataW.trod_bool Tryd.underlying4 h0
 obtain ⟨z, e1, rfl, _⟩ := DataW.trod_int Tryd.underlying3 h1
 have hC : Tryd.prog.cellsOf 52 = 2 := by kernel_rfl
 have hC4 : Tryd.prog.cellsOf 4 = 1 := by kernel_rfl
 have hC3 : Tryd.prog.cellsOf 3 = 1 := by kernel_rfl
 rw [hC] at hl
 have e0 : (cs.toList.drop 0).take (Tryd.prog.cellsOf 4) = [.bool b] := e0
 have e1 : (cs.toList.drop 1).take (Tryd.prog.cellsOf 3) = [.int .i64 z] := e1
 rw [hC4] at e0
 rw [hC3] at e1
 obtain ⟨L⟩ := cs
 have hl : L.length = 2 := hl
 have e0 : (L.drop 0).take 1 = [.bool b] := e0
 have e1 : (L.drop 1).take 1 = [.int .i64 z] := e1
 obtain ⟨u, v, rfl⟩ : ∃ u v, L = [u, v] := by
  rcases L with _ | ⟨u, _ | ⟨v, _ | ⟨x, r⟩⟩⟩
  ·cases hl
  ·cases hl
  ·exact ⟨u, v, rfl⟩
  ·simp at hl
 have g0 : u = .bool b := (List.cons.inj e0).1
 have g1 : v = .int .i64 z := (List.cons.inj e1).1
 clear e0 e1
 subst g0
 subst g1
 have h5 : (Rows.laid_payoff_payofflaw05_behind : DataW Unit) = .agg [.lit (.bool b), .lit (.int .i64 z)] := congrArg Prod.fst hx
 unfold Rows.laid_payoff_payofflaw05_behind at h5
 simp only [DataW.agg.injEq, List.cons.injEq, DataW.lit.injEq, Lit.bool.injEq, Lit.int.injEq, and_true, true_and] at h5
 obtain ⟨h6, h7⟩ := h5
 rw [← h6, ← h7]
end Go.Proofs.YtppojbafagneeaaDoor.Pure
namespace Go.Proofs.YtppojbafagneeaaDoor.PTab
open Go.RowKit Go.Proofs.YtppojbafagneeaaDoorW.PrintWords Go.Proofs.YtppojbafagneeaaDoorW.PrintLast Go.Proofs.YtppojbafagneeaaDoorW.PrintMore
set_option linter.unusedVariables false
set_option linter.unusedSimpArgs false
theorem nil22 (A : Option Addr) (n c : Nat) (w : World) : (binOp .eql 22 (.slice A n c) (.slice none 0 0)).run Tryd.prog w = .ok (.bool A.isNone) w := Lib.run_eql_slice_nil w 22 9 A n c 0 0 Tryd.underlying22
theorem nil23 (A : Option Addr) (n c : Nat) (w : World) : (binOp .eql 23 (.slice A n c) (.slice none 0 0)).run Tryd.prog w = .ok (.bool A.isNone) w := Lib.run_eql_slice_nil w 23 54 A n c 0 0 Tryd.underlying23
theorem own_cut {α : Type} {d : Kd α} {e : Nat} {w : World} {base n m : Nat} {ok : Nat → Prop} {A : Option Addr} {c : Nat} {xs : List α} (h : d.R e w base ok (.slice A n c) xs) (hn : Aside0 (m + 2 = n)) : ((m : Int) ≤ (c : Int)) = True := by
 obtain ⟨A', c', e', hl, -⟩ := Kd.R_reads h
 injection e' with f1 f2 f3
 have := hn.out
 subst f2 f3
 exact eq_true (by omega)
def cut2 {α : Type} (e : Nat) (d : Kd α) : Kd (List α) where
 sz := 1
 E := e :: d.E
 K := fun w xs cs => ∃ A c, cs = [.slice A (xs.length - 2) c] ∧ 2 ≤ xs.length ∧ xs.length ≤ c ∧ d.C w A xs.length xs
 M := fun w base ok xs cs => ∃ A c, cs = [.slice A (xs.length - 2) c] ∧ 2 ≤ xs.length ∧ d.R e w base ok (.slice A xs.length c) xs
 K_len := by
  rintro w x cs ⟨A, c, rfl, _⟩
  rfl
 K_one := by
  rintro w x cs ⟨A, c, rfl, _⟩ u hu
  rw [List.mem_singleton.1 hu]
  rfl
 K_below := by
  rintro w w1 x cs hb ⟨A, c, rfl, h2, hl, hr⟩
  exact ⟨A, c, rfl, h2, hl, Kd.C_below hr hb⟩
 K_of_M := by
  rintro w base ok x cs ⟨A, c, rfl, h2, h⟩
  obtain ⟨A', c', e', hl, hr⟩ := Kd.R_reads h
  injection e' with f1 f2 f3
  subst f1 f3
  exact ⟨A, c, rfl, h2, hl, hr⟩
 M_mono := by
  rintro w base ok ok' x cs hok ⟨A, c, rfl, h2, h⟩
  exact ⟨A, c, rfl, h2, Kd.R_mono h hok⟩
 M_bound := by
  rintro w base ok x cs ⟨A, c, rfl, h2, h⟩
  exact ⟨A, c, rfl, h2, Kd.R_bound h⟩
 M_move := by
  rintro w w1 base ok x cs hm ⟨A, c, rfl, h2, h⟩
  exact ⟨A, c, rfl, h2, Kd.R_move h hm⟩
 M_lower := by
  rintro w base base' ok x cs hb ⟨A, c, rfl, h2, h⟩
  exact ⟨A, c, rfl, h2, Kd.R_lower h hb⟩
theorem cut2_row {α : Type} {e : Nat} {d : Kd α} {w : World} {base m : Nat} {ok : Nat → Prop} {A : Option Addr} {c : Nat} {xs : List α} (hm : Aside0 (m + 2 = xs.length)) (h : d.R e w base ok (.slice A xs.length c) xs) : (cut2 e d).M w base ok xs [.slice A m c] := by
 have h1 := hm.out
 exact ⟨A, c, by rw [show xs.length - 2 = m by omega], by omega, h⟩
theorem C_take {α : Type} {d : Kd α} {w : World} {A : Option Addr} {n m : Nat} {xs : List α} (h : d.C w A n xs) (hm : m ≤ n) : d.C w A m (xs.take m) := by
 obtain ⟨h1, h2, h3⟩ := h
 refine ⟨by rw [List.length_take]; omega, by omega, fun h0 => ?_⟩
 obtain ⟨ad, e, hc⟩ := h3 (by omega)
 refine ⟨ad, e, fun j p hj => hc j p ?_⟩
 rw [List.getElem?_take] at hj
 split at hj
 ·exact hj
 ·cases hj
theorem C_map {α β : Type} {d : Kd α} {d' : Kd β} (f : α → β) (hs : d.sz = d'.sz) {w : World} {A : Option Addr} {n : Nat} {xs : List α} (h : d.C w A n xs) (hK : ∀ x cs, d.K w x cs → d'.K w (f x) cs) : d'.C w A n (xs.map f) := by
 obtain ⟨h1, h2, h3⟩ := h
 refine ⟨by rw [List.length_map]; exact h1, h2, fun h0 => ?_⟩
 obtain ⟨ad, e, hc⟩ := h3 h0
 refine ⟨ad, e, fun j p hj => ?_⟩
 rw [List.getElem?_map] at hj
 obtain ⟨x, hx, rfl⟩ := Option.map_eq_some_iff.1 hj
 obtain ⟨c, c1, c2, c3⟩ := hc j x hx
 exact ⟨c, c1.trans hs, hK x c c2, by rw [← hs]; exact c3⟩
def short {α : Type} (r : List α) : List α := r.take (r.length - 2)
theorem short_app {α : Type} (r : List α) (x y : α) : short (r ++ [x, y]) = r := by
 unfold short
 rw [List.length_append]
 simp
theorem cut2_read {α : Type} {e : Nat} {d : Kd α} {w : World} {A : Option Addr} {n : Nat} {xs : List (List α)} (h : (cut2 e d).C w A n xs) : (Kd.slice e d).C w A n (xs.map short) :=
 C_map (d := cut2 e d) (d' := Kd.slice e d) short rfl h (by
  rintro x cs ⟨A, c, rfl, h2, hl, hr⟩
  have hsl : (short x).length = x.length - 2 := by unfold short; rw [List.length_take]; omega
  refine ⟨A, c, by rw [hsl], by rw [hsl]; omega, ?_⟩
  rw [hsl]
  exact C_take hr (by omega))
section
variable {P : Program} {ops : Array Oper} {rest : List Oper} {o : Oper} {a : Act} {Q : Exit → Act → World → Prop}
theorem R_makec {α : Type} (d : Kd α) {w0 W : World} (base e : Nat) (hgd : o.guard = none) {N : Tmp} (hd : o.dst = some N) (t : TypeId) (x y : Operand) (ho : o.op = .makeSlice t x y) (c : Int) (hx : a.eval x = .int .i64 0) (hy : a.eval y = .int .i64 c)
  (ht : P.underlying t = some (.slice e)) (z : Value) (bytes : Nat) (hinfo : (P.info? e).map (fun i => (i.zero, i.size, i.bytes)) = some (some z, d.sz, bytes)) (hz : z.cells.size = d.sz) (hs0 : 0 < d.sz) (hb0 : 0 < bytes)
  (z0 : α) {ok : Nat → Prop} (hfresh : ok W.heap.size) (h0 : 0 ≤ c) (hl : c.toNat * bytes ≤ 140737488355328) (HB : Below base w0 W) (hbase : base ≤ W.heap.size)
  (h : ∀ v1 w1, d.R e w1 base ok v1 (List.replicate 0 z0) → Below base w0 w1 → W.grownBy w1 none → (∃ b, v1.ownBlock = some b ∧ W.heap.size ≤ b) → wpList P ops Q rest (a.put o.dst v1) w1) : wpList P ops Q (o :: rest) a W := by
 obtain ⟨m, rfl⟩ := Int.eq_ofNat_of_zero_le h0
 simp only [Int.toNat_natCast] at hl
 obtain ⟨i0, hi, hzz⟩ := Option.map_eq_some_iff.1 hinfo
 simp only [Prod.mk.injEq] at hzz
 obtain ⟨hz0, hz1, hz2⟩ := hzz
 have hm : m ≤ 140737488355328 := Nat.le_trans (Nat.le_mul_of_pos_right _ hb0) hl
 have hr := run_make (P := P) W t e i0 z ht hi hz0 .i64 .i64 0 (m : Int) (by omega) (by omega)
  (by
   have h3 : ((i0.bytes * m : Nat) : Int) ≤ 281474976710656 := by rw [hz2, Nat.mul_comm]; omega
   rwa [Int.natCast_mul] at h3) (by omega)
 simp only [Int.toNat_natCast] at hr
 rw [hz1] at hr
 have hrun : (execOp a.eval o).run P W = .ok (.value (.slice (some ⟨W.heap.size, 0, none⟩) (0 : Int).toNat m)) (W.alloc (.cells (madeCells z.cells (m * d.sz)) e)) := by
  simp [execOp, ho, hx, hy, hr]
 refine wpList_plain hgd fun K hK => ?_
 unfold Oper.wp
 rw [hrun]
 refine hK _ _ (h _ _ ⟨fun k hk => ?_, [], ⟨by simp, .inr ⟨W.heap.size, m, madeCells z.cells (m * d.sz), rfl, hbase, heap_alloc_new W _, Nat.zero_le _, by simp only [maxLen]; omega, ?_, ?_⟩⟩, Reps.none _ _⟩ (HB.alloc hbase _) (World.grownBy_alloc W _ none) ⟨W.heap.size, by simp [Value.ownBlock], Nat.le_refl _⟩)
 ·have : W.heap.size = k := by simpa [Value.ownBlock] using hk
  rw [← this]; exact hfresh
 ·show (madeCells _ _).size = m * d.sz; rw [size_madeCells]
 ·simp
theorem S_makec {α : Type} (d : Kd α) {w0 W : World} (base e : Nat) (hgd : o.guard = none) {N : Tmp} (hd : o.dst = some N) (t : TypeId) (x y : Operand) (ho : o.op = .makeSlice t x y) (c : Int) (hx : a.eval x = .int .i64 0) (hy : a.eval y = .int .i64 c)
  (ht : P.underlying t = some (.slice e)) (z : Value) (bytes : Nat) (hinfo : (P.info? e).map (fun i => (i.zero, i.size, i.bytes)) = some (some z, d.sz, bytes)) (hz : z.cells.size = d.sz) (hs0 : 0 < d.sz) (hb0 : 0 < bytes)
  (z0 : α) {ok : Nat → Prop} (hfresh : ok W.heap.size) (h0 : 0 ≤ c) (hl : c.toNat * bytes ≤ 140737488355328) (HB : Below base w0 W) (hbase : base ≤ W.heap.size)
  (h : ∀ v1 w1, Kd.S d e w1 base ok v1 (List.replicate 0 z0) → Below base w0 w1 → W.grownBy w1 none → (∃ b, v1.ownBlock = some b ∧ W.heap.size ≤ b) → wpList P ops Q rest (a.put o.dst v1) w1) : wpList P ops Q (o :: rest) a W :=
 R_makec (Kd.bare d) base e hgd hd t x y ho c hx hy ht z bytes hinfo hz hs0 hb0 z0 (ok := ok) hfresh h0 hl HB hbase (fun v1 w1 hr => h v1 w1 (Kd.S_bare hr))
end
end Go.Proofs.YtppojbafagneeaaDoor.PTab
