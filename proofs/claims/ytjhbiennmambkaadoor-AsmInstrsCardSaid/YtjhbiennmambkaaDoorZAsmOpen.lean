/- Own text, for this claim: a program by value, as a law's argument: its lists, as they are read; how great they may be. -/
import Derived.Test.YtjhbiennmambkaaDoorZAsmLaw
import Derived.ProofKit
import Derived.SizedLaws
import Derived.Deep.Slices
import Derived.Lib.SmallJoins
namespace Go.Proofs.YtjhbiennmambkaaDoor.Pure
open Go.RowKit Go.ChangeShapes Go.WideShapes Go.ChangeAt Go.Proofs.YtjhbiennmambkaaDoor.PAsmInstrs Go.Proofs.YtjhbiennmambkaaDoor.PAsm Go.Proofs.YtjhbiennmambkaaDoorW.PrintWords
set_option linter.unusedVariables false
set_option linter.unusedSimpArgs false
theorem weightsAll_mem {H : Type} {P : Program} {e : TypeId} : ∀ {l : List (DataW H)} {d : DataW H}, d ∈ l → ∀ n ∈ d.weights P e, n ∈ DataW.weightsAll P e l
 | x :: l, d, hd, n, hn => by
  simp only [DataW.weightsAll, List.mem_append]
  rcases List.mem_cons.1 hd with rfl | h
  ·exact Or.inl hn
  ·exact Or.inr (weightsAll_mem h n hn)
def WOk {H : Type} (P : Program) (t : TypeId) (d : DataW H) : Prop := ∀ n ∈ d.weights P t, n ≤ 140737488351232
theorem WOk.of {H : Type} {P : Program} {ts : List TypeId} {ds : List (DataW H)} (h : (DataW.weightsEach P ts ds).all (· ≤ reachBytes) = true) {j : Nat} {t : TypeId} {d : DataW H} (ht : ts[j]? = some t) (hd : ds[j]? = some d) : WOk P t d := fun n hn => by
 have := List.all_eq_true.1 h _ (DataW.weights_mem_each ht hd n hn)
 exact yN this
theorem WOk.field {H : Type} {P : Program} {t u : TypeId} {fs : Array Field} {parts : List (DataW H)} {x : DataW H} {j : Nat} (hu : P.underlying t = some (.struct fs)) (hw : WOk P t (.agg parts)) (ht : (fs.toList.map (·.type))[j]? = some u) (hx : parts[j]? = some x) : WOk P u x :=
 fun n hn => hw n (by unfold DataW.weights; rw [hu]; exact DataW.weights_mem_each ht hx n hn)
section
variable {H : Type} {enc : TypeId × Value → H} {W : World} {spare : Nat → Bool} {held : Bool}
theorem row_open {α : Type} (z0 : α) (d : Kd α) (hs1 : 0 < d.sz) {t e : TypeId} {B : Nat} (Q : α → Prop) (hu : Tryd.prog.underlying t = some (.slice e)) (hce : Tryd.prog.cellsOf e = d.sz) (hB : Tryd.prog.bytesOf e = B) (hB0 : 0 < B)
  (each : ∀ n cs (y : DataW H × List MemPlace), cs.length = d.sz → DataW.trod enc Tryd.prog W 0 spare held n e cs = some y → WOk Tryd.prog e y.1 → ∃ x : α, d.K W x cs ∧ Q x)
  {fuel : Nat} {v : Value} {y : DataW H × List MemPlace} (h : DataW.trod enc Tryd.prog W 0 spare held fuel t [v] = some y) (hw : WOk Tryd.prog t y.1) :
  ∃ A c l, v = .slice A l.length c ∧ l.length ≤ c ∧ d.C W A l.length l ∧ l.length * B ≤ 140737488351232 ∧ ∀ x ∈ l, Q x := by
 haveI : Inhabited α := ⟨z0⟩
 rcases Deep.open_slice hu h with ⟨hcs, -⟩ | ⟨x, len, c, m, n, D, Pl, hcs, hb, hl, hm, hmm, hx, hel⟩
 ·obtain rfl := (List.cons.inj hcs).1
  exact ⟨none, 0, [], rfl, Nat.le_refl _, ⟨rfl, by simp, fun h => absurd h (by simp)⟩, by simp, fun x hx => by cases hx⟩
 ·obtain rfl := (List.cons.inj hcs).1
  subst hx
  have hwt : ((List.range len).map D).length * B ≤ 140737488351232 := by
   have := hw (((List.range len).map D).length * B + ((List.range (m - len)).map fun j => D (len + j)).length * B) (by
    rw [← Nat.add_mul, ← hB]
    simp [DataW.weights, hu])
   omega
  have hlm : len ≤ m := by rw [hmm]; split <;> omega
  have ea : ∀ i, i < len → ∃ q : α, (∃ cs', cs'.length = d.sz ∧ (∀ j u, cs'[j]? = some u → W.cell? (x.add (i * d.sz + j)) = some u) ∧ d.K W q cs') ∧ Q q := by
   intro i hi
   obtain ⟨cs', h1, h2⟩ := hel i (by omega)
   rw [hce] at h1
   obtain ⟨_, hlen, hcell⟩ := World.cells?_some h1
   obtain ⟨q, hK, hQ⟩ := each n cs' _ hlen h2 (fun k hk => hw k (by
    simp only [DataW.weights, hu, List.mem_cons, List.mem_append]
    exact Or.inr (Or.inl (weightsAll_mem (List.mem_map.2 ⟨i, List.mem_range.2 hi, rfl⟩) k hk))))
   refine ⟨q, ⟨cs', hlen, fun j u hj => ?_, hK⟩, hQ⟩
   have hjl : j < d.sz := by rw [← hlen]; exact (List.getElem?_eq_some_iff.1 hj).1
   have := hcell j (by omega)
   rw [Deep.add_add, hj] at this
   exact this
  obtain ⟨q, hq⟩ := Deep.choose_lt ea
  have hlr : ((List.range len).map q).length = len := by simp
  refine ⟨some x, c, (List.range len).map q, by rw [hlr], by rw [hlr]; exact hl, ?_, by simpa using hwt, fun p hp => ?_⟩
  ·rw [hlr]
   refine ⟨hlr, ?_, fun _ => ⟨x, rfl, fun j p hj => ?_⟩⟩
   ·simp only [maxLen] at hm; omega
   ·rw [List.getElem?_map] at hj
    obtain ⟨i, hi, rfl⟩ := Option.map_eq_some_iff.1 hj
    obtain ⟨hi1, hi2⟩ := List.getElem?_eq_some_iff.1 hi
    rw [List.getElem_range] at hi2
    subst hi2
    simp only [List.length_range] at hi1
    obtain ⟨⟨cs', a1, a2, a3⟩, -⟩ := hq j hi1
    exact ⟨cs', a1, a3, a2⟩
  ·obtain ⟨i, hi, rfl⟩ := List.mem_map.1 hp
   exact (hq i (List.mem_range.1 hi)).2
theorem array8 {α : Type} {cs : Array α} (h : cs.size = 8) : ∃ c0 c1 c2 c3 c4 c5 c6 c7, cs = #[c0, c1, c2, c3, c4, c5, c6, c7] := by
 obtain ⟨l⟩ := cs
 match l, h with
 | [c0, c1, c2, c3, c4, c5, c6, c7], _ => exact ⟨c0, c1, c2, c3, c4, c5, c6, c7, rfl⟩
theorem listE8 {α : Type} {l : List α} (h : l.length = 8) : ∃ c0 c1 c2 c3 c4 c5 c6 c7, l = [c0, c1, c2, c3, c4, c5, c6, c7] := by
 match l, h with
 | [c0, c1, c2, c3, c4, c5, c6, c7], _ => exact ⟨c0, c1, c2, c3, c4, c5, c6, c7, rfl⟩
theorem open_agg8 {P : Program} {r : Reach} {base b0 : Nat} {t : TypeId} {f0 f1 f2 f3 f4 f5 f6 f7 : Field} {v : Value} {d : DataW H} {p : List MemPlace} (hs : P.underlying t = some (.struct #[f0, f1, f2, f3, f4, f5, f6, f7])) (hone : Deep.oneCellFields P #[f0, f1, f2, f3, f4, f5, f6, f7] = true) (hC : P.cellsOf t = 8)
  (hv : Value.okWide P W r b0 t v) (h : DataW.Trod enc P W base spare held t v d p) :
  ∃ (c0 c1 c2 c3 c4 c5 c6 c7 : Value) (y0 y1 y2 y3 y4 y5 y6 y7 : DataW H × List MemPlace) (n : Nat), v = .agg #[c0, c1, c2, c3, c4, c5, c6, c7] ∧ d = .agg [y0.1, y1.1, y2.1, y3.1, y4.1, y5.1, y6.1, y7.1] ∧ DataW.trod enc P W base spare held n f0.type [c0] = some y0 ∧ DataW.trod enc P W base spare held n f1.type [c1] = some y1 ∧ DataW.trod enc P W base spare held n f2.type [c2] = some y2 ∧ DataW.trod enc P W base spare held n f3.type [c3] = some y3 ∧ DataW.trod enc P W base spare held n f4.type [c4] = some y4 ∧ DataW.trod enc P W base spare held n f5.type [c5] = some y5 ∧ DataW.trod enc P W base spare held n f6.type [c6] = some y6 ∧ DataW.trod enc P W base spare held n f7.type [c7] = some y7 := by
 obtain ⟨cs, rfl, hsz⟩ := okWide_struct hs hv
 obtain ⟨c0, c1, c2, c3, c4, c5, c6, c7, rfl⟩ := array8 (hsz.trans hC)
 obtain ⟨fuel, hf⟩ := h
 obtain ⟨xs, n, _, hx, hl, hlen, hg⟩ := DataW.trod_struct hs hf
 obtain ⟨y0, y1, y2, y3, y4, y5, y6, y7, rfl⟩ := listE8 (show xs.length = 8 from hlen)
 obtain ⟨hx, -⟩ := Prod.mk.inj hx
 obtain ⟨o0, k0⟩ := Deep.hone_of hone 0 f0 rfl
 obtain ⟨o1, k1⟩ := Deep.hone_of hone 1 f1 rfl
 obtain ⟨o2, k2⟩ := Deep.hone_of hone 2 f2 rfl
 obtain ⟨o3, k3⟩ := Deep.hone_of hone 3 f3 rfl
 obtain ⟨o4, k4⟩ := Deep.hone_of hone 4 f4 rfl
 obtain ⟨o5, k5⟩ := Deep.hone_of hone 5 f5 rfl
 obtain ⟨o6, k6⟩ := Deep.hone_of hone 6 f6 rfl
 obtain ⟨o7, k7⟩ := Deep.hone_of hone 7 f7 rfl
 exact ⟨c0, c1, c2, c3, c4, c5, c6, c7, y0, y1, y2, y3, y4, y5, y6, y7, n, rfl, hx, by simpa [Value.cells, o0, k0] using hg 0 f0 rfl, by simpa [Value.cells, o1, k1] using hg 1 f1 rfl, by simpa [Value.cells, o2, k2] using hg 2 f2 rfl, by simpa [Value.cells, o3, k3] using hg 3 f3 rfl, by simpa [Value.cells, o4, k4] using hg 4 f4 rfl, by simpa [Value.cells, o5, k5] using hg 5 f5 rfl, by simpa [Value.cells, o6, k6] using hg 6 f6 rfl, by simpa [Value.cells, o7, k7] using hg 7 f7 rfl⟩
theorem names_open {fuel : Nat} {v : Value} {y : DataW H × List MemPlace} (h : DataW.trod enc Tryd.prog W 0 spare held fuel 22 [v] = some y) (hw : WOk Tryd.prog 22 y.1) :
  ∃ A c l, v = .slice A l.length c ∧ l.length ≤ c ∧ Kd.string.C W A l.length l ∧ l.length * 16 ≤ 140737488351232 ∧ ∀ x ∈ l, x.size ≤ 140737488351232 :=
 row_open ByteArray.empty Kd.string (by decide) (fun x => x.size ≤ 140737488351232) Tryd.underlying22 (by kernel_rfl) (by kernel_rfl) (by decide) (fun n cs y hl h hw => by
  obtain ⟨s, hcs, hy, -⟩ := DataW.trod_string Tryd.underlying9 h
  refine ⟨s, hcs, ?_⟩
  rw [hy] at hw
  have := hw s.data.toList.length (by simp [DataW.weights])
  simpa using this) h hw
theorem ints_open {fuel : Nat} {v : Value} {y : DataW H × List MemPlace} (h : DataW.trod enc Tryd.prog W 0 spare held fuel 23 [v] = some y) (hw : WOk Tryd.prog 23 y.1) :
  ∃ A c l, v = .slice A l.length c ∧ l.length ≤ c ∧ (Kd.int .i64).C W A l.length l ∧ l.length * 8 ≤ 140737488351232 ∧ ∀ x ∈ l, -9223372036854775808 ≤ x ∧ x ≤ 9223372036854775807 :=
 row_open (0 : Int) (Kd.int .i64) (show 0 < 1 by decide) (fun x => -9223372036854775808 ≤ x ∧ x ≤ 9223372036854775807) Tryd.underlying23 (by kernel_rfl) (by kernel_rfl) (by decide) (fun n cs y hl h hw => by
  obtain ⟨z, e0, -, hz⟩ := DataW.trod_int Tryd.underlying3 h
  exact ⟨z, e0, wf64 hz⟩) h hw
theorem one_of_take {cs : List Value} {o : Nat} {x : Value} (h : (cs.drop o).take 1 = [x]) : cs[o]? = some x := by
 have h2 : ((cs.drop o).take 1)[0]? = some x := by rw [h]; rfl
 rw [List.getElem?_take, if_pos (by decide), List.getElem?_drop] at h2
 exact h2
theorem list3 {α : Type} {l : List α} {x y z : α} (hl : l.length = 3) (h0 : l[0]? = some x) (h1 : l[1]? = some y) (h2 : l[2]? = some z) : l = [x, y, z] := by
 match l, hl with
 | [a, b, c], _ => simp at h0 h1 h2; rw [h0, h1, h2]
theorem list2 {α : Type} {l : List α} {x y : α} (hl : l.length = 2) (h0 : l[0]? = some x) (h1 : l[1]? = some y) : l = [x, y] := by
 match l, hl with
 | [a, b], _ => simp at h0 h1; rw [h0, h1]
theorem code_open {fuel : Nat} {v : Value} {y : DataW H × List MemPlace} (h : DataW.trod enc Tryd.prog W 0 spare held fuel 37 [v] = some y) (hw : WOk Tryd.prog 37 y.1) :
  ∃ A c l, v = .slice A l.length c ∧ l.length ≤ c ∧ k28.C W A l.length l ∧ l.length * 24 ≤ 140737488351232 ∧ ∀ x ∈ l, True :=
 row_open z28 k28 (show 0 < 3 by decide) (fun _ => True) Tryd.underlying37 (by kernel_rfl) (by kernel_rfl) (by decide) (fun n cs y hl h hw => by
  obtain ⟨xs, m, _, _, hcl, hxl, hf⟩ := DataW.trod_struct Tryd.underlying28 h
  have hl : cs.length = 3 := hl
  have hC3 : Tryd.prog.cellsOf 3 = 1 := by kernel_rfl
  have g0 : DataW.trod enc Tryd.prog W 0 spare held m 3 ((cs.drop 0).take (Tryd.prog.cellsOf 3)) = xs[0]? := hf 0 _ rfl
  have g1 : DataW.trod enc Tryd.prog W 0 spare held m 3 ((cs.drop 1).take (Tryd.prog.cellsOf 3)) = xs[1]? := hf 1 _ rfl
  have g2 : DataW.trod enc Tryd.prog W 0 spare held m 3 ((cs.drop 2).take (Tryd.prog.cellsOf 3)) = xs[2]? := hf 2 _ rfl
  rw [hC3] at g0 g1 g2
  have hx : xs.length = 3 := hxl
  rw [List.getElem?_eq_getElem (by omega)] at g0 g1 g2
  obtain ⟨p0, q0, -, -⟩ := DataW.trod_int Tryd.underlying3 g0
  obtain ⟨p1, q1, -, -⟩ := DataW.trod_int Tryd.underlying3 g1
  obtain ⟨p2, q2, -, -⟩ := DataW.trod_int Tryd.underlying3 g2
  have e := list3 hl (one_of_take q0) (one_of_take q1) (one_of_take q2)
  subst e
  exact ⟨⟨p0, p1, p2⟩, k28_mk W _, trivial⟩) h hw
theorem days_open {fuel : Nat} {v : Value} {y : DataW H × List MemPlace} (h : DataW.trod enc Tryd.prog W 0 spare held fuel 24 [v] = some y) (hw : WOk Tryd.prog 24 y.1) :
  ∃ A c l, v = .slice A l.length c ∧ l.length ≤ c ∧ k39.C W A l.length l ∧ l.length * 32 ≤ 140737488351232 ∧ ∀ x ∈ l, x.f1.length * 24 ≤ 140737488351232 :=
 row_open z39 k39 (show 0 < 2 by decide) (fun x => x.f1.length * 24 ≤ 140737488351232) Tryd.underlying24 (by kernel_rfl) (by kernel_rfl) (by decide) (fun n cs y hl h hw => by
  obtain ⟨y0, y1, m, hy, hcl, h0, h1⟩ := trod_struct2 Tryd.underlying39 h
  have hl : cs.length = 2 := hl
  have hC3 : Tryd.prog.cellsOf 3 = 1 := by kernel_rfl
  have hC37 : Tryd.prog.cellsOf 37 = 1 := by kernel_rfl
  have h0 : DataW.trod enc Tryd.prog W 0 spare held m 3 ((cs.drop 0).take (Tryd.prog.cellsOf 3)) = some y0 := h0
  have h1 : DataW.trod enc Tryd.prog W 0 spare held m 37 ((cs.drop 1).take (Tryd.prog.cellsOf 37)) = some y1 := h1
  rw [hC3] at h0
  rw [hC37] at h1
  obtain ⟨p0, q0, -, -⟩ := DataW.trod_int Tryd.underlying3 h0
  have hd1 : (cs.drop 1).take 1 = [cs[1]'(by omega)] := by rw [List.drop_eq_getElem_cons (by omega)]; rfl
  rw [hd1] at h1
  have w1 : WOk Tryd.prog 37 y1.1 := WOk.field (j := 1) (parts := [y0.1, y1.1]) Tryd.underlying39 (by rw [hy] at hw; exact hw) rfl rfl
  obtain ⟨A, c, l, e1, a1, a2, a3, -⟩ := code_open h1 w1
  have e := list2 hl (one_of_take q0) (show cs[1]? = some (.slice A l.length c) by rw [List.getElem?_eq_getElem (by omega), e1])
  subst e
  exact ⟨⟨p0, l⟩, k39_mk W ⟨p0, l⟩ a1 a2, a3⟩) h hw
set_option maxRecDepth 100000 in
theorem open_prog {r : Reach} {b0 : Nat} {v : Value} {d : DataW H} {p : List MemPlace} (hv : Value.okWide Tryd.prog W r b0 26 v) (hw : WOk Tryd.prog 26 d) (h : DataW.Trod enc Tryd.prog W 0 spare held 26 v d p) :
  ∃ A0 c0 l0 A1 c1 l1 A2 c2 l2 a3 a4 a5 a6 A7 c7 l7, v = .agg #[.slice A0 l0.length c0, .slice A1 l1.length c1, .slice A2 l2.length c2, .int .i64 a3, .int .i64 a4, .int .i64 a5, .int .i64 a6, .slice A7 l7.length c7] ∧
   Kd.string.C W A0 l0.length l0 ∧ Kd.string.C W A1 l1.length l1 ∧ (Kd.int .i64).C W A2 l2.length l2 ∧ k39.C W A7 l7.length l7 ∧ l0.length ≤ c0 ∧ l1.length ≤ c1 ∧ l2.length ≤ c2 ∧ l7.length ≤ c7 ∧
   l0.length * 16 ≤ 140737488351232 ∧ (∀ x ∈ l0, x.size ≤ 140737488351232) ∧ l1.length * 16 ≤ 140737488351232 ∧ (∀ x ∈ l1, x.size ≤ 140737488351232) ∧ l2.length * 8 ≤ 140737488351232 ∧ (∀ x ∈ l2, -9223372036854775808 ≤ x ∧ x ≤ 9223372036854775807) ∧ l7.length * 32 ≤ 140737488351232 ∧ (∀ x ∈ l7, x.f1.length * 24 ≤ 140737488351232) := by
 obtain ⟨v0, v1, v2, v3, v4, v5, v6, v7, y0, y1, y2, y3, y4, y5, y6, y7, n, rfl, rfl, t0, t1, t2, t3, t4, t5, t6, t7⟩ := open_agg8 Tryd.underlying26 (by kernel_rfl) (by kernel_rfl) hv h
 have w0 : WOk Tryd.prog 22 y0.1 := WOk.field (j := 0) Tryd.underlying26 hw rfl rfl
 have w1 : WOk Tryd.prog 22 y1.1 := WOk.field (j := 1) Tryd.underlying26 hw rfl rfl
 have w2 : WOk Tryd.prog 23 y2.1 := WOk.field (j := 2) Tryd.underlying26 hw rfl rfl
 have w7 : WOk Tryd.prog 24 y7.1 := WOk.field (j := 7) Tryd.underlying26 hw rfl rfl
 obtain ⟨A0, c0, l0, rfl, a1, a2, a3, a4⟩ := names_open t0 w0
 obtain ⟨A1, c1, l1, rfl, b1, b2, b3, b4⟩ := names_open t1 w1
 obtain ⟨A2, c2, l2, rfl, d1, d2, d3, d4⟩ := ints_open t2 w2
 obtain ⟨i3, e3, -, -⟩ := DataW.trod_int Tryd.underlying3 t3
 obtain ⟨i4, e4, -, -⟩ := DataW.trod_int Tryd.underlying3 t4
 obtain ⟨i5, e5, -, -⟩ := DataW.trod_int Tryd.underlying3 t5
 obtain ⟨i6, e6, -, -⟩ := DataW.trod_int Tryd.underlying3 t6
 obtain ⟨A7, c7, l7, rfl, g1, g2, g3, g4⟩ := days_open t7 w7
 obtain rfl := (List.cons.inj e3).1
 obtain rfl := (List.cons.inj e4).1
 obtain rfl := (List.cons.inj e5).1
 obtain rfl := (List.cons.inj e6).1
 exact ⟨A0, c0, l0, A1, c1, l1, A2, c2, l2, i3, i4, i5, i6, A7, c7, l7, rfl, a2, b2, d2, g2, a1, b1, d1, g1, a3, a4, b3, b4, d3, d4, g3, g4⟩
end
theorem AsmInstrs_walk (A0 : Option Addr) (c0 : Nat) (l0 : List ByteArray) (A1 : Option Addr) (c1 : Nat) (l1 : List ByteArray) (A2 : Option Addr) (c2 : Nat) (l2 : List Int) (a3 a4 a5 a6 : Int) (A7 : Option Addr) (c7 : Nat) (l7 : List S39) (op a b : Int) (w : World)
  (C0 : Kd.string.C w A0 l0.length l0) (C1 : Kd.string.C w A1 l1.length l1) (C2 : (Kd.int .i64).C w A2 l2.length l2) (C7 : k39.C w A7 l7.length l7) (i0 : l0.length ≤ c0) (i1 : l1.length ≤ c1) (i2 : l2.length ≤ c2) (i7 : l7.length ≤ c7)
  (s0 : l0.length * 16 ≤ 140737488351232) (e0 : ∀ x ∈ l0, x.size ≤ 140737488351232) (s1 : l1.length * 16 ≤ 140737488351232) (e1 : ∀ x ∈ l1, x.size ≤ 140737488351232) (s2 : l2.length * 8 ≤ 140737488351232) (e2 : ∀ x ∈ l2, -9223372036854775808 ≤ x ∧ x ≤ 9223372036854775807) (s7 : l7.length * 32 ≤ 140737488351232) (e7 : ∀ x ∈ l7, x.f1.length * 24 ≤ 140737488351232)
  (wo : (Lit.int .i64 op).wf = true) (wa : (Lit.int .i64 a).wf = true) (wb : (Lit.int .i64 b).wf = true) (hG : GA w) :
  Calls Tryd.prog 3 #[.agg #[.slice A0 l0.length c0, .slice A1 l1.length c1, .slice A2 l2.length c2, .int .i64 a3, .int .i64 a4, .int .i64 a5, .int .i64 a6, .slice A7 l7.length c7], .agg #[.int .i64 op, .int .i64 a, .int .i64 b]] w fun e w' => e = .returned (.bool true) ∧ Below w.heap.size w w' :=
 law_walk A0 A1 A2 A7 c0 c1 c2 c7 l0 l1 l2 l7 a3 a4 a5 a6 op a b w hG C0 C1 C2 C7 i0 i1 i2 i7 ⟨e0, e1, e2, wo, wf64 wa, wf64 wb, by omega, by omega, by omega⟩ (by omega) (by omega) (by omega) (by omega) (fun x hx => by have := e7 x hx; omega)
end Go.Proofs.YtjhbiennmambkaaDoor.Pure
