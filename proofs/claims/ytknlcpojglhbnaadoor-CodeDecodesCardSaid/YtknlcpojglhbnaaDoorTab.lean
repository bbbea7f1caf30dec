/- Own text: what the two listed tables of the Code laws hold, cell by cell, in a world that meets the row's condition. -/
import Derived.Test.YtknlcpojglhbnaaDoorRows
import Derived.ProofKit
import Derived.LaidMore
import Derived.OpenShut
import Derived.Stop.Joined
import Derived.Laws.Rows
namespace Go.Proofs.YtknlcpojglhbnaaDoor.Pure
open Go.ChangeShapes Go.WideShapes Go.ChangeAt Go.RowKit
set_option linter.unusedVariables false
set_option linter.unusedSimpArgs false

/-! What a listed variable holds: an array of structs of whole numbers and strings -/
/-- The cell of a scalar's datum. -/
def leafOf {H : Type} : DataW H → Value
  | .lit (.string l) => .string ⟨l.toArray⟩
  | .lit (.int k n) => .int k n
  | .lit (.bool b) => .bool b
  | _ => undef
def leafB (P : Program) (t : TypeId) : Bool := (match P.underlying t with | some .string => true | some (.int _) => true | _ => false) && P.cellsOf t == 1
def flatB (P : Program) (t : TypeId) (m : Nat) : Bool :=
  match P.underlying t with
  | some (.struct fs) => fs.size == m && P.cellsOf t == m && (List.range m).all fun i => match fs[i]? with | some f => f.offset == i && leafB P f.type | none => false
  | _ => false
def parts {H : Type} : DataW H → List (DataW H)
  | .agg ds => ds
  | _ => []
theorem leaf_cell {H : Type} {enc : TypeId × Value → H} {P : Program} {w : World} {base : Nat} {spare : Nat → Bool} {held : Bool} {fuel : Nat} {t : TypeId} {c : Value} {x : DataW H × List MemPlace}
    (ht : leafB P t = true) (h : DataW.trod enc P w base spare held fuel t [c] = some x) : c = leafOf x.1 := by
  unfold leafB at ht
  simp only [Bool.and_eq_true] at ht
  obtain ⟨ht, _⟩ := ht
  split at ht
  · rename_i hu
    obtain ⟨s, h1, h2, _⟩ := DataW.trod_string hu h
    simp only [List.cons.injEq, and_true] at h1
    rw [h1, h2]; rfl
  · rename_i k hu
    obtain ⟨n, h1, h2, _⟩ := DataW.trod_int hu h
    simp only [List.cons.injEq, and_true] at h1
    rw [h1, h2]; rfl
  · cases ht
theorem flat_cells {H : Type} {enc : TypeId × Value → H} {P : Program} {w : World} {base : Nat} {spare : Nat → Bool} {held : Bool} {fuel : Nat} {t : TypeId} {m : Nat} {cs : List Value} {x : DataW H × List MemPlace}
    (ht : flatB P t m = true) (h : DataW.trod enc P w base spare held fuel t cs = some x) : cs.length = m ∧ (parts x.1).length = m ∧ cs = (parts x.1).map leafOf := by
  unfold flatB at ht
  split at ht
  · rename_i fs hu
    simp only [Bool.and_eq_true, beq_iff_eq, List.all_eq_true, List.mem_range] at ht
    obtain ⟨⟨hm, hc⟩, hf⟩ := ht
    obtain ⟨xs, n, _, h2, h3, h4, h5⟩ := DataW.trod_struct hu h
    have hl : (parts x.1).length = m := by rw [h2]; simp [parts]; omega
    refine ⟨by omega, hl, ?_⟩
    apply List.ext_getElem
    · rw [List.length_map, hl]; omega
    · intro i h6 h7
      have him : i < m := by omega
      have hfi := hf i him
      split at hfi
      · rename_i f hfs
        simp only [Bool.and_eq_true, beq_iff_eq] at hfi
        obtain ⟨ho, hlf⟩ := hfi
        have hc1 : P.cellsOf f.type = 1 := by
          have := hlf; unfold leafB at this; simp only [Bool.and_eq_true, beq_iff_eq] at this; exact this.2
        have h8 := h5 i f hfs
        rw [ho, hc1] at h8
        have h9 : (cs.drop i).take 1 = [cs[i]] := by rw [List.drop_eq_getElem_cons h6]; rfl
        rw [h9, List.getElem?_eq_getElem (by omega)] at h8
        have h10 := leaf_cell hlf h8
        rw [h10]
        simp only [h2, parts, List.getElem_map]
      · cases hfi
  · cases ht
theorem chunks_eq {α : Type} (m : Nat) : ∀ (l : List (List α)) (cs : List α), cs.length = l.length * m → (∀ i (h : i < l.length), (cs.drop (i * m)).take m = l[i]) → cs = l.flatten := by
  intro l
  induction l with
  | nil => intro cs h _; simp at h; simp [h]
  | cons a t ih =>
    intro cs h hi
    have h0 := hi 0 (by simp)
    simp only [Nat.zero_mul, List.drop_zero, List.getElem_cons_zero] at h0
    rw [List.flatten_cons, ← h0]
    rw [← ih (cs.drop m) (by rw [List.length_drop, h, List.length_cons, Nat.succ_mul]; omega) (fun i h1 => by
      have := hi (i + 1) (by simp; omega)
      rw [List.getElem_cons_succ] at this
      rw [List.drop_drop, ← this]
      congr 2
      rw [Nat.succ_mul]; omega)]
    rw [List.take_append_drop]
theorem table_cells {H : Type} {enc : TypeId × Value → H} {P : Program} {w : World} {base : Nat} {spare : Nat → Bool} {held : Bool} {fuel : Nat} {t e : TypeId} {n m : Nat} {cs : List Value} {x : DataW H × List MemPlace}
    (ht : P.underlying t = some (.array n e)) (he : flatB P e m = true) (hce : P.cellsOf e = m) (hct : P.cellsOf t = n * m) (h : DataW.trod enc P w base spare held fuel t cs = some x) :
    cs = ((parts x.1).map fun d => (parts d).map leafOf).flatten := by
  obtain ⟨xs, k, _, h2, h3, h4, h5⟩ := DataW.trod_array ht h
  have hp : parts x.1 = xs.map (·.1) := by rw [h2]; rfl
  rw [hp]
  refine chunks_eq m _ _ (by rw [List.length_map, List.length_map]; rw [h4, h3, hct]) ?_
  intro i hi
  have him : i < n := by simpa [h4] using hi
  have h6 := h5 i him
  rw [hce, List.getElem?_eq_getElem (by omega)] at h6
  rw [(flat_cells he h6).2.2]
  simp

theorem gTable : Tryd.prog.globalNamed "payoff/payoffref11.table" = some 1 := by kernel_rfl
theorem gKinds : Tryd.prog.globalNamed "payoff/code.kinds" = some 0 := by kernel_rfl
theorem tTable : (Tryd.prog.globals[1]?).map (·.type) = some 58 := by kernel_rfl
theorem tKinds : (Tryd.prog.globals[0]?).map (·.type) = some 55 := by kernel_rfl
noncomputable def kA : Array Value := (((parts (Rows.laid_payoff_code_kinds (H := Unit))).map fun d => (parts d).map leafOf).flatten).toArray
noncomputable def tA : Array Value := (((parts (Rows.laid_payoff_payoffref11_table (H := Unit))).map fun d => (parts d).map leafOf).flatten).toArray
theorem of_laid {W : World} (h : laidMetH Tryd.prog [("payoff/payoffref11.table", Rows.laid_payoff_payoffref11_table), ("payoff/code.kinds", Rows.laid_payoff_code_kinds)] W) :
    (∃ t fr, W.heap[0]? = some (.cells kA t fr)) ∧ ∃ t fr, W.heap[1]? = some (.cells tA t fr) := by
  rw [MakeChecks.laidMetH_plain _ _ _ (by kernel_rfl)] at h
  obtain ⟨ps, ⟨g0, t0, cs0, f0, p0, q0, hg0, ht0, hv0, hd0, ⟨g1, t1, cs1, f1, p1, q1, hg1, ht1, hv1, hd1, _, _⟩, _⟩, _, _⟩ := h
  obtain rfl := Option.some.inj (gTable.symm.trans hg0)
  obtain rfl := Option.some.inj (gKinds.symm.trans hg1)
  obtain rfl := Option.some.inj (tTable.symm.trans ht0)
  obtain rfl := Option.some.inj (tKinds.symm.trans ht1)
  have h0 := table_cells (e := 57) (n := 29) (m := 5) Tryd.underlying58 (by kernel_rfl) (by kernel_rfl) (by kernel_rfl) hd0
  have h1 := table_cells (e := 54) (n := 29) (m := 6) Tryd.underlying55 (by kernel_rfl) (by kernel_rfl) (by kernel_rfl) hd1
  have key : ∀ (n : String) (g : Nat) (cs : Array Value), Tryd.prog.globalNamed n = some g → W.var? Tryd.prog n = some cs → ∃ t fr, W.heap[g]? = some (.cells cs t fr) := by
    intro n g cs hg hv
    simp only [World.var?, hg, Option.bind_some] at hv
    split at hv
    · rename_i c t fr hc
      simp only [Option.some.injEq] at hv
      subst hv
      exact ⟨_, _, hc⟩
    · cases hv
  constructor
  · have := key _ _ _ gKinds hv1
    have e : cs1 = kA := by apply Array.ext'; rw [h1]; rfl
    rw [e] at this; exact this
  · have := key _ _ _ gTable hv0
    have e : cs0 = tA := by apply Array.ext'; rw [h0]; rfl
    rw [e] at this; exact this
/-- A row of the table: name, operands, their greatest values (none: -1), what it takes and puts. -/
structure Rw where
  nm : List UInt8
  n : Int
  a : Int
  b : Int
  t : Int
  p : Int
def kinds : List Rw := [⟨[101, 110, 100], 0, 0, 0, 0, 0⟩,
  ⟨[99, 111, 110, 115, 116], 1, 16383, 0, 0, 1⟩,
  ⟨[98, 111, 111, 108], 1, 1, 0, 0, 1⟩,
  ⟨[111, 98, 115], 2, 63, 3660, 0, 1⟩,
  ⟨[108, 111, 97, 100], 1, 32767, 0, 0, 1⟩,
  ⟨[115, 116, 111, 114, 101], 1, 32767, 0, 1, 0⟩,
  ⟨[107, 101, 101, 112], 1, 16383, 0, 1, 1⟩,
  ⟨[103, 101, 116], 1, 16383, 0, 0, 1⟩,
  ⟨[100, 114, 111, 112], 0, 0, 0, 1, 0⟩,
  ⟨[97, 100, 100], 0, 0, 0, 2, 1⟩,
  ⟨[115, 117, 98], 0, 0, 0, 2, 1⟩,
  ⟨[109, 117, 108], 0, 0, 0, 2, 1⟩,
  ⟨[110, 101, 103], 0, 0, 0, 1, 1⟩,
  ⟨[100, 105, 118], 0, 0, 0, 2, 1⟩,
  ⟨[109, 111, 100], 0, 0, 0, 2, 1⟩,
  ⟨[97, 98, 115], 0, 0, 0, 1, 1⟩,
  ⟨[109, 105, 110], 0, 0, 0, 2, 1⟩,
  ⟨[109, 97, 120], 0, 0, 0, 2, 1⟩,
  ⟨[114, 97, 116, 105, 111], 1, 4, 0, 3, 1⟩,
  ⟨[108, 116], 0, 0, 0, 2, 1⟩,
  ⟨[108, 101], 0, 0, 0, 2, 1⟩,
  ⟨[103, 116], 0, 0, 0, 2, 1⟩,
  ⟨[103, 101], 0, 0, 0, 2, 1⟩,
  ⟨[101, 113], 0, 0, 0, 2, 1⟩,
  ⟨[110, 101], 0, 0, 0, 2, 1⟩,
  ⟨[110, 111, 116], 0, 0, 0, 1, 1⟩,
  ⟨[106, 117, 109, 112], 1, 262143, 0, 0, 0⟩,
  ⟨[122, 101, 114, 111], 1, 262143, 0, 1, 0⟩,
  ⟨[102, 108, 111, 119], 1, 4095, 0, 1, 0⟩]
/-- The reference's bounds of the operands. -/
def bounds : List (Int × Int) := [(-1, -1), (16383, -1), (1, -1), (63, 3660), (32767, -1), (32767, -1), (16383, -1), (16383, -1), (-1, -1), (-1, -1), (-1, -1), (-1, -1), (-1, -1), (-1, -1), (-1, -1), (-1, -1), (-1, -1), (-1, -1), (4, -1), (-1, -1), (-1, -1), (-1, -1), (-1, -1), (-1, -1), (-1, -1), (-1, -1), (262143, -1), (262143, -1), (4095, -1)]
def kRow (r : Rw) : List Value := [.string ⟨r.nm.toArray⟩, .int .i64 r.n, .int .i64 r.a, .int .i64 r.b, .int .i64 r.t, .int .i64 r.p]
def tRow (r : Rw × Int × Int) : List Value := [.string ⟨r.1.nm.toArray⟩, .int .i64 r.2.1, .int .i64 r.2.2, .int .i64 r.1.t, .int .i64 r.1.p]

theorem kA_eq : kA = ((kinds.map kRow).flatten).toArray := by kernel_rfl
theorem tA_eq : tA = (((kinds.zip bounds).map tRow).flatten).toArray := by kernel_rfl
theorem flat_get {α : Type} (m : Nat) : ∀ (l : List (List α)), (∀ x ∈ l, x.length = m) → ∀ i j (hi : i < l.length), j < m → l.flatten[i * m + j]? = l[i][j]? := by
  intro l
  induction l with
  | nil => intro _ i j hi; simp at hi
  | cons a t ih =>
    intro h i j hi hj
    have ha := h a (by simp)
    rw [List.flatten_cons]
    cases i with
    | zero => rw [Nat.zero_mul, Nat.zero_add, List.getElem?_append_left (by omega)]; rfl
    | succ i =>
      rw [List.getElem?_append_right (by rw [Nat.succ_mul]; omega), List.getElem_cons_succ]
      rw [← ih (fun x hx => h x (by simp [hx])) i j (by simpa using hi) hj]
      congr 1
      rw [Nat.succ_mul]; omega
theorem kinds_len : kinds.length = 29 := rfl
def kat (i : Nat) : Rw := kinds.getD i ⟨[], 0, 0, 0, 0, 0⟩
def bat (i : Nat) : Int × Int := bounds.getD i (0, 0)
theorem kat_eq (i : Nat) (hi : i < 29) : kat i = kinds[i]'hi := by
  unfold kat; rw [List.getD_eq_getElem?_getD, List.getElem?_eq_getElem (by exact hi)]; rfl
theorem bat_eq (i : Nat) (hi : i < 29) : bat i = bounds[i]'hi := by
  unfold bat; rw [List.getD_eq_getElem?_getD, List.getElem?_eq_getElem (by exact hi)]; rfl
theorem kA_get (i j : Nat) (hi : i < 29) (hj : j < 6) : kA[i * 6 + j]? = (kRow (kat i))[j]? := by
  rw [kA_eq, List.getElem?_toArray, flat_get 6 _ (by intro x hx; obtain ⟨r, _, rfl⟩ := List.mem_map.1 hx; rfl) i j (by rw [List.length_map]; exact hi) hj]
  rw [List.getElem_map, kat_eq i hi]; rfl
theorem tA_get (i j : Nat) (hi : i < 29) (hj : j < 5) : tA[i * 5 + j]? = (tRow (kat i, bat i))[j]? := by
  have hl : (kinds.zip bounds).length = 29 := rfl
  rw [tA_eq, List.getElem?_toArray, flat_get 5 _ (by intro x hx; obtain ⟨r, _, rfl⟩ := List.mem_map.1 hx; rfl) i j (by rw [List.length_map, hl]; exact hi) hj]
  rw [List.getElem_map, List.getElem_zip, kat_eq i hi, bat_eq i hi]; rfl
theorem idx_kinds (W : World) : ∀ i : Nat, i < 29 → (Instr.index 55 (.agg kA) (.int .i64 (i : Int))).run Tryd.prog W = .ok (.agg (kRow (kat i)).toArray) W
  | 0, _ => by kernel_rfl
  | 1, _ => by kernel_rfl
  | 2, _ => by kernel_rfl
  | 3, _ => by kernel_rfl
  | 4, _ => by kernel_rfl
  | 5, _ => by kernel_rfl
  | 6, _ => by kernel_rfl
  | 7, _ => by kernel_rfl
  | 8, _ => by kernel_rfl
  | 9, _ => by kernel_rfl
  | 10, _ => by kernel_rfl
  | 11, _ => by kernel_rfl
  | 12, _ => by kernel_rfl
  | 13, _ => by kernel_rfl
  | 14, _ => by kernel_rfl
  | 15, _ => by kernel_rfl
  | 16, _ => by kernel_rfl
  | 17, _ => by kernel_rfl
  | 18, _ => by kernel_rfl
  | 19, _ => by kernel_rfl
  | 20, _ => by kernel_rfl
  | 21, _ => by kernel_rfl
  | 22, _ => by kernel_rfl
  | 23, _ => by kernel_rfl
  | 24, _ => by kernel_rfl
  | 25, _ => by kernel_rfl
  | 26, _ => by kernel_rfl
  | 27, _ => by kernel_rfl
  | 28, _ => by kernel_rfl
  | n + 29, h => by omega
end Go.Proofs.YtknlcpojglhbnaaDoor.Pure
