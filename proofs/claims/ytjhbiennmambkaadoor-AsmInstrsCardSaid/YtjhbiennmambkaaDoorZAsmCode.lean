/- Own text, for this claim: code's table and the reference's (chapter 11): what they hold, Name, Operands, Valid of both. After chapter 11's walks (conv11.py). -/
import Derived.Test.YtjhbiennmambkaaDoorProg
import Derived.Test.YtjhbiennmambkaaDoorRows
import Derived.Test.YtjhbiennmambkaaDoorZW
import Derived.ProofKit
import Derived.LaidMore
import Derived.OpenShut
import Derived.Stop.Joined
import Derived.Laws.Rows
import Derived.Outline
import Derived.WalkKit
import Derived.Below
import Derived.BigQuiet
import Derived.Deep.QuietTactic
import Derived.Laws.Tables
import Derived.Laws.CopyOwn
import Derived.Deep.DeepMust
import Derived.Lib.SmallJoins
import Derived.Deep.RegionWith
namespace Go.Proofs.YtjhbiennmambkaaDoor.Pure
open Go.RowKit Go.ChangeShapes Go.WideShapes Go.ChangeAt Go.Proofs.YtjhbiennmambkaaDoorW.PrintWords Go.Proofs.YtjhbiennmambkaaDoorW.PrintLast Go.Proofs.YtjhbiennmambkaaDoorW.PrintMore
set_option linter.unusedVariables false
set_option linter.unusedSimpArgs false
def leafOf {H : Type} : DataW H → Value
 | .lit (.string l) => .string ⟨l.toArray⟩
 | .lit (.int k n) => .int k n
 | .lit (.bool b) => .bool b
 | _ => undef
def leafB (P : Program) (t : TypeId) : Bool := (match P.underlying t with | some .string => true | some (.int _) => true | _ => false) && P.cellsOf t == 1
def flatB (P : Program) (t : TypeId) (m : Nat) : Bool :=
 match P.underlying t with
 | some (.struct fs) => fs.size == m && P.cellsOf t == m && (List.range m).all fun i => match fs[i]? with | some f => f.offset == i && leafB P f.type | none => false
 | _ => false
def parts {H : Type} : DataW H → List (DataW H)
 | .agg ds => ds
 | _ => []
theorem leaf_cell {H : Type} {enc : TypeId × Value → H} {P : Program} {w : World} {base : Nat} {spare : Nat → Bool} {held : Bool} {fuel : Nat} {t : TypeId} {c : Value} {x : DataW H × List MemPlace}
  (ht : leafB P t = true) (h : DataW.trod enc P w base spare held fuel t [c] = some x) : c = leafOf x.1 := by
 unfold leafB at ht
 simp only [Bool.and_eq_true] at ht
 obtain ⟨ht, _⟩ := ht
 split at ht
 ·rename_i hu
  obtain ⟨s, h1, h2, _⟩ := DataW.trod_string hu h
  simp only [List.cons.injEq, and_true] at h1
  rw [h1, h2]; rfl
 ·rename_i k hu
  obtain ⟨n, h1, h2, _⟩ := DataW.trod_int hu h
  simp only [List.cons.injEq, and_true] at h1
  rw [h1, h2]; rfl
 ·cases ht
theorem flat_cells {H : Type} {enc : TypeId × Value → H} {P : Program} {w : World} {base : Nat} {spare : Nat → Bool} {held : Bool} {fuel : Nat} {t : TypeId} {m : Nat} {cs : List Value} {x : DataW H × List MemPlace}
  (ht : flatB P t m = true) (h : DataW.trod enc P w base spare held fuel t cs = some x) : cs.length = m ∧ (parts x.1).length = m ∧ cs = (parts x.1).map leafOf := by
 unfold flatB at ht
 split at ht
 ·rename_i fs hu
  simp only [Bool.and_eq_true, beq_iff_eq, List.all_eq_true, List.mem_range] at ht
  obtain ⟨⟨hm, hc⟩, hf⟩ := ht
  obtain ⟨xs, n, _, h2, h3, h4, h5⟩ := DataW.trod_struct hu h
  have hl : (parts x.1).length = m := by rw [h2]; simp [parts]; omega
  refine ⟨by omega, hl, ?_⟩
  apply List.ext_getElem
  ·rw [List.length_map, hl]; omega
  ·intro i h6 h7
   have him : i < m := by omega
   have hfi := hf i him
   split at hfi
   ·rename_i f hfs
    simp only [Bool.and_eq_true, beq_iff_eq] at hfi
    obtain ⟨ho, hlf⟩ := hfi
    have hc1 : P.cellsOf f.type = 1 := by
     have := hlf; unfold leafB at this; simp only [Bool.and_eq_true, beq_iff_eq] at this; exact this.2
    have h8 := h5 i f hfs
    rw [ho, hc1] at h8
    have h9 : (cs.drop i).take 1 = [cs[i]] := by rw [List.drop_eq_getElem_cons h6]; rfl
    rw [h9, List.getElem?_eq_getElem (by omega)] at h8
    have h10 := leaf_cell hlf h8
    rw [h10]
    simp only [h2, parts, List.getElem_map]
   ·cases hfi
 ·cases ht
theorem chunks_eq {α : Type} (m : Nat) : ∀ (l : List (List α)) (cs : List α), cs.length = l.length * m → (∀ i (h : i < l.length), (cs.drop (i * m)).take m = l[i]) → cs = l.flatten := by
 intro l
 induction l with
 | nil => intro cs h _; simp at h; simp [h]
 | cons a t ih =>
  intro cs h hi
  have h0 := hi 0 (by simp)
  simp only [Nat.zero_mul, List.drop_zero, List.getElem_cons_zero] at h0
  rw [List.flatten_cons, ← h0]
  rw [← ih (cs.drop m) (by rw [List.length_drop, h, List.length_cons, Nat.succ_mul]; omega) (fun i h1 => by
   have := hi (i + 1) (by simp; omega)
   rw [List.getElem_cons_succ] at this
   rw [List.drop_drop, ← this]
   congr 2
   rw [Nat.succ_mul]; omega)]
  rw [List.take_append_drop]
theorem table_cells {H : Type} {enc : TypeId × Value → H} {P : Program} {w : World} {base : Nat} {spare : Nat → Bool} {held : Bool} {fuel : Nat} {t e : TypeId} {n m : Nat} {cs : List Value} {x : DataW H × List MemPlace}
  (ht : P.underlying t = some (.array n e)) (he : flatB P e m = true) (hce : P.cellsOf e = m) (hct : P.cellsOf t = n * m) (h : DataW.trod enc P w base spare held fuel t cs = some x) :
  cs = ((parts x.1).map fun d => (parts d).map leafOf).flatten := by
 obtain ⟨xs, k, _, h2, h3, h4, h5⟩ := DataW.trod_array ht h
 have hp : parts x.1 = xs.map (·.1) := by rw [h2]; rfl
 rw [hp]
 refine chunks_eq m _ _ (by rw [List.length_map, List.length_map]; rw [h4, h3, hct]) ?_
 intro i hi
 have him : i < n := by simpa [h4] using hi
 have h6 := h5 i him
 rw [hce, List.getElem?_eq_getElem (by omega)] at h6
 rw [(flat_cells he h6).2.2]
 simp
theorem gTable : Tryd.prog.globalNamed "payoff/payoffref11.table" = some 3 := by kernel_rfl
theorem gKinds : Tryd.prog.globalNamed "payoff/code.kinds" = some 0 := by kernel_rfl
theorem tTable : (Tryd.prog.globals[3]?).map (·.type) = some 104 := by kernel_rfl
theorem tKinds : (Tryd.prog.globals[0]?).map (·.type) = some 71 := by kernel_rfl
noncomputable def kA : Array Value := (((parts (Rows.laid_payoff_code_kinds (H := Unit))).map fun d => (parts d).map leafOf).flatten).toArray
noncomputable def tA : Array Value := (((parts (Rows.laid_payoff_payoffref11_table (H := Unit))).map fun d => (parts d).map leafOf).flatten).toArray
structure Rw where
 nm : List UInt8
 n : Int
 a : Int
 b : Int
 t : Int
 p : Int
def kinds : List Rw := [⟨[101, 110, 100], 0, 0, 0, 0, 0⟩,
 ⟨[99, 111, 110, 115, 116], 1, 16383, 0, 0, 1⟩,
 ⟨[98, 111, 111, 108], 1, 1, 0, 0, 1⟩,
 ⟨[111, 98, 115], 2, 63, 3660, 0, 1⟩,
 ⟨[108, 111, 97, 100], 1, 32767, 0, 0, 1⟩,
 ⟨[115, 116, 111, 114, 101], 1, 32767, 0, 1, 0⟩,
 ⟨[107, 101, 101, 112], 1, 16383, 0, 1, 1⟩,
 ⟨[103, 101, 116], 1, 16383, 0, 0, 1⟩,
 ⟨[100, 114, 111, 112], 0, 0, 0, 1, 0⟩,
 ⟨[97, 100, 100], 0, 0, 0, 2, 1⟩,
 ⟨[115, 117, 98], 0, 0, 0, 2, 1⟩,
 ⟨[109, 117, 108], 0, 0, 0, 2, 1⟩,
 ⟨[110, 101, 103], 0, 0, 0, 1, 1⟩,
 ⟨[100, 105, 118], 0, 0, 0, 2, 1⟩,
 ⟨[109, 111, 100], 0, 0, 0, 2, 1⟩,
 ⟨[97, 98, 115], 0, 0, 0, 1, 1⟩,
 ⟨[109, 105, 110], 0, 0, 0, 2, 1⟩,
 ⟨[109, 97, 120], 0, 0, 0, 2, 1⟩,
 ⟨[114, 97, 116, 105, 111], 1, 4, 0, 3, 1⟩,
 ⟨[108, 116], 0, 0, 0, 2, 1⟩,
 ⟨[108, 101], 0, 0, 0, 2, 1⟩,
 ⟨[103, 116], 0, 0, 0, 2, 1⟩,
 ⟨[103, 101], 0, 0, 0, 2, 1⟩,
 ⟨[101, 113], 0, 0, 0, 2, 1⟩,
 ⟨[110, 101], 0, 0, 0, 2, 1⟩,
 ⟨[110, 111, 116], 0, 0, 0, 1, 1⟩,
 ⟨[106, 117, 109, 112], 1, 262143, 0, 0, 0⟩,
 ⟨[122, 101, 114, 111], 1, 262143, 0, 1, 0⟩,
 ⟨[102, 108, 111, 119], 1, 4095, 0, 1, 0⟩]
def bounds : List (Int × Int) := [(-1, -1), (16383, -1), (1, -1), (63, 3660), (32767, -1), (32767, -1), (16383, -1), (16383, -1), (-1, -1), (-1, -1), (-1, -1), (-1, -1), (-1, -1), (-1, -1), (-1, -1), (-1, -1), (-1, -1), (-1, -1), (4, -1), (-1, -1), (-1, -1), (-1, -1), (-1, -1), (-1, -1), (-1, -1), (-1, -1), (262143, -1), (262143, -1), (4095, -1)]
def kRow (r : Rw) : List Value := [.string ⟨r.nm.toArray⟩, .int .i64 r.n, .int .i64 r.a, .int .i64 r.b, .int .i64 r.t, .int .i64 r.p]
def tRow (r : Rw × Int × Int) : List Value := [.string ⟨r.1.nm.toArray⟩, .int .i64 r.2.1, .int .i64 r.2.2, .int .i64 r.1.t, .int .i64 r.1.p]
theorem kA_eq : kA = ((kinds.map kRow).flatten).toArray := by kernel_rfl
theorem tA_eq : tA = (((kinds.zip bounds).map tRow).flatten).toArray := by kernel_rfl
theorem flat_get {α : Type} (m : Nat) : ∀ (l : List (List α)), (∀ x ∈ l, x.length = m) → ∀ i j (hi : i < l.length), j < m → l.flatten[i * m + j]? = l[i][j]? := by
 intro l
 induction l with
 | nil => intro _ i j hi; simp at hi
 | cons a t ih =>
  intro h i j hi hj
  have ha := h a (by simp)
  rw [List.flatten_cons]
  cases i with
  | zero => rw [Nat.zero_mul, Nat.zero_add, List.getElem?_append_left (by omega)]; rfl
  | succ i =>
   rw [List.getElem?_append_right (by rw [Nat.succ_mul]; omega), List.getElem_cons_succ]
   rw [← ih (fun x hx => h x (by simp [hx])) i j (by simpa using hi) hj]
   congr 1
   rw [Nat.succ_mul]; omega
def kat (i : Nat) : Rw := kinds.getD i ⟨[], 0, 0, 0, 0, 0⟩
def bat (i : Nat) : Int × Int := bounds.getD i (0, 0)
theorem kat_eq (i : Nat) (hi : i < 29) : kat i = kinds[i]'hi := by
 unfold kat; rw [List.getD_eq_getElem?_getD, List.getElem?_eq_getElem (by exact hi)]; rfl
theorem bat_eq (i : Nat) (hi : i < 29) : bat i = bounds[i]'hi := by
 unfold bat; rw [List.getD_eq_getElem?_getD, List.getElem?_eq_getElem (by exact hi)]; rfl
theorem kA_get (i j : Nat) (hi : i < 29) (hj : j < 6) : kA[i * 6 + j]? = (kRow (kat i))[j]? := by
 rw [kA_eq, List.getElem?_toArray, flat_get 6 _ (by intro x hx; obtain ⟨r, _, rfl⟩ := List.mem_map.1 hx; rfl) i j (by rw [List.length_map]; exact hi) hj]
 rw [List.getElem_map, kat_eq i hi]; rfl
theorem tA_get (i j : Nat) (hi : i < 29) (hj : j < 5) : tA[i * 5 + j]? = (tRow (kat i, bat i))[j]? := by
 have hl : (kinds.zip bounds).length = 29 := rfl
 rw [tA_eq, List.getElem?_toArray, flat_get 5 _ (by intro x hx; obtain ⟨r, _, rfl⟩ := List.mem_map.1 hx; rfl) i j (by rw [List.length_map, hl]; exact hi) hj]
 rw [List.getElem_map, List.getElem_zip, kat_eq i hi, bat_eq i hi]; rfl
theorem blk_lt' {w : World} {g : Nat} {o : Obj} (h : w.heap[g]? = some o) : g < w.heap.size := (Array.getElem?_eq_some_iff.1 h).1
def knownB (i : Int) : Bool := decide (0 ≤ i ∧ i < 29)
theorem knownB_in {i : Int} (h : 0 ≤ i ∧ i < 29) : knownB i = true := yL h
theorem knownB_out {i : Int} (h : ¬ (0 ≤ i ∧ i < 29)) : knownB i = false := yM h
theorem known_any (i : Int) (w : World) : Calls Tryd.prog 30 #[.int .i64 i] w fun e w' => e = .returned (.bool (knownB i)) ∧ w' = w := by
 by_cases h0 : 0 ≤ i
 ·by_cases h1 : i < 29
  ·have e : Aside0 (knownB i = true) := ⟨knownB_in ⟨h0, h1⟩⟩
   go_enter Tryd.func30, Tryd.ntmps30
   go_wp2
   go_ret
   exact ⟨by rw [e.out]; rfl, rfl⟩
  ·have e : Aside0 (knownB i = false) := ⟨knownB_out (by omega)⟩
   go_enter Tryd.func30, Tryd.ntmps30
   go_wp2
   go_ret
   exact ⟨by rw [e.out]; rfl, rfl⟩
 ·have e : Aside0 (knownB i = false) := ⟨knownB_out (by omega)⟩
  go_enter Tryd.func30, Tryd.ntmps30
  go_wp2
  go_ret
  exact ⟨by rw [e.out]; rfl, rfl⟩
section
variable (t t2 : TypeId) (fr fr2 : Nat × Nat)
set_option maxHeartbeats 1000000 in
set_option maxRecDepth 100000 in
theorem name_in (i : Nat) (hi : i < 29) (w : World) (hK : w.heap[0]? = some (.cells kA t fr)) :
  Calls Tryd.prog 13 #[.int .i64 i] w fun e w' => e = .returned (.tuple #[.string ⟨(kat i).nm.toArray⟩, .int .i64 0]) ∧ w' = w := by
 have hc : w.cell? ⟨0, i * 6, none⟩ = some (.string ⟨(kat i).nm.toArray⟩) := (cell_of_row w 0 (i * 6) kA t fr hK).trans (kA_get i 0 hi (by omega))
 have HE : Aside0 (knownB (i : Int) = true) := ⟨knownB_in (by omega)⟩
 clear hK
 go_enter Tryd.func13, Tryd.ntmps13
 go_wp2_with (go_at_call 30; refine (known_any _ _).mono ?_; rintro e w' ⟨rfl, rfl⟩; rw [HE.out])
 go_ret2
 exact ⟨rfl, rfl⟩
set_option maxHeartbeats 1000000 in
set_option maxRecDepth 100000 in
theorem operands_in (i : Nat) (hi : i < 29) (w : World) (hK : w.heap[0]? = some (.cells kA t fr)) :
  Calls Tryd.prog 32 #[.int .i64 i] w fun e w' => e = .returned (.tuple #[.int .i64 (kat i).n, .int .i64 0]) ∧ w' = w := by
 have hc : w.cell? ⟨0, i * 6 + 1, none⟩ = some (.int .i64 (kat i).n) := (cell_of_row w 0 (i * 6 + 1) kA t fr hK).trans (kA_get i 1 hi (by omega))
 have HE : Aside0 (knownB (i : Int) = true) := ⟨knownB_in (by omega)⟩
 clear hK
 go_enter Tryd.func32, Tryd.ntmps32
 go_wp2_with (go_at_call 30; refine (known_any _ _).mono ?_; rintro e w' ⟨rfl, rfl⟩; rw [HE.out])
 go_ret2
 exact ⟨rfl, rfl⟩
end
section
variable (t t2 : TypeId) (fr fr2 : Nat × Nat)
set_option maxHeartbeats 1000000 in
set_option maxRecDepth 100000 in
theorem row_in (i : Nat) (hi : i < 29) (w : World) (hT : w.heap[3]? = some (.cells tA t fr)) :
  Calls Tryd.prog 47 #[.int .i64 i] w fun e w' => e = .returned (.tuple #[.agg #[.string ⟨(kat i).nm.toArray⟩, .int .i64 (bat i).1, .int .i64 (bat i).2, .int .i64 (kat i).t, .int .i64 (kat i).p], .int .i64 0]) ∧ Below w.heap.size w w' := by
 have hlt : 3 < w.heap.size := blk_lt' hT
 have hc0 : w.cell? ⟨3, i * 5, none⟩ = some (.string ⟨(kat i).nm.toArray⟩) := (cell_of_row w 3 (i * 5) tA t fr hT).trans (tA_get i 0 hi (by omega))
 have hc1 : w.cell? ⟨3, i * 5 + 1, none⟩ = some (.int .i64 (bat i).1) := (cell_of_row w 3 (i * 5 + 1) tA t fr hT).trans (tA_get i 1 hi (by omega))
 have hc2 : w.cell? ⟨3, i * 5 + 2, none⟩ = some (.int .i64 (bat i).2) := (cell_of_row w 3 (i * 5 + 2) tA t fr hT).trans (tA_get i 2 hi (by omega))
 have hc3 : w.cell? ⟨3, i * 5 + 3, none⟩ = some (.int .i64 (kat i).t) := (cell_of_row w 3 (i * 5 + 3) tA t fr hT).trans (tA_get i 3 hi (by omega))
 have hc4 : w.cell? ⟨3, i * 5 + 4, none⟩ = some (.int .i64 (kat i).p) := (cell_of_row w 3 (i * 5 + 4) tA t fr hT).trans (tA_get i 4 hi (by omega))
 clear hT
 have n29 : ¬ (29 ≤ i) := by omega
 generalize (kat i).nm = x0 at *
 generalize (bat i).1 = x1 at *
 generalize (bat i).2 = x2 at *
 generalize (kat i).t = x3 at *
 generalize (kat i).p = x4 at *
 go_enter Tryd.func47, Tryd.ntmps47
 go_wp2
 exact bodyPost_ret (v := .tuple #[.agg #[.string ⟨x0.toArray⟩, .int .i64 x1, .int .i64 x2, .int .i64 x3, .int .i64 x4], .int .i64 0]) (by simp [results, Tryd.results47, go_sem]) rfl ⟨rfl, (Below.refl _ _).alloc (Nat.le_refl _) _⟩
set_option maxHeartbeats 1000000 in
set_option maxRecDepth 100000 in
theorem row_out (i : Int) (hi : ¬ (0 ≤ i ∧ i < 29)) (w : World) :
  Calls Tryd.prog 47 #[.int .i64 i] w fun e w' => e = .returned (.tuple #[.agg #[.string ⟨#[]⟩, .int .i64 0, .int .i64 0, .int .i64 0, .int .i64 0], .int .i64 111]) ∧ Below w.heap.size w w' := by
 rcases Int.lt_or_le i 0 with h | h
 ·clear hi
  go_enter Tryd.func47, Tryd.ntmps47
  go_wp2
  exact bodyPost_ret (v := .tuple #[.agg #[.string ⟨#[]⟩, .int .i64 0, .int .i64 0, .int .i64 0, .int .i64 0], .int .i64 111]) (by simp [results, Tryd.results47, go_sem]) rfl ⟨rfl, (Below.refl _ _).alloc (Nat.le_refl _) _⟩
 ·have h2 : 29 ≤ i := by omega
  have h3 : ¬ i < 0 := by omega
  clear hi
  go_enter Tryd.func47, Tryd.ntmps47
  go_wp2
  exact bodyPost_ret (v := .tuple #[.agg #[.string ⟨#[]⟩, .int .i64 0, .int .i64 0, .int .i64 0, .int .i64 0], .int .i64 111]) (by simp [results, Tryd.results47, go_sem]) rfl ⟨rfl, (Below.refl _ _).alloc (Nat.le_refl _) _⟩
theorem rname_any (i : Int) (nm : List UInt8) (a b x p f : Int) (w : World) (h : Calls Tryd.prog 47 #[.int .i64 i] w fun e w' => e = .returned (.tuple #[.agg #[.string ⟨nm.toArray⟩, .int .i64 a, .int .i64 b, .int .i64 x, .int .i64 p], .int .i64 f]) ∧ Below w.heap.size w w') :
  Calls Tryd.prog 34 #[.int .i64 i] w fun e w' => e = .returned (.tuple #[.string ⟨nm.toArray⟩, .int .i64 f]) ∧ Below w.heap.size w w' := by
 have H := yA h
 clear h
 go_enter Tryd.func34, Tryd.ntmps34
 go_wp2_with fail
 refine H.out.mono ?_
 rintro e w1 ⟨rfl, hb⟩
 go_wp2
 go_ret2
 exact ⟨rfl, hb.alloc hb.size _⟩
theorem roperands_any (i : Int) (nm : List UInt8) (a b x p f : Int) (w : World) (h : Calls Tryd.prog 47 #[.int .i64 i] w fun e w' => e = .returned (.tuple #[.agg #[.string ⟨nm.toArray⟩, .int .i64 a, .int .i64 b, .int .i64 x, .int .i64 p], .int .i64 f]) ∧ Below w.heap.size w w') :
  Calls Tryd.prog 36 #[.int .i64 i] w fun e w' => e = .returned (.tuple #[.int .i64 (if f = 0 then (if 0 ≤ a then 1 else 0) + (if 0 ≤ b then 1 else 0) else 0), .int .i64 f]) ∧ Below w.heap.size w w' := by
 have H := yA h
 clear h
 by_cases hf : f = 0
 ·subst hf
  rcases Int.lt_or_le a 0 with ha | ha <;> rcases Int.lt_or_le b 0 with hb | hb
  all_goals
   go_enter Tryd.func36, Tryd.ntmps36
   go_wp2_with fail
   refine H.out.mono ?_
   rintro e w1 ⟨rfl, hb⟩
   go_wp2
   go_ret2
   exact ⟨rfl, hb.alloc hb.size _⟩
 ·have hf1 : (f != 0) = true := by simpa using hf
  go_enter Tryd.func36, Tryd.ntmps36
  go_wp2_with fail
  refine H.out.mono ?_
  rintro e w1 ⟨rfl, hb⟩
  go_wp2
  go_ret2
  exact ⟨by simp [hf], hb.alloc hb.size _⟩
end
theorem open_st3 {H : Type} {enc : TypeId × Value → H} {P : Program} {w : World} {base b0 : Nat} {spare : Nat → Bool} {held : Bool} {r : Reach} {t e : TypeId} {f0 f1 f2 : Field} {v : Value} {d : DataW H} {p : List MemPlace}
  (hs : P.underlying t = some (.struct #[f0, f1, f2])) (he : P.underlying e = some (.int .i64)) (hk : (Deep.oneCellFields P #[f0, f1, f2] && P.cellsOf t == 3 && f0.type == e && f1.type == e && f2.type == e) = true)
  (hv : Value.okWide P w r b0 t v) (h : DataW.Trod enc P w base spare held t v d p) :
  ∃ x y z : Int, v = .agg #[.int .i64 x, .int .i64 y, .int .i64 z] ∧ d = .agg [.lit (.int .i64 x), .lit (.int .i64 y), .lit (.int .i64 z)] ∧ p = [] ∧ (Lit.int .i64 x).wf = true ∧ (Lit.int .i64 y).wf = true ∧ (Lit.int .i64 z).wf = true := by
 simp only [Bool.and_eq_true, beq_iff_eq] at hk
 obtain ⟨⟨⟨⟨hone, hC⟩, rfl⟩, h1⟩, h2⟩ := hk
 obtain ⟨v0, v1, v2, y0, y1, y2, n, rfl, rfl, rfl, t0, t1, t2⟩ := Joins.open_agg3 hs hone hC hv h
 rw [h1] at t1
 rw [h2] at t2
 obtain ⟨x, e0, e1, e2⟩ := DataW.trod_int he t0
 obtain ⟨y, g0, g1, g2⟩ := DataW.trod_int he t1
 obtain ⟨z, k0, k1, k2⟩ := DataW.trod_int he t2
 simp only [List.cons.injEq, and_true] at e0 g0 k0
 subst e0 g0 k0 e1 g1 k1
 exact ⟨x, y, z, rfl, rfl, rfl, e2, g2, k2⟩
theorem shut_st3 {H : Type} {enc : TypeId × Value → H} {P : Program} {w : World} {base : Nat} {spare : Nat → Bool} {held : Bool} {t e : TypeId} {f0 f1 f2 : Field} {x y z : Int}
  (hs : P.underlying t = some (.struct #[f0, f1, f2])) (he : P.underlying e = some (.int .i64)) (hk : (Deep.oneCellFields P #[f0, f1, f2] && P.cellsOf t == 3 && f0.type == e && f1.type == e && f2.type == e) = true)
  (hx : (Lit.int .i64 x).wf = true) (hy : (Lit.int .i64 y).wf = true) (hz : (Lit.int .i64 z).wf = true) :
  DataW.Trod enc P w base spare held t (.agg #[.int .i64 x, .int .i64 y, .int .i64 z]) (.agg [.lit (.int .i64 x), .lit (.int .i64 y), .lit (.int .i64 z)]) [] := by
 simp only [Bool.and_eq_true, beq_iff_eq] at hk
 obtain ⟨⟨⟨⟨hone, hC⟩, rfl⟩, h1⟩, h2⟩ := hk
 exact Joins.shut_agg3 (y0 := (.lit (.int .i64 x), [])) (y1 := (.lit (.int .i64 y), [])) (y2 := (.lit (.int .i64 z), [])) hs hone hC ⟨1, trod_int_mk 0 he hx⟩ ⟨1, by rw [h1]; exact trod_int_mk 0 he hy⟩ ⟨1, by rw [h2]; exact trod_int_mk 0 he hz⟩
def okB (a b x y : Int) : Bool := decide (0 ≤ x ∧ x ≤ a ∧ 0 ≤ y ∧ y ≤ b)
def valid (op x y : Int) : Int := if 0 ≤ op ∧ op < 29 ∧ okB (kat op.toNat).a (kat op.toNat).b x y = true then 0 else 111
theorem bounds_ok : ∀ i : Nat, i < 29 → ((bat i).1 < 0 ∧ (kat i).a = 0 ∨ 0 ≤ (bat i).1 ∧ (kat i).a = (bat i).1) ∧ ((bat i).2 < 0 ∧ (kat i).b = 0 ∨ 0 ≤ (bat i).2 ∧ (kat i).b = (bat i).2) := by
 intro i hi
 have : ∀ i : Nat, i < 29 → (decide ((bat i).1 < 0 ∧ (kat i).a = 0 ∨ 0 ≤ (bat i).1 ∧ (kat i).a = (bat i).1) && decide ((bat i).2 < 0 ∧ (kat i).b = 0 ∨ 0 ≤ (bat i).2 ∧ (kat i).b = (bat i).2)) = true
  | 0, _ => by decide
  | 1, _ => by decide
  | 2, _ => by decide
  | 3, _ => by decide
  | 4, _ => by decide
  | 5, _ => by decide
  | 6, _ => by decide
  | 7, _ => by decide
  | 8, _ => by decide
  | 9, _ => by decide
  | 10, _ => by decide
  | 11, _ => by decide
  | 12, _ => by decide
  | 13, _ => by decide
  | 14, _ => by decide
  | 15, _ => by decide
  | 16, _ => by decide
  | 17, _ => by decide
  | 18, _ => by decide
  | 19, _ => by decide
  | 20, _ => by decide
  | 21, _ => by decide
  | 22, _ => by decide
  | 23, _ => by decide
  | 24, _ => by decide
  | 25, _ => by decide
  | 26, _ => by decide
  | 27, _ => by decide
  | 28, _ => by decide
  | n + 29, h => by omega
 have h := this i hi
 rw [Bool.and_eq_true] at h
 exact ⟨yN h.1, yN h.2⟩
set_option maxHeartbeats 2000000 in
set_option maxRecDepth 100000 in
theorem valid_in (i : Nat) (hi : i < 29) (x y : Int) (w : World) (t : TypeId) (fr : Nat × Nat) (hK : w.heap[0]? = some (.cells kA t fr)) :
  Calls Tryd.prog 12 #[.agg #[.int .i64 i, .int .i64 x, .int .i64 y]] w fun e w' => e = .returned (.int .i64 (valid i x y)) ∧ Below w.heap.size w w' := by
 have HV : Aside0 (valid i x y = if okB (kat i).a (kat i).b x y = true then 0 else 111) := ⟨by
  unfold valid; rw [Int.toNat_natCast]
  have : 0 ≤ (i : Int) ∧ (i : Int) < 29 := by omega
  simp only [this.1, this.2, true_and]⟩
 have hlt : 0 < w.heap.size := blk_lt' hK
 have hc0 : w.cell? ⟨0, i * 6, none⟩ = some (.string ⟨(kat i).nm.toArray⟩) := (cell_of_row w 0 (i * 6) kA t fr hK).trans (kA_get i 0 hi (by omega))
 have hc1 : w.cell? ⟨0, i * 6 + 1, none⟩ = some (.int .i64 (kat i).n) := (cell_of_row w 0 (i * 6 + 1) kA t fr hK).trans (kA_get i 1 hi (by omega))
 have hc2 : w.cell? ⟨0, i * 6 + 2, none⟩ = some (.int .i64 (kat i).a) := (cell_of_row w 0 (i * 6 + 2) kA t fr hK).trans (kA_get i 2 hi (by omega))
 have hc3 : w.cell? ⟨0, i * 6 + 3, none⟩ = some (.int .i64 (kat i).b) := (cell_of_row w 0 (i * 6 + 3) kA t fr hK).trans (kA_get i 3 hi (by omega))
 have hc4 : w.cell? ⟨0, i * 6 + 4, none⟩ = some (.int .i64 (kat i).t) := (cell_of_row w 0 (i * 6 + 4) kA t fr hK).trans (kA_get i 4 hi (by omega))
 have hc5 : w.cell? ⟨0, i * 6 + 5, none⟩ = some (.int .i64 (kat i).p) := (cell_of_row w 0 (i * 6 + 5) kA t fr hK).trans (kA_get i 5 hi (by omega))
 have HE : Aside0 (knownB (i : Int) = true) := ⟨knownB_in (by omega)⟩
 clear hK
 generalize kat i = r at *
 obtain ⟨nm, n, a, b, tk, p⟩ := r
 simp only at HV hc0 hc1 hc2 hc3 hc4 hc5
 by_cases ho : 0 ≤ x ∧ x ≤ a ∧ 0 ≤ y ∧ y ≤ b
 ·have HO : Aside0 (okB a b x y = true) := ⟨yL ho⟩
  obtain ⟨g1, g2, g3, g4⟩ := ho
  have k1 : ¬ x < 0 := by omega
  have k2 : ¬ a < x := by omega
  have k3 : ¬ y < 0 := by omega
  have k4 : ¬ b < y := by omega
  go_enter Tryd.func12, Tryd.ntmps12
  go_wp2_with (go_at_call 30; refine (known_any _ _).mono ?_; rintro e w' ⟨rfl, rfl⟩; rw [HE.out])
  go_ret
  exact ⟨by rw [HV.out, if_pos HO.out]; rfl, ((Below.refl _ _).alloc (Nat.le_refl _) _).alloc (by simp) _⟩
 ·have HO : Aside0 (okB a b x y = false) := ⟨yM ho⟩
  have hw : x < 0 ∨ 0 ≤ x ∧ a < x ∨ 0 ≤ x ∧ x ≤ a ∧ y < 0 ∨ 0 ≤ x ∧ x ≤ a ∧ 0 ≤ y ∧ b < y := by omega
  clear ho
  rcases hw with g | ⟨g, g2⟩ | ⟨g, g2, g3⟩ | ⟨g, g2, g3, g4⟩
  all_goals
   go_enter Tryd.func12, Tryd.ntmps12
   go_wp2_with (go_at_call 30; refine (known_any _ _).mono ?_; rintro e w' ⟨rfl, rfl⟩; rw [HE.out])
   go_ret
   exact ⟨by rw [HV.out, HO.out]; rfl, ((Below.refl _ _).alloc (Nat.le_refl _) _).alloc (by simp) _⟩
set_option maxHeartbeats 2000000 in
set_option maxRecDepth 100000 in
theorem valid_out (i : Int) (hi : ¬ (0 ≤ i ∧ i < 29)) (x y : Int) (w : World) :
  Calls Tryd.prog 12 #[.agg #[.int .i64 i, .int .i64 x, .int .i64 y]] w fun e w' => e = .returned (.int .i64 (valid i x y)) ∧ Below w.heap.size w w' := by
 have HV : Aside0 (valid i x y = 111) := ⟨by unfold valid; rw [if_neg (fun h => hi ⟨h.1, h.2.1⟩)]⟩
 have HE : Aside0 (knownB i = false) := ⟨knownB_out hi⟩
 clear hi
 go_enter Tryd.func12, Tryd.ntmps12
 go_wp2_with (go_at_call 30; refine (known_any _ _).mono ?_; rintro e w' ⟨rfl, rfl⟩; rw [HE.out])
 go_ret
 exact ⟨by rw [HV.out]; rfl, (Below.refl _ _).alloc (Nat.le_refl _) _⟩
theorem valid_any (i x y : Int) (w : World) (t : TypeId) (fr : Nat × Nat) (hK : w.heap[0]? = some (.cells kA t fr)) :
  Calls Tryd.prog 12 #[.agg #[.int .i64 i, .int .i64 x, .int .i64 y]] w fun e w' => e = .returned (.int .i64 (valid i x y)) ∧ Below w.heap.size w w' := by
 by_cases h : 0 ≤ i ∧ i < 29
 ·obtain ⟨j, rfl⟩ : ∃ j : Nat, i = j := ⟨i.toNat, by omega⟩
  exact valid_in j (by omega) x y w t fr hK
 ·exact valid_out i h x y w
def inB (v bound : Int) : Bool := if bound < 0 then decide (v = 0) else decide (0 ≤ v ∧ v ≤ bound)
theorem within_any (v bound : Int) (w : World) : Calls Tryd.prog 48 #[.int .i64 v, .int .i64 bound] w fun e w' => e = .returned (.bool (inB v bound)) ∧ w' = w := by
 rcases (show (bound < 0 ∧ v = 0) ∨ (bound < 0 ∧ v ≠ 0) ∨ (0 ≤ bound ∧ v < 0) ∨ (0 ≤ bound ∧ 0 ≤ v ∧ v ≤ bound) ∨ (0 ≤ bound ∧ 0 ≤ v ∧ bound < v) by omega) with ⟨h, rfl⟩ | ⟨h, h2⟩ | ⟨h, h2⟩ | ⟨h, h2, h3⟩ | ⟨h, h2, h3⟩
 ·have HE : Aside0 (inB 0 bound = true) := ⟨by unfold inB; rw [if_pos h]; rfl⟩
  go_enter Tryd.func48, Tryd.ntmps48
  go_wp2
  go_ret
  exact ⟨by rw [HE.out]; rfl, rfl⟩
 ·have HE : Aside0 (inB v bound = false) := ⟨by unfold inB; rw [if_pos h]; exact yM h2⟩
  have h4 : (v == 0) = false := beq_eq_false_iff_ne.2 h2
  go_enter Tryd.func48, Tryd.ntmps48
  go_wp2
  go_ret
  exact ⟨by rw [HE.out]; rfl, rfl⟩
 ·have HE : Aside0 (inB v bound = false) := ⟨by unfold inB; rw [if_neg (by omega)]; exact yM (by omega)⟩
  go_enter Tryd.func48, Tryd.ntmps48
  go_wp2
  go_ret
  exact ⟨by rw [HE.out]; rfl, rfl⟩
 ·have HE : Aside0 (inB v bound = true) := ⟨by unfold inB; rw [if_neg (by omega)]; exact yL (by omega)⟩
  go_enter Tryd.func48, Tryd.ntmps48
  go_wp2
  go_ret
  exact ⟨by rw [HE.out]; rfl, rfl⟩
 ·have HE : Aside0 (inB v bound = false) := ⟨by unfold inB; rw [if_neg (by omega)]; exact yM (by omega)⟩
  have h4 : ¬ v ≤ bound := by omega
  go_enter Tryd.func48, Tryd.ntmps48
  go_wp2
  go_ret
  exact ⟨by rw [HE.out]; rfl, rfl⟩
set_option maxHeartbeats 2000000 in
set_option maxRecDepth 100000 in
theorem rvalid_of (i x y : Int) (nm : List UInt8) (a b xx p f : Int) (r : Int) (w : World) (ha : (f != 0) = true ∧ r = f ∨ (f != 0) = false ∧ r = if (inB x a && inB y b) = true then 0 else 111)
  (h : ∀ W : World, Below w.heap.size w W → Calls Tryd.prog 47 #[.int .i64 i] W fun e w' => e = .returned (.tuple #[.agg #[.string ⟨nm.toArray⟩, .int .i64 a, .int .i64 b, .int .i64 xx, .int .i64 p], .int .i64 f]) ∧ Below W.heap.size W w') :
  Calls Tryd.prog 33 #[.agg #[.int .i64 i, .int .i64 x, .int .i64 y]] w fun e w' => e = .returned (.int .i64 r) ∧ Below w.heap.size w w' := by
 have H := yA h
 clear h
 rcases ha with ⟨h1, rfl⟩ | ⟨h1, h2⟩
 ·go_enter Tryd.func33, Tryd.ntmps33
  go_wp2_with fail
  refine (H.out _ ((Below.refl _ _).alloc (Nat.le_refl _) _)).mono ?_
  rintro e w1 ⟨rfl, hb⟩
  go_wp2
  go_ret
  exact ⟨rfl, (yB ((Below.refl _ _).alloc (Nat.le_refl _) _) hb).alloc (Nat.le_trans (by simp) hb.size) _⟩
 ·cases hA : inB x a <;> cases hB : inB y b
  all_goals
   rw [hA, hB] at h2
   simp only [Bool.and_true, Bool.and_false, Bool.true_and, Bool.false_and, if_true, Bool.false_eq_true, if_false] at h2
   subst h2
   go_enter Tryd.func33, Tryd.ntmps33
   go_wp2_with fail
   refine (H.out _ ((Below.refl _ _).alloc (Nat.le_refl _) _)).mono ?_
   rintro e w1 ⟨rfl, hb⟩
   have HB := yA hb
   have hbk := yC (blk_new _ _) hb
   have c1 : w1.cell? ⟨w.heap.size, 1, none⟩ = some (.int .i64 x) := yR hbk 1
   have c2 : w1.cell? ⟨w.heap.size, 2, none⟩ = some (.int .i64 y) := yR hbk 2
   have hsz : w.heap.size < w1.heap.size := by have := hb.size; simp at this; omega
   clear hb hbk
   go_wp2_with (go_at_call 48; refine (within_any _ _ _).mono ?_; rintro e w' ⟨rfl, rfl⟩)
   go_ret
   exact ⟨rfl, (yB ((Below.refl _ _).alloc (Nat.le_refl _) _) HB.out).alloc (Nat.le_trans (by simp) HB.out.size) _⟩
theorem rvalid_any (i x y : Int) (w : World) (t : TypeId) (fr : Nat × Nat) (hT : w.heap[3]? = some (.cells tA t fr)) :
  Calls Tryd.prog 33 #[.agg #[.int .i64 i, .int .i64 x, .int .i64 y]] w fun e w' => e = .returned (.int .i64 (valid i x y)) ∧ Below w.heap.size w w' := by
 by_cases h : 0 ≤ i ∧ i < 29
 ·obtain ⟨j, rfl⟩ : ∃ j : Nat, i = j := ⟨i.toNat, by omega⟩
  have hj : j < 29 := by omega
  refine rvalid_of j x y _ _ _ _ _ 0 _ w (.inr ⟨rfl, ?_⟩) (fun W hb => row_in t fr j hj W (yC hT hb))
  obtain ⟨h1, h2⟩ := bounds_ok j hj
  unfold valid
  rw [Int.toNat_natCast]
  have : (0 ≤ (j : Int) ∧ (j : Int) < 29 ∧ okB (kat j).a (kat j).b x y = true) ↔ ((inB x (bat j).1 && inB y (bat j).2) = true) := by
   unfold okB inB
   rw [Bool.and_eq_true, decide_eq_true_eq]
   constructor
   ·rintro ⟨_, _, g⟩
    constructor
    ·split
     ·apply yL; omega
     ·apply yL; omega
    ·split
     ·apply yL; omega
     ·apply yL; omega
   ·rintro ⟨g1, g2⟩
    refine ⟨by omega, by omega, ?_⟩
    split at g1 <;> split at g2 <;> (have g1 := yN g1; have g2 := yN g2; omega)
  by_cases hc : (inB x (bat j).1 && inB y (bat j).2) = true
  ·rw [if_pos (this.2 hc), if_pos hc]
  ·rw [if_neg (fun h => hc (this.1 h)), if_neg hc]
 ·refine rvalid_of i x y [] 0 0 0 0 111 _ w (.inl ⟨rfl, ?_⟩) (fun W hb => row_out i h W)
  unfold valid
  rw [if_neg (fun h' => h ⟨h'.1, h'.2.1⟩)]
end Go.Proofs.YtjhbiennmambkaaDoor.Pure
