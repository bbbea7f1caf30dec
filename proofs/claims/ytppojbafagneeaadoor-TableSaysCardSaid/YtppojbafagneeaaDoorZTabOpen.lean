/- Own text, for this claim: a table by value, as a law's argument: its names and its rows, as they are read; how great they may be. -/
import Derived.Test.YtppojbafagneeaaDoorZQTab1
import Derived.ProofKit
import Derived.SizedLaws
import Derived.Deep.Slices
import Derived.Lib.SmallJoins
namespace Go.Proofs.YtppojbafagneeaaDoor.Pure
open Go.RowKit Go.ChangeShapes Go.WideShapes Go.ChangeAt Go.Proofs.YtppojbafagneeaaDoor.PTab Go.Proofs.YtppojbafagneeaaDoorW.PrintWords
set_option linter.unusedVariables false
set_option linter.unusedSimpArgs false
theorem weightsAll_mem {H : Type} {P : Program} {e : TypeId} : ∀ {l : List (DataW H)} {d : DataW H}, d ∈ l → ∀ n ∈ d.weights P e, n ∈ DataW.weightsAll P e l
 | x :: l, d, hd, n, hn => by
  simp only [DataW.weightsAll, List.mem_append]
  rcases List.mem_cons.1 hd with rfl | h
  ·exact Or.inl hn
  ·exact Or.inr (weightsAll_mem h n hn)
def WOk {H : Type} (P : Program) (t : TypeId) (d : DataW H) : Prop := ∀ n ∈ d.weights P t, n ≤ 140737488351232
theorem WOk.of {H : Type} {P : Program} {ts : List TypeId} {ds : List (DataW H)} (h : (DataW.weightsEach P ts ds).all (· ≤ reachBytes) = true) {j : Nat} {t : TypeId} {d : DataW H} (ht : ts[j]? = some t) (hd : ds[j]? = some d) : WOk P t d := fun n hn => by
 have := List.all_eq_true.1 h _ (DataW.weights_mem_each ht hd n hn)
 exact yN this
theorem WOk.field {H : Type} {P : Program} {t u : TypeId} {fs : Array Field} {parts : List (DataW H)} {x : DataW H} {j : Nat} (hu : P.underlying t = some (.struct fs)) (hw : WOk P t (.agg parts)) (ht : (fs.toList.map (·.type))[j]? = some u) (hx : parts[j]? = some x) : WOk P u x :=
 fun n hn => hw n (by unfold DataW.weights; rw [hu]; exact DataW.weights_mem_each ht hx n hn)
section
variable {H : Type} {enc : TypeId × Value → H} {W : World} {spare : Nat → Bool} {held : Bool}
theorem row_open {α : Type} (z0 : α) (d : Kd α) (hs1 : 0 < d.sz) {t e : TypeId} {B : Nat} (Q : α → Prop) (hu : Tryd.prog.underlying t = some (.slice e)) (hce : Tryd.prog.cellsOf e = d.sz) (hB : Tryd.prog.bytesOf e = B) (hB0 : 0 < B)
  (each : ∀ n cs (y : DataW H × List MemPlace), cs.length = d.sz → DataW.trod enc Tryd.prog W 0 spare held n e cs = some y → WOk Tryd.prog e y.1 → ∃ x : α, d.K W x cs ∧ Q x)
  {fuel : Nat} {v : Value} {y : DataW H × List MemPlace} (h : DataW.trod enc Tryd.prog W 0 spare held fuel t [v] = some y) (hw : WOk Tryd.prog t y.1) :
  ∃ A c l, v = .slice A l.length c ∧ l.length ≤ c ∧ d.C W A l.length l ∧ l.length * B ≤ 140737488351232 ∧ ∀ x ∈ l, Q x := by
 haveI : Inhabited α := ⟨z0⟩
 rcases Deep.open_slice hu h with ⟨hcs, -⟩ | ⟨x, len, c, m, n, D, Pl, hcs, hb, hl, hm, hmm, hx, hel⟩
 ·obtain rfl := (List.cons.inj hcs).1
  exact ⟨none, 0, [], rfl, Nat.le_refl _, ⟨rfl, by simp, fun h => absurd h (by simp)⟩, by simp, fun x hx => by cases hx⟩
 ·obtain rfl := (List.cons.inj hcs).1
  subst hx
  have hwt : ((List.range len).map D).length * B ≤ 140737488351232 := by
   have := hw (((List.range len).map D).length * B + ((List.range (m - len)).map fun j => D (len + j)).length * B) (by
    rw [← Nat.add_mul, ← hB]
    simp [DataW.weights, hu])
   omega
  have hlm : len ≤ m := by rw [hmm]; split <;> omega
  have ea : ∀ i, i < len → ∃ q : α, (∃ cs', cs'.length = d.sz ∧ (∀ j u, cs'[j]? = some u → W.cell? (x.add (i * d.sz + j)) = some u) ∧ d.K W q cs') ∧ Q q := by
   intro i hi
   obtain ⟨cs', h1, h2⟩ := hel i (by omega)
   rw [hce] at h1
   obtain ⟨_, hlen, hcell⟩ := World.cells?_some h1
   obtain ⟨q, hK, hQ⟩ := each n cs' _ hlen h2 (fun k hk => hw k (by
    simp only [DataW.weights, hu, List.mem_cons, List.mem_append]
    exact Or.inr (Or.inl (weightsAll_mem (List.mem_map.2 ⟨i, List.mem_range.2 hi, rfl⟩) k hk))))
   refine ⟨q, ⟨cs', hlen, fun j u hj => ?_, hK⟩, hQ⟩
   have hjl : j < d.sz := by rw [← hlen]; exact (List.getElem?_eq_some_iff.1 hj).1
   have := hcell j (by omega)
   rw [Deep.add_add, hj] at this
   exact this
  obtain ⟨q, hq⟩ := Deep.choose_lt ea
  have hlr : ((List.range len).map q).length = len := by simp
  refine ⟨some x, c, (List.range len).map q, by rw [hlr], by rw [hlr]; exact hl, ?_, by simpa using hwt, fun p hp => ?_⟩
  ·rw [hlr]
   refine ⟨hlr, ?_, fun _ => ⟨x, rfl, fun j p hj => ?_⟩⟩
   ·simp only [maxLen] at hm; omega
   ·rw [List.getElem?_map] at hj
    obtain ⟨i, hi, rfl⟩ := Option.map_eq_some_iff.1 hj
    obtain ⟨hi1, hi2⟩ := List.getElem?_eq_some_iff.1 hi
    rw [List.getElem_range] at hi2
    subst hi2
    simp only [List.length_range] at hi1
    obtain ⟨⟨cs', a1, a2, a3⟩, -⟩ := hq j hi1
    exact ⟨cs', a1, a3, a2⟩
  ·obtain ⟨i, hi, rfl⟩ := List.mem_map.1 hp
   exact (hq i (List.mem_range.1 hi)).2
theorem names_open {fuel : Nat} {v : Value} {y : DataW H × List MemPlace} (h : DataW.trod enc Tryd.prog W 0 spare held fuel 22 [v] = some y) (hw : WOk Tryd.prog 22 y.1) :
  ∃ A c l, v = .slice A l.length c ∧ l.length ≤ c ∧ Kd.string.C W A l.length l ∧ l.length * 16 ≤ 140737488351232 ∧ ∀ x ∈ l, x.size ≤ 140737488351232 :=
 row_open ByteArray.empty Kd.string (by decide) (fun x => x.size ≤ 140737488351232) Tryd.underlying22 (by kernel_rfl) (by kernel_rfl) (by decide) (fun n cs y hl h hw => by
  obtain ⟨s, hcs, hy, -⟩ := DataW.trod_string Tryd.underlying9 h
  refine ⟨s, hcs, ?_⟩
  rw [hy] at hw
  have := hw s.data.toList.length (by simp [DataW.weights])
  simpa using this) h hw
end
end Go.Proofs.YtppojbafagneeaaDoor.Pure
