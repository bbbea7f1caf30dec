/- Own text, for this claim: a view in memory (its table and its columns' map), and what its cell answers. -/
import Derived.Test.YtppojbafagneeaaDoorZTabCell
import Derived.Test.YtppojbafagneeaaDoorZParPrn
namespace Go.Proofs.YtppojbafagneeaaDoor.PTab
open Go.RowKit Go.Maps Go.WideMaps Go.WideElems Go.Proofs.YtppojbafagneeaaDoor.Pure Go.Proofs.YtppojbafagneeaaDoorW.PrintWords Go.Proofs.YtppojbafagneeaaDoorW.PrintLast Go.Proofs.YtppojbafagneeaaDoorW.PrintMore
set_option linter.unusedVariables false
set_option linter.unusedSimpArgs false
theorem OwnsCol.ne {w : World} {b n g : Nat} {D : DataW Unit} {t : TypeId} {cs : Array Value} {f : Nat × Nat} (h : OwnsCol w b n D) (hg : w.heap[g]? = some (.cells cs t f)) : b ≠ g := by
 rintro rfl
 obtain ⟨es, clock, h1, -⟩ := h
 rw [hg] at h1
 cases h1
def colC (l : List ByteArray) (n : ByteArray) : Int := match (colD l 0 (.map [])).atKey (keyS n) (.lit (.int .i64 0)) with
 | .lit (.int .i64 c) => c
 | _ => 0
def cellC (l0 : List ByteArray) (l1 : List (List S52)) (n : ByteArray) (d : Int) : S52 := cellAt (has (colD l0 0 (.map [])) (keyS n)) (colC l0 n) l1 d
theorem nth_app (l : List ByteArray) (x : ByteArray) (p : Nat) (h : p < l.length) : nth (l ++ [x]) p = nth l p := by
 rw [nth_get _ p (by rw [List.length_append]; omega), nth_get l p h, List.getElem_append_left h]
theorem nth_last (l : List ByteArray) (x : ByteArray) : nth (l ++ [x]) l.length = x := by
 rw [nth_get _ l.length (by simp)]
 simp
theorem nth_mem (l : List ByteArray) (j : Nat) (h : j < l.length) : nth l j ∈ l := by
 rw [nth_get l j h]; exact List.getElem_mem h
theorem colD_at : ∀ (l : List ByteArray) (n : ByteArray), ∃ c : Int, 0 ≤ c ∧ (colD l 0 (.map [])).atKey (keyS n) (.lit (.int .i64 0)) = .lit (.int .i64 c) ∧ (n ∈ l → ∃ m : Nat, c = (m : Int) ∧ m < l.length ∧ nth l m = n ∧ ∀ p, p < m → nth l p ≠ n) := by
 refine rev_ind ?_ ?_
 ·intro n
  exact ⟨0, Int.le_refl _, rfl, fun h => by cases h⟩
 ·intro l x ih n
  obtain ⟨h1, h2, -, -⟩ := colD_facts l
  have hm : IsMap (colD l 0 (.map [])) := by obtain ⟨es, e, -⟩ := h1; exact ⟨es, e⟩
  have old : n ∈ l → ∀ c : Int, (n ∈ l → ∃ m : Nat, c = (m : Int) ∧ m < l.length ∧ nth l m = n ∧ ∀ p, p < m → nth l p ≠ n) → ∃ m : Nat, c = (m : Int) ∧ m < (l ++ [x]).length ∧ nth (l ++ [x]) m = n ∧ ∀ p, p < m → nth (l ++ [x]) p ≠ n := by
   intro hn c h
   obtain ⟨m, e, hl, e2, hf⟩ := h hn
   exact ⟨m, e, by rw [List.length_append]; omega, by rw [nth_app l x m hl]; exact e2, fun p hp => by rw [nth_app l x p (by omega)]; exact hf p hp⟩
  obtain ⟨c, hc, hat, hin⟩ := ih n
  rw [colD_snoc]
  by_cases h : has (colD l 0 (.map [])) (keyS x) = true
  ·rw [if_pos h]
   have hx := (h2 x).1 h
   refine ⟨c, hc, hat, fun hn => old ?_ c hin⟩
   rcases List.mem_append.1 hn with h | h
   ·exact h
   ·rw [List.mem_singleton.1 h]; exact hx
  ·rw [if_neg h]
   have hx : ¬ x ∈ l := fun hm => h ((h2 x).2 hm)
   by_cases e : n = x
   ·subst e
    rw [atKey_put_same hm (keyS_key n)]
    refine ⟨_, by omega, rfl, fun _ => ⟨l.length, by omega, by simp, nth_last l n, fun p hp e => hx ?_⟩⟩
    rw [nth_app l n p hp] at e
    rw [← e]; exact nth_mem l p hp
   ·rw [atKey_put_other (fun e' => e (keyS_inj e'))]
    refine ⟨c, hc, hat, fun hn => old ?_ c hin⟩
    rcases List.mem_append.1 hn with h | h
    ·exact h
    ·exact absurd (List.mem_singleton.1 h) e
theorem colC_at (l : List ByteArray) (n : ByteArray) : (colD l 0 (.map [])).atKey (keyS n) (.lit (.int .i64 0)) = .lit (.int .i64 (colC l n)) ∧ 0 ≤ colC l n ∧ (n ∈ l → ∃ m : Nat, colC l n = (m : Int) ∧ m < l.length ∧ nth l m = n ∧ ∀ p, p < m → nth l p ≠ n) := by
 obtain ⟨c, h0, h1, h2⟩ := colD_at l n
 have e : colC l n = c := by unfold colC; rw [h1]
 rw [e]
 exact ⟨h1, h0, h2⟩
theorem cellC_any (A0 : Option Addr) (n0 c0 : Nat) (A1 : Option Addr) (c1 : Nat) (l0 : List ByteArray) (l1 : List (List S52)) (b m : Nat) (nm : ByteArray) (d : Int) (w : World) (h1 : Kd.C (Kd.slice 52 k52) w A1 l1.length l1) (hO : OwnsCol w b m (colD l0 0 (.map []))) (hs : nm.size ≤ 140737488351232) :
  Calls Tryd.prog 42 #[.agg #[.slice A0 n0 c0, .slice A1 l1.length c1, .map (some b)], .string nm, .int .i64 d] w fun e w' => e = .returned (.agg #[.bool (cellC l0 l1 nm d).f0, .int .i64 (cellC l0 l1 nm d).f1]) ∧ Below w.heap.size w w' :=
 cell_any A0 n0 c0 A1 c1 l1 b m _ nm d _ _ w h1 hO hs rfl (colC_at l0 nm).1 (colC_at l0 nm).2.1
theorem viewed_obj (A0 : Option Addr) (c0 : Nat) (l0 : List ByteArray) (A1 : Option Addr) (n1 c1 : Nat) (w : World) (h0 : Kd.C Kd.string w A0 l0.length l0) (hc0 : l0.length ≤ c0) (hs : ∀ n ∈ l0, n.size ≤ 140737488351232) (hl : l0.length ≤ 140737488351232) :
  Calls Tryd.prog 41 #[.agg #[.slice A0 l0.length c0, .slice A1 n1 c1]] w fun e w' => ∃ (b : Nat) (o : Obj), e = .returned (.agg #[.slice A0 l0.length c0, .slice A1 n1 c1, .map (some b)]) ∧ w.heap.size ≤ b ∧ w'.heap[b]? = some o ∧ (∀ W : World, W.heap[b]? = some o → OwnsCol W b l0.length (colD l0 0 (.map []))) ∧ (∀ cs t f, o ≠ .cells cs t f) ∧ Below w.heap.size w w' := by
 refine (viewed_any A0 c0 l0 A1 n1 c1 w h0 hc0 hs hl).mono ?_
 rintro e w1 ⟨b, rfl, hge, ⟨es, clock, h1, h2⟩, hb⟩
 exact ⟨b, _, rfl, hge, h1, fun W hW => ⟨es, clock, hW, h2⟩, (fun cs t f e => by cases e), hb⟩
theorem OwnsCol.obj {w : World} {b n : Nat} {D : DataW Unit} (h : OwnsCol w b n D) : ∃ o : Obj, w.heap[b]? = some o ∧ (∀ W : World, W.heap[b]? = some o → OwnsCol W b n D) ∧ (∀ cs t f, o ≠ .cells cs t f) := by
 obtain ⟨es, clock, h1, h2⟩ := h
 exact ⟨_, h1, fun W hW => ⟨es, clock, hW, h2⟩, fun cs t f e => by cases e⟩
theorem blk_ne_map {w : World} {g b : Nat} {cs : Array Value} {t : TypeId} {f : Nat × Nat} {o : Obj} (h : w.heap[g]? = some (.cells cs t f)) (hb : w.heap[b]? = some o) (ho : ∀ cs t f, o ≠ .cells cs t f) : g ≠ b := by
 rintro rfl
 rw [hb] at h
 injection h with h
 exact ho _ _ _ h
theorem fld52 (w : World) (b : Bool) (i : Int) : (Instr.field 52 (.agg #[.bool b, .int .i64 i]) 0).run Tryd.prog w = .ok (.bool b) w := by kernel_rfl
theorem blk_farO {w : World} {g : Nat} {o : Obj} (h : w.heap[g]? = some o) {p : Addr} (hp : g ≠ p.block) (u : Value) : (w.setCell p u).heap[g]? = some o := (Below.heap_setCell w p u g hp).trans h
theorem R_ne_map {α : Type} {d : Kd α} {e base g : Nat} {w : World} {ok : Nat → Prop} {v : Value} {xs : List α} {o : Obj} (h : d.R e w base ok v xs) (hb : w.heap[g]? = some o) (ho : ∀ cs t f, o ≠ .cells cs t f) : some g ≠ v.ownBlock := by
 intro he
 obtain ⟨cells, hc⟩ := Kd.R_typed h g he.symm
 rw [hb] at hc
 injection hc with hc
 exact ho _ _ _ hc
theorem S_ne_map {α : Type} {d : Kd α} {e base g : Nat} {w : World} {ok : Nat → Prop} {v : Value} {xs : List α} {o : Obj} (h : Kd.S d e w base ok v xs) (hb : w.heap[g]? = some o) (ho : ∀ cs t f, o ≠ .cells cs t f) : some g ≠ v.ownBlock := R_ne_map (Kd.S_R h) hb ho
structure SmallN (l : List ByteArray) : Prop where
 nm : ∀ n ∈ l, n.size ≤ 140737488351232
 ln : l.length ≤ 140737488351232
theorem rd_size {l : List ByteArray} (h : SmallN l) (i : Int) (h0 : 0 ≤ i) (h1 : i < (l.length : Int)) : (rdOf ByteArray.empty l i).size ≤ 140737488351232 := by
 refine h.nm _ ?_
 unfold rdOf
 rw [List.getD_eq_getElem?_getD, List.getElem?_eq_getElem (by omega)]
 exact List.getElem_mem _
def table_view_cell.f (l0 : List ByteArray) (l1 : List (List S52)) (n : ByteArray) (d : Int) : Option (Bool × Int) := if n.size ≤ 140737488351232 then some ((cellC l0 l1 n d).f0, (cellC l0 l1 n d).f1) else none
theorem table_view_cell.calls (A0 : Option Addr) (n0 c0 : Nat) (A1 : Option Addr) (c1 : Nat) (l0 : List ByteArray) (l1 : List (List S52)) (b m : Nat) (n : ByteArray) (d : Int) (r1 : Bool) (r2 : Int) (w : World) (h1 : Kd.C (Kd.slice 52 k52) w A1 l1.length l1) (hO : OwnsCol w b m (colD l0 0 (.map []))) (h : table_view_cell.f l0 l1 n d = some (r1, r2)) :
  Calls Tryd.prog 42 #[.agg #[.slice A0 n0 c0, .slice A1 l1.length c1, .map (some b)], .string n, .int .i64 d] w fun e w' => e = .returned (.agg #[.bool r1, .int .i64 r2]) ∧ Below w.heap.size w w' := by
 unfold table_view_cell.f at h
 split at h
 ·rename_i hs
  simp only [Option.some.injEq, Prod.mk.injEq] at h
  obtain ⟨rfl, rfl⟩ := h
  exact cellC_any A0 n0 c0 A1 c1 l0 l1 b m n d w h1 hO hs
 ·cases h
end Go.Proofs.YtppojbafagneeaaDoor.PTab
