/- Own text: the walks of code.Valid, the reference's Valid, and CodeValids. -/
import Derived.Test.YtknlcpojglhbnaaDoorRefOps
import Derived.Lib.SmallJoins
import Derived.Deep.RegionWith
namespace Go.Proofs.YtknlcpojglhbnaaDoor.Pure
open Go.RowKit Go.ChangeShapes Go.WideShapes Go.Proofs.YtknlcpojglhbnaaDoorW.PrintWords Go.Proofs.YtknlcpojglhbnaaDoorW.PrintLast Go.Proofs.YtknlcpojglhbnaaDoorW.PrintMore
set_option linter.unusedVariables false
set_option linter.unusedSimpArgs false

/-! A struct of three ints by value -/
theorem open_st3 {H : Type} {enc : TypeId × Value → H} {P : Program} {w : World} {base b0 : Nat} {spare : Nat → Bool} {held : Bool} {r : Reach} {t e : TypeId} {f0 f1 f2 : Field} {v : Value} {d : DataW H} {p : List MemPlace}
    (hs : P.underlying t = some (.struct #[f0, f1, f2])) (he : P.underlying e = some (.int .i64)) (hk : (Deep.oneCellFields P #[f0, f1, f2] && P.cellsOf t == 3 && f0.type == e && f1.type == e && f2.type == e) = true)
    (hv : Value.okWide P w r b0 t v) (h : DataW.Trod enc P w base spare held t v d p) :
    ∃ x y z : Int, v = .agg #[.int .i64 x, .int .i64 y, .int .i64 z] ∧ d = .agg [.lit (.int .i64 x), .lit (.int .i64 y), .lit (.int .i64 z)] ∧ p = [] ∧ (Lit.int .i64 x).wf = true ∧ (Lit.int .i64 y).wf = true ∧ (Lit.int .i64 z).wf = true := by
  simp only [Bool.and_eq_true, beq_iff_eq] at hk
  obtain ⟨⟨⟨⟨hone, hC⟩, rfl⟩, h1⟩, h2⟩ := hk
  obtain ⟨v0, v1, v2, y0, y1, y2, n, rfl, rfl, rfl, t0, t1, t2⟩ := Joins.open_agg3 hs hone hC hv h
  rw [h1] at t1
  rw [h2] at t2
  obtain ⟨x, e0, e1, e2⟩ := DataW.trod_int he t0
  obtain ⟨y, g0, g1, g2⟩ := DataW.trod_int he t1
  obtain ⟨z, k0, k1, k2⟩ := DataW.trod_int he t2
  simp only [List.cons.injEq, and_true] at e0 g0 k0
  subst e0 g0 k0 e1 g1 k1
  exact ⟨x, y, z, rfl, rfl, rfl, e2, g2, k2⟩
theorem shut_st3 {H : Type} {enc : TypeId × Value → H} {P : Program} {w : World} {base : Nat} {spare : Nat → Bool} {held : Bool} {t e : TypeId} {f0 f1 f2 : Field} {x y z : Int}
    (hs : P.underlying t = some (.struct #[f0, f1, f2])) (he : P.underlying e = some (.int .i64)) (hk : (Deep.oneCellFields P #[f0, f1, f2] && P.cellsOf t == 3 && f0.type == e && f1.type == e && f2.type == e) = true)
    (hx : (Lit.int .i64 x).wf = true) (hy : (Lit.int .i64 y).wf = true) (hz : (Lit.int .i64 z).wf = true) :
    DataW.Trod enc P w base spare held t (.agg #[.int .i64 x, .int .i64 y, .int .i64 z]) (.agg [.lit (.int .i64 x), .lit (.int .i64 y), .lit (.int .i64 z)]) [] := by
  simp only [Bool.and_eq_true, beq_iff_eq] at hk
  obtain ⟨⟨⟨⟨hone, hC⟩, rfl⟩, h1⟩, h2⟩ := hk
  exact Joins.shut_agg3 (y0 := (.lit (.int .i64 x), [])) (y1 := (.lit (.int .i64 y), [])) (y2 := (.lit (.int .i64 z), [])) hs hone hC ⟨1, trod_int_mk 0 he hx⟩ ⟨1, by rw [h1]; exact trod_int_mk 0 he hy⟩ ⟨1, by rw [h2]; exact trod_int_mk 0 he hz⟩

/-- Is an instruction with this row one within the bounds? -/
def okB (a b x y : Int) : Bool := decide (0 ≤ x ∧ x ≤ a ∧ 0 ≤ y ∧ y ≤ b)
/-- What Valid answers. -/
def valid (op x y : Int) : Int := if 0 ≤ op ∧ op < 29 ∧ okB (kat op.toNat).a (kat op.toNat).b x y = true then 0 else 111
theorem bounds_ok : ∀ i : Nat, i < 29 → ((bat i).1 < 0 ∧ (kat i).a = 0 ∨ 0 ≤ (bat i).1 ∧ (kat i).a = (bat i).1) ∧ ((bat i).2 < 0 ∧ (kat i).b = 0 ∨ 0 ≤ (bat i).2 ∧ (kat i).b = (bat i).2) := by
  intro i hi
  have : ∀ i : Nat, i < 29 → (decide ((bat i).1 < 0 ∧ (kat i).a = 0 ∨ 0 ≤ (bat i).1 ∧ (kat i).a = (bat i).1) && decide ((bat i).2 < 0 ∧ (kat i).b = 0 ∨ 0 ≤ (bat i).2 ∧ (kat i).b = (bat i).2)) = true
    | 0, _ => by decide
    | 1, _ => by decide
    | 2, _ => by decide
    | 3, _ => by decide
    | 4, _ => by decide
    | 5, _ => by decide
    | 6, _ => by decide
    | 7, _ => by decide
    | 8, _ => by decide
    | 9, _ => by decide
    | 10, _ => by decide
    | 11, _ => by decide
    | 12, _ => by decide
    | 13, _ => by decide
    | 14, _ => by decide
    | 15, _ => by decide
    | 16, _ => by decide
    | 17, _ => by decide
    | 18, _ => by decide
    | 19, _ => by decide
    | 20, _ => by decide
    | 21, _ => by decide
    | 22, _ => by decide
    | 23, _ => by decide
    | 24, _ => by decide
    | 25, _ => by decide
    | 26, _ => by decide
    | 27, _ => by decide
    | 28, _ => by decide
    | n + 29, h => by omega
  have h := this i hi
  rw [Bool.and_eq_true] at h
  exact ⟨of_decide_eq_true h.1, of_decide_eq_true h.2⟩
set_option maxHeartbeats 2000000 in
set_option maxRecDepth 100000 in
theorem valid_in (i : Nat) (hi : i < 29) (x y : Int) (w : World) (t : TypeId) (fr : Nat × Nat) (hK : w.heap[0]? = some (.cells kA t fr)) :
    Calls Tryd.prog 16 #[.agg #[.int .i64 i, .int .i64 x, .int .i64 y]] w fun e w' => e = .returned (.int .i64 (valid i x y)) ∧ Below w.heap.size w w' := by
  have HV : Aside0 (valid i x y = if okB (kat i).a (kat i).b x y = true then 0 else 111) := ⟨by
    unfold valid; rw [Int.toNat_natCast]
    have : 0 ≤ (i : Int) ∧ (i : Int) < 29 := by omega
    simp only [this.1, this.2, true_and]⟩
  have hlt : 0 < w.heap.size := blk_lt' hK
  have hc0 : w.cell? ⟨0, i * 6, none⟩ = some (.string ⟨(kat i).nm.toArray⟩) := (cell_of_row w 0 (i * 6) kA t fr hK).trans (kA_get i 0 hi (by omega))
  have hc1 : w.cell? ⟨0, i * 6 + 1, none⟩ = some (.int .i64 (kat i).n) := (cell_of_row w 0 (i * 6 + 1) kA t fr hK).trans (kA_get i 1 hi (by omega))
  have hc2 : w.cell? ⟨0, i * 6 + 2, none⟩ = some (.int .i64 (kat i).a) := (cell_of_row w 0 (i * 6 + 2) kA t fr hK).trans (kA_get i 2 hi (by omega))
  have hc3 : w.cell? ⟨0, i * 6 + 3, none⟩ = some (.int .i64 (kat i).b) := (cell_of_row w 0 (i * 6 + 3) kA t fr hK).trans (kA_get i 3 hi (by omega))
  have hc4 : w.cell? ⟨0, i * 6 + 4, none⟩ = some (.int .i64 (kat i).t) := (cell_of_row w 0 (i * 6 + 4) kA t fr hK).trans (kA_get i 4 hi (by omega))
  have hc5 : w.cell? ⟨0, i * 6 + 5, none⟩ = some (.int .i64 (kat i).p) := (cell_of_row w 0 (i * 6 + 5) kA t fr hK).trans (kA_get i 5 hi (by omega))
  have HE : Aside0 (knownB (i : Int) = true) := ⟨knownB_in (by omega)⟩
  clear hK
  generalize kat i = r at *
  obtain ⟨nm, n, a, b, tk, p⟩ := r
  simp only at HV hc0 hc1 hc2 hc3 hc4 hc5
  by_cases ho : 0 ≤ x ∧ x ≤ a ∧ 0 ≤ y ∧ y ≤ b
  · have HO : Aside0 (okB a b x y = true) := ⟨decide_eq_true ho⟩
    obtain ⟨g1, g2, g3, g4⟩ := ho
    have k1 : ¬ x < 0 := by omega
    have k2 : ¬ a < x := by omega
    have k3 : ¬ y < 0 := by omega
    have k4 : ¬ b < y := by omega
    go_enter Tryd.func16, Tryd.ntmps16
    go_wp2_with (go_at_call 33; refine (known_any _ _).mono ?_; rintro e w' ⟨rfl, rfl⟩; rw [HE.out])
    go_ret
    exact ⟨by rw [HV.out, if_pos HO.out]; rfl, ((Below.refl _ _).alloc (Nat.le_refl _) _).alloc (by simp) _⟩
  · have HO : Aside0 (okB a b x y = false) := ⟨decide_eq_false ho⟩
    have hw : x < 0 ∨ 0 ≤ x ∧ a < x ∨ 0 ≤ x ∧ x ≤ a ∧ y < 0 ∨ 0 ≤ x ∧ x ≤ a ∧ 0 ≤ y ∧ b < y := by omega
    clear ho
    rcases hw with g | ⟨g, g2⟩ | ⟨g, g2, g3⟩ | ⟨g, g2, g3, g4⟩
    all_goals
      go_enter Tryd.func16, Tryd.ntmps16
      go_wp2_with (go_at_call 33; refine (known_any _ _).mono ?_; rintro e w' ⟨rfl, rfl⟩; rw [HE.out])
      go_ret
      exact ⟨by rw [HV.out, HO.out]; rfl, ((Below.refl _ _).alloc (Nat.le_refl _) _).alloc (by simp) _⟩
set_option maxHeartbeats 2000000 in
set_option maxRecDepth 100000 in
theorem valid_out (i : Int) (hi : ¬ (0 ≤ i ∧ i < 29)) (x y : Int) (w : World) :
    Calls Tryd.prog 16 #[.agg #[.int .i64 i, .int .i64 x, .int .i64 y]] w fun e w' => e = .returned (.int .i64 (valid i x y)) ∧ Below w.heap.size w w' := by
  have HV : Aside0 (valid i x y = 111) := ⟨by unfold valid; rw [if_neg (fun h => hi ⟨h.1, h.2.1⟩)]⟩
  have HE : Aside0 (knownB i = false) := ⟨knownB_out hi⟩
  clear hi
  go_enter Tryd.func16, Tryd.ntmps16
  go_wp2_with (go_at_call 33; refine (known_any _ _).mono ?_; rintro e w' ⟨rfl, rfl⟩; rw [HE.out])
  go_ret
  exact ⟨by rw [HV.out]; rfl, (Below.refl _ _).alloc (Nat.le_refl _) _⟩
theorem valid_any (i x y : Int) (w : World) (t : TypeId) (fr : Nat × Nat) (hK : w.heap[0]? = some (.cells kA t fr)) :
    Calls Tryd.prog 16 #[.agg #[.int .i64 i, .int .i64 x, .int .i64 y]] w fun e w' => e = .returned (.int .i64 (valid i x y)) ∧ Below w.heap.size w w' := by
  by_cases h : 0 ≤ i ∧ i < 29
  · obtain ⟨j, rfl⟩ : ∃ j : Nat, i = j := ⟨i.toNat, by omega⟩
    exact valid_in j (by omega) x y w t fr hK
  · exact valid_out i h x y w
/-- Is a number within a bound (-1: none)? -/
def inB (v bound : Int) : Bool := if bound < 0 then decide (v = 0) else decide (0 ≤ v ∧ v ≤ bound)
theorem within_any (v bound : Int) (w : World) : Calls Tryd.prog 35 #[.int .i64 v, .int .i64 bound] w fun e w' => e = .returned (.bool (inB v bound)) ∧ w' = w := by
  rcases (show (bound < 0 ∧ v = 0) ∨ (bound < 0 ∧ v ≠ 0) ∨ (0 ≤ bound ∧ v < 0) ∨ (0 ≤ bound ∧ 0 ≤ v ∧ v ≤ bound) ∨ (0 ≤ bound ∧ 0 ≤ v ∧ bound < v) by omega) with ⟨h, rfl⟩ | ⟨h, h2⟩ | ⟨h, h2⟩ | ⟨h, h2, h3⟩ | ⟨h, h2, h3⟩
  · have HE : Aside0 (inB 0 bound = true) := ⟨by unfold inB; rw [if_pos h]; rfl⟩
    go_enter Tryd.func35, Tryd.ntmps35
    go_wp2
    go_ret
    exact ⟨by rw [HE.out]; rfl, rfl⟩
  · have HE : Aside0 (inB v bound = false) := ⟨by unfold inB; rw [if_pos h]; exact decide_eq_false h2⟩
    have h4 : (v == 0) = false := beq_eq_false_iff_ne.2 h2
    go_enter Tryd.func35, Tryd.ntmps35
    go_wp2
    go_ret
    exact ⟨by rw [HE.out]; rfl, rfl⟩
  · have HE : Aside0 (inB v bound = false) := ⟨by unfold inB; rw [if_neg (by omega)]; exact decide_eq_false (by omega)⟩
    go_enter Tryd.func35, Tryd.ntmps35
    go_wp2
    go_ret
    exact ⟨by rw [HE.out]; rfl, rfl⟩
  · have HE : Aside0 (inB v bound = true) := ⟨by unfold inB; rw [if_neg (by omega)]; exact decide_eq_true (by omega)⟩
    go_enter Tryd.func35, Tryd.ntmps35
    go_wp2
    go_ret
    exact ⟨by rw [HE.out]; rfl, rfl⟩
  · have HE : Aside0 (inB v bound = false) := ⟨by unfold inB; rw [if_neg (by omega)]; exact decide_eq_false (by omega)⟩
    have h4 : ¬ v ≤ bound := by omega
    go_enter Tryd.func35, Tryd.ntmps35
    go_wp2
    go_ret
    exact ⟨by rw [HE.out]; rfl, rfl⟩
theorem bcell {W w1 : World} (hb : Below W.heap.size W w1) : (∀ b o, b < W.heap.size → w1.cell? ⟨b, o, none⟩ = W.cell? ⟨b, o, none⟩) ∧ (∀ b o, b < W.heap.size → w1.frozen? ⟨b, o, none⟩ = W.frozen? ⟨b, o, none⟩) :=
  ⟨fun b o h => hb.cell (p := ⟨b, o, none⟩) h, fun b o h => hb.frozen (p := ⟨b, o, none⟩) h⟩
set_option maxHeartbeats 2000000 in
set_option maxRecDepth 100000 in
theorem rvalid_of (i x y : Int) (nm : List UInt8) (a b xx p f : Int) (r : Int) (w : World) (ha : (f != 0) = true ∧ r = f ∨ (f != 0) = false ∧ r = if (inB x a && inB y b) = true then 0 else 111)
    (h : ∀ W : World, Below w.heap.size w W → Calls Tryd.prog 34 #[.int .i64 i] W fun e w' => e = .returned (.tuple #[.agg #[.string ⟨nm.toArray⟩, .int .i64 a, .int .i64 b, .int .i64 xx, .int .i64 p], .int .i64 f]) ∧ Below W.heap.size W w') :
    Calls Tryd.prog 17 #[.agg #[.int .i64 i, .int .i64 x, .int .i64 y]] w fun e w' => e = .returned (.int .i64 r) ∧ Below w.heap.size w w' := by
  have H := Aside0.mk h
  clear h
  rcases ha with ⟨h1, rfl⟩ | ⟨h1, h2⟩
  · go_enter Tryd.func17, Tryd.ntmps17
    go_wp2_with fail
    refine (H.out _ ((Below.refl _ _).alloc (Nat.le_refl _) _)).mono ?_
    rintro e w1 ⟨rfl, hb⟩
    go_wp2
    go_ret
    exact ⟨rfl, (below_step ((Below.refl _ _).alloc (Nat.le_refl _) _) hb).alloc (Nat.le_trans (by simp) hb.size) _⟩
  · cases hA : inB x a <;> cases hB : inB y b
    all_goals
      rw [hA, hB] at h2
      simp only [Bool.and_true, Bool.and_false, Bool.true_and, Bool.false_and, if_true, Bool.false_eq_true, if_false] at h2
      subst h2
      go_enter Tryd.func17, Tryd.ntmps17
      go_wp2_with fail
      refine (H.out _ ((Below.refl _ _).alloc (Nat.le_refl _) _)).mono ?_
      rintro e w1 ⟨rfl, hb⟩
      have HB := Aside0.mk hb
      have hbk := blk_below (blk_new _ _) hb
      have c1 : w1.cell? ⟨w.heap.size, 1, none⟩ = some (.int .i64 x) := blk_cell hbk 1
      have c2 : w1.cell? ⟨w.heap.size, 2, none⟩ = some (.int .i64 y) := blk_cell hbk 2
      have hsz : w.heap.size < w1.heap.size := by have := hb.size; simp at this; omega
      clear hb hbk
      go_wp2_with (go_at_call 35; refine (within_any _ _ _).mono ?_; rintro e w' ⟨rfl, rfl⟩)
      go_ret
      exact ⟨rfl, (below_step ((Below.refl _ _).alloc (Nat.le_refl _) _) HB.out).alloc (Nat.le_trans (by simp) HB.out.size) _⟩
theorem rvalid_any (i x y : Int) (w : World) (t : TypeId) (fr : Nat × Nat) (hT : w.heap[1]? = some (.cells tA t fr)) :
    Calls Tryd.prog 17 #[.agg #[.int .i64 i, .int .i64 x, .int .i64 y]] w fun e w' => e = .returned (.int .i64 (valid i x y)) ∧ Below w.heap.size w w' := by
  by_cases h : 0 ≤ i ∧ i < 29
  · obtain ⟨j, rfl⟩ : ∃ j : Nat, i = j := ⟨i.toNat, by omega⟩
    have hj : j < 29 := by omega
    refine rvalid_of j x y _ _ _ _ _ 0 _ w (.inr ⟨rfl, ?_⟩) (fun W hb => row_in t fr j hj W (blk_below hT hb))
    obtain ⟨h1, h2⟩ := bounds_ok j hj
    unfold valid
    rw [Int.toNat_natCast]
    have : (0 ≤ (j : Int) ∧ (j : Int) < 29 ∧ okB (kat j).a (kat j).b x y = true) ↔ ((inB x (bat j).1 && inB y (bat j).2) = true) := by
      unfold okB inB
      rw [Bool.and_eq_true, decide_eq_true_eq]
      constructor
      · rintro ⟨_, _, g⟩
        constructor
        · split
          · apply decide_eq_true; omega
          · apply decide_eq_true; omega
        · split
          · apply decide_eq_true; omega
          · apply decide_eq_true; omega
      · rintro ⟨g1, g2⟩
        refine ⟨by omega, by omega, ?_⟩
        split at g1 <;> split at g2 <;> (have g1 := of_decide_eq_true g1; have g2 := of_decide_eq_true g2; omega)
    by_cases hc : (inB x (bat j).1 && inB y (bat j).2) = true
    · rw [if_pos (this.2 hc), if_pos hc]
    · rw [if_neg (fun h => hc (this.1 h)), if_neg hc]
  · refine rvalid_of i x y [] 0 0 0 0 111 _ w (.inl ⟨rfl, ?_⟩) (fun W hb => row_out i h W)
    unfold valid
    rw [if_neg (fun h' => h ⟨h'.1, h'.2.1⟩)]
end Go.Proofs.YtknlcpojglhbnaaDoor.Pure
