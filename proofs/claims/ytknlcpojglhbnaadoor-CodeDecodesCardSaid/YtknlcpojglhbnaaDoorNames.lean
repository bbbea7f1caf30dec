/- Own text: the walk of CodeNames. -/
import Derived.Test.YtknlcpojglhbnaaDoorRefOps
import Derived.Test.YtknlcpojglhbnaaDoorFind
namespace Go.Proofs.YtknlcpojglhbnaaDoor.Pure
open Go.RowKit Go.Proofs.YtknlcpojglhbnaaDoorW.PrintWords Go.Proofs.YtknlcpojglhbnaaDoorW.PrintLast Go.Proofs.YtknlcpojglhbnaaDoorW.PrintMore
set_option linter.unusedVariables false
set_option linter.unusedSimpArgs false

theorem of_laid1 {W : World} (h : laidMetH Tryd.prog [("payoff/code.kinds", Rows.laid_payoff_code_kinds)] W) : ∃ t fr, W.heap[0]? = some (.cells kA t fr) := by
  rw [MakeChecks.laidMetH_plain _ _ _ (by kernel_rfl)] at h
  obtain ⟨ps, ⟨g1, t1, cs1, f1, p1, q1, hg1, ht1, hv1, hd1, _, _⟩, _, _⟩ := h
  obtain rfl := Option.some.inj (gKinds.symm.trans hg1)
  obtain rfl := Option.some.inj (tKinds.symm.trans ht1)
  have h1 := table_cells (e := 54) (n := 29) (m := 6) Tryd.underlying55 (by kernel_rfl) (by kernel_rfl) (by kernel_rfl) hd1
  simp only [World.var?, gKinds, Option.bind_some] at hv1
  split at hv1
  · rename_i c t fr hc
    simp only [Option.some.injEq] at hv1
    subst hv1
    have e : c = kA := by apply Array.ext'; rw [h1]; rfl
    rw [e] at hc; exact ⟨_, _, hc⟩
  · cases hv1
def lookL (l : List UInt8) : List Rw → Int → Int × Int
  | [], _ => (0, 111)
  | r :: t, i => if r.nm = l then (i, 0) else lookL l t (i + 1)
theorem look_L (s : ByteArray) : ∀ (l : List Rw) (i : Int), lookFrom s l i = lookL s.toList l i := by
  intro l
  induction l with
  | nil => intro i; rfl
  | cons r t ih => intro i; rw [lookFrom, lookL, ih]
theorem lookL_name : ∀ i : Nat, i < 29 → lookL (kat i).nm kinds 0 = ((i : Int), 0)
  | 0, _ => rfl
  | 1, _ => rfl
  | 2, _ => rfl
  | 3, _ => rfl
  | 4, _ => rfl
  | 5, _ => rfl
  | 6, _ => rfl
  | 7, _ => rfl
  | 8, _ => rfl
  | 9, _ => rfl
  | 10, _ => rfl
  | 11, _ => rfl
  | 12, _ => rfl
  | 13, _ => rfl
  | 14, _ => rfl
  | 15, _ => rfl
  | 16, _ => rfl
  | 17, _ => rfl
  | 18, _ => rfl
  | 19, _ => rfl
  | 20, _ => rfl
  | 21, _ => rfl
  | 22, _ => rfl
  | 23, _ => rfl
  | 24, _ => rfl
  | 25, _ => rfl
  | 26, _ => rfl
  | 27, _ => rfl
  | 28, _ => rfl
  | n + 29, h => by omega
theorem toList_mk (l : List UInt8) : (⟨l.toArray⟩ : ByteArray).toList = l := by simp
theorem look_name (i : Nat) (hi : i < 29) : look ⟨(kat i).nm.toArray⟩ = ((i : Int), 0) := by
  unfold look
  rw [look_L, toList_mk, lookL_name i hi]
theorem name_inj (i j : Nat) (hi : i < 29) (hj : j < 29) (h : (kat i).nm = (kat j).nm) : i = j := by
  have h1 := lookL_name i hi
  rw [h, lookL_name j hj] at h1
  simp at h1
  omega
theorem name_ne : ∀ i : Nat, i < 29 → ((kat i).nm == []) = false
  | 0, _ => rfl
  | 1, _ => rfl
  | 2, _ => rfl
  | 3, _ => rfl
  | 4, _ => rfl
  | 5, _ => rfl
  | 6, _ => rfl
  | 7, _ => rfl
  | 8, _ => rfl
  | 9, _ => rfl
  | 10, _ => rfl
  | 11, _ => rfl
  | 12, _ => rfl
  | 13, _ => rfl
  | 14, _ => rfl
  | 15, _ => rfl
  | 16, _ => rfl
  | 17, _ => rfl
  | 18, _ => rfl
  | 19, _ => rfl
  | 20, _ => rfl
  | 21, _ => rfl
  | 22, _ => rfl
  | 23, _ => rfl
  | 24, _ => rfl
  | 25, _ => rfl
  | 26, _ => rfl
  | 27, _ => rfl
  | 28, _ => rfl
  | n + 29, h => by omega
set_option maxHeartbeats 2000000 in
set_option maxRecDepth 100000 in
theorem names_out (i j : Int) (sj : List UInt8) (fj : Int) (hi : ¬ (0 ≤ i ∧ i < 29)) (w : World) (t : TypeId) (fr : Nat × Nat) (hK : w.heap[0]? = some (.cells kA t fr))
    (h2 : ∀ W : World, W.heap[0]? = some (.cells kA t fr) → Calls Tryd.prog 18 #[.int .i64 j] W fun e w' => e = .returned (.tuple #[.string ⟨sj.toArray⟩, .int .i64 fj]) ∧ w' = W) :
    Calls Tryd.prog 6 #[.int .i64 i, .int .i64 j] w fun e w' => e = .returned (.bool true) ∧ Below w.heap.size w w' := by
  have HK := Aside0.mk hK
  have H2 := Aside0.mk h2
  have HI := Aside0.mk hi
  clear hK h2
  rcases (show i < 0 ∨ (0 ≤ i ∧ 29 ≤ i) by omega) with h | ⟨h, h'⟩
  all_goals
    clear hi
    go_enter Tryd.func6, Tryd.ntmps6
    go_wp2_with fail
    refine (name_out _ HI.out _).mono ?_
    rintro e w1 ⟨rfl, rfl⟩
    go_wp2_with fail
    refine (H2.out _ HK.out).mono ?_
    rintro e w2 ⟨rfl, rfl⟩
    go_wp2_with fail
    refine (operands_out _ HI.out _).mono ?_
    rintro e w3 ⟨rfl, rfl⟩
    go_wp2_with fail
    refine (effect_out _ HI.out _).mono ?_
    rintro e w4 ⟨rfl, rfl⟩
    go_wp2
    go_ret
    exact ⟨rfl, Below.refl _ _⟩
set_option maxHeartbeats 2000000 in
set_option maxRecDepth 100000 in
theorem names_in (i : Nat) (j : Int) (sj : List UInt8) (fj : Int) (hi : i < 29) (w : World) (t : TypeId) (fr : Nat × Nat) (hK : w.heap[0]? = some (.cells kA t fr))
    (h2 : ∀ W : World, W.heap[0]? = some (.cells kA t fr) → Calls Tryd.prog 18 #[.int .i64 j] W fun e w' => e = .returned (.tuple #[.string ⟨sj.toArray⟩, .int .i64 fj]) ∧ w' = W)
    (h3 : (fj != 0) = true ∨ (fj != 0) = false ∧ ((kat i).nm == sj) = ((i : Int) == j)) :
    Calls Tryd.prog 6 #[.int .i64 i, .int .i64 j] w fun e w' => e = .returned (.bool true) ∧ Below w.heap.size w w' := by
  have HK := Aside0.mk hK
  have H2 := Aside0.mk h2
  have HI := Aside0.mk hi
  have hne := name_ne i hi
  have HN := Aside0.mk (look_name i hi)
  have H18 := Aside0.mk (fun W => name_in t fr i hi W)
  clear hK h2
  have g1 : ¬ ((i : Int) < 0) := by omega
  have g2 : ¬ (29 ≤ (i : Int)) := by omega
  clear hi
  generalize hnm : (kat i).nm = nm at *
  clear hnm
  rcases h3 with h3 | ⟨h3, h4⟩
  · go_enter Tryd.func6, Tryd.ntmps6
    go_wp2_with fail
    refine (H18.out _ HK.out).mono ?_
    rintro e w1 ⟨rfl, rfl⟩
    go_wp2_with fail
    refine (H2.out _ HK.out).mono ?_
    rintro e w2 ⟨rfl, rfl⟩
    go_wp2_with fail
    refine (operands_in t fr i HI.out _ HK.out).mono ?_
    rintro e w3 ⟨rfl, rfl⟩
    go_wp2_with fail
    refine (effect_in t fr i HI.out _ HK.out).mono ?_
    rintro e w4 ⟨rfl, ⟨nd, rfl⟩⟩
    go_wp2_with fail
    refine (find_any _ _ t fr (blk_drewN HK.out _)).mono ?_
    rintro e w5 ⟨rfl, hb⟩
    rw [HN.out]
    have HB := Aside0.mk (below_step (pw_below_drewN (Below.refl _ _) nd) hb)
    clear hb
    go_wp2
    go_ret
    exact ⟨by first | rfl | (simp [*]; done), HB.out⟩
  · rcases hij : ((i : Int) == j) with _ | _
    all_goals
      rw [hij] at h4
      go_enter Tryd.func6, Tryd.ntmps6
      go_wp2_with fail
      refine (H18.out _ HK.out).mono ?_
      rintro e w1 ⟨rfl, rfl⟩
      go_wp2_with fail
      refine (H2.out _ HK.out).mono ?_
      rintro e w2 ⟨rfl, rfl⟩
      go_wp2_with fail
      refine (operands_in t fr i HI.out _ HK.out).mono ?_
      rintro e w3 ⟨rfl, rfl⟩
      go_wp2_with fail
      refine (effect_in t fr i HI.out _ HK.out).mono ?_
      rintro e w4 ⟨rfl, ⟨nd, rfl⟩⟩
      go_wp2_with fail
      refine (find_any _ _ t fr (blk_drewN HK.out _)).mono ?_
      rintro e w5 ⟨rfl, hb⟩
      rw [HN.out]
      have HB := Aside0.mk (below_step (pw_below_drewN (Below.refl _ _) nd) hb)
      clear hb
      go_wp2
      go_ret
      exact ⟨by first | rfl | (simp [*]; done), HB.out⟩
theorem CodeNames_walk (i j : Int) (w : World) (hi : (Lit.int .i64 i).wf = true) (hj : (Lit.int .i64 j).wf = true) (hL : ∃ t fr, w.heap[0]? = some (.cells kA t fr)) :
    Calls Tryd.prog 6 #[.int .i64 i, .int .i64 j] w fun e w' => e = .returned (.bool true) ∧ Below w.heap.size w w' := by
  obtain ⟨t, fr, hK⟩ := hL
  obtain ⟨sj, fj, h2, h3⟩ : ∃ (sj : List UInt8) (fj : Int), (∀ W : World, W.heap[0]? = some (.cells kA t fr) → Calls Tryd.prog 18 #[.int .i64 j] W fun e w' => e = .returned (.tuple #[.string ⟨sj.toArray⟩, .int .i64 fj]) ∧ w' = W) ∧
      ∀ a : Nat, a < 29 → ((fj != 0) = true ∨ (fj != 0) = false ∧ ((kat a).nm == sj) = ((a : Int) == j)) := by
    by_cases h : 0 ≤ j ∧ j < 29
    · obtain ⟨b, rfl⟩ : ∃ b : Nat, j = b := ⟨j.toNat, by omega⟩
      have hb : b < 29 := by omega
      refine ⟨(kat b).nm, 0, fun W h => name_in t fr b hb W h, fun a ha => .inr ⟨rfl, ?_⟩⟩
      by_cases e : a = b
      · subst e; simp
      · have h1 : ((kat a).nm == (kat b).nm) = false := beq_eq_false_iff_ne.2 (fun h => e (name_inj a b ha hb h))
        have h2 : ((a : Int) == (b : Int)) = false := beq_eq_false_iff_ne.2 (by omega)
        rw [h1, h2]
    · exact ⟨[], 111, fun W _ => name_out j h W, fun a ha => .inl rfl⟩
  by_cases h : 0 ≤ i ∧ i < 29
  · obtain ⟨a, rfl⟩ : ∃ a : Nat, i = a := ⟨i.toNat, by omega⟩
    have ha : a < 29 := by omega
    exact names_in a j sj fj ha w t fr hK h2 (h3 a ha)
  · exact names_out i j sj fj h w t fr hK h2
end Go.Proofs.YtknlcpojglhbnaaDoor.Pure
