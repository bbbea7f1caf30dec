/- Own text: the walks of CodeTable and CodeNames. -/
import Derived.Test.YtknlcpojglhbnaaDoorRefOps
import Derived.Test.YtknlcpojglhbnaaDoorFind
namespace Go.Proofs.YtknlcpojglhbnaaDoor.Pure
open Go.RowKit Go.Proofs.YtknlcpojglhbnaaDoorW.PrintWords Go.Proofs.YtknlcpojglhbnaaDoorW.PrintLast Go.Proofs.YtknlcpojglhbnaaDoorW.PrintMore
set_option linter.unusedVariables false
set_option linter.unusedSimpArgs false

/-- The number of operands is the number of bounds that are none of -1. -/
theorem operands_bounds : ∀ i : Nat, i < 29 → (kat i).n = (if 0 ≤ (bat i).1 then 1 else 0) + (if 0 ≤ (bat i).2 then 1 else 0)
  | 0, _ => rfl
  | 1, _ => rfl
  | 2, _ => rfl
  | 3, _ => rfl
  | 4, _ => rfl
  | 5, _ => rfl
  | 6, _ => rfl
  | 7, _ => rfl
  | 8, _ => rfl
  | 9, _ => rfl
  | 10, _ => rfl
  | 11, _ => rfl
  | 12, _ => rfl
  | 13, _ => rfl
  | 14, _ => rfl
  | 15, _ => rfl
  | 16, _ => rfl
  | 17, _ => rfl
  | 18, _ => rfl
  | 19, _ => rfl
  | 20, _ => rfl
  | 21, _ => rfl
  | 22, _ => rfl
  | 23, _ => rfl
  | 24, _ => rfl
  | 25, _ => rfl
  | 26, _ => rfl
  | 27, _ => rfl
  | 28, _ => rfl
  | n + 29, h => by omega
set_option maxHeartbeats 2000000 in
set_option maxRecDepth 100000 in
theorem table_of (i : Int) (nm : List UInt8) (o x p f : Int) (w : World) (t t2 : TypeId) (fr fr2 : Nat × Nat) (hK : w.heap[0]? = some (.cells kA t fr)) (hT : w.heap[1]? = some (.cells tA t2 fr2))
    (h1 : ∀ W : World, W.heap[0]? = some (.cells kA t fr) → Calls Tryd.prog 18 #[.int .i64 i] W fun e w' => e = .returned (.tuple #[.string ⟨nm.toArray⟩, .int .i64 f]) ∧ w' = W)
    (h2 : ∀ W : World, W.heap[1]? = some (.cells tA t2 fr2) → Calls Tryd.prog 19 #[.int .i64 i] W fun e w' => e = .returned (.tuple #[.string ⟨nm.toArray⟩, .int .i64 f]) ∧ Below W.heap.size W w')
    (h3 : ∀ W : World, W.heap[0]? = some (.cells kA t fr) → Calls Tryd.prog 20 #[.int .i64 i] W fun e w' => e = .returned (.tuple #[.int .i64 o, .int .i64 f]) ∧ w' = W)
    (h4 : ∀ W : World, W.heap[1]? = some (.cells tA t2 fr2) → Calls Tryd.prog 21 #[.int .i64 i] W fun e w' => e = .returned (.tuple #[.int .i64 o, .int .i64 f]) ∧ Below W.heap.size W w')
    (h5 : ∀ W : World, W.heap[0]? = some (.cells kA t fr) → Calls Tryd.prog 22 #[.int .i64 i] W fun e w' => e = .returned (.tuple #[.int .i64 x, .int .i64 p, .int .i64 f]) ∧ Drawn0 W w')
    (h6 : ∀ W : World, W.heap[1]? = some (.cells tA t2 fr2) → Calls Tryd.prog 23 #[.int .i64 i] W fun e w' => e = .returned (.tuple #[.int .i64 x, .int .i64 p, .int .i64 f]) ∧ Below W.heap.size W w') :
    Calls Tryd.prog 5 #[.int .i64 i] w fun e w' => e = .returned (.bool true) ∧ Below w.heap.size w w' := by
  have HK := Aside0.mk hK
  have HT := Aside0.mk hT
  have H1 := Aside0.mk h1
  have H2 := Aside0.mk h2
  have H3 := Aside0.mk h3
  have H4 := Aside0.mk h4
  have H5 := Aside0.mk h5
  have H6 := Aside0.mk h6
  clear hK hT h1 h2 h3 h4 h5 h6
  go_enter Tryd.func5, Tryd.ntmps5
  go_wp2_with fail
  refine (H1.out _ HK.out).mono ?_
  rintro e w1 ⟨rfl, rfl⟩
  go_wp2_with fail
  refine (H2.out _ HT.out).mono ?_
  rintro e w2 ⟨rfl, hb2⟩
  have HB2 := Aside0.mk hb2
  clear hb2
  go_wp2_with fail
  refine (H3.out _ (blk_below HK.out HB2.out)).mono ?_
  rintro e w3 ⟨rfl, rfl⟩
  go_wp2_with fail
  refine (H4.out _ (blk_below HT.out HB2.out)).mono ?_
  rintro e w4 ⟨rfl, hb4⟩
  have HB4 := Aside0.mk (below_step HB2.out hb4)
  clear hb4 HB2
  go_wp2_with fail
  refine (H5.out _ (blk_below HK.out HB4.out)).mono ?_
  rintro e w5 ⟨rfl, ⟨nd, rfl⟩⟩
  go_wp2_with fail
  refine (H6.out _ (blk_drewN (blk_below HT.out HB4.out) _)).mono ?_
  rintro e w6 ⟨rfl, hb6⟩
  have HB6 := Aside0.mk (below_step (pw_below_drewN HB4.out nd) hb6)
  clear hb6 HB4
  go_wp2
  go_ret
  exact ⟨rfl, HB6.out⟩
theorem CodeTable_walk (i : Int) (w : World) (hi : (Lit.int .i64 i).wf = true) (hL : (∃ t fr, w.heap[0]? = some (.cells kA t fr)) ∧ ∃ t fr, w.heap[1]? = some (.cells tA t fr)) :
    Calls Tryd.prog 5 #[.int .i64 i] w fun e w' => e = .returned (.bool true) ∧ Below w.heap.size w w' := by
  obtain ⟨⟨t, fr, hK⟩, ⟨t2, fr2, hT⟩⟩ := hL
  by_cases h : 0 ≤ i ∧ i < 29
  · obtain ⟨j, rfl⟩ : ∃ j : Nat, i = j := ⟨i.toNat, by omega⟩
    have hj : j < 29 := by omega
    refine table_of j _ _ _ _ 0 w t t2 fr fr2 hK hT (fun W h => name_in t fr j hj W h) (fun W h => rname_any j _ _ _ _ _ _ W (row_in t2 fr2 j hj W h)) (fun W h => operands_in t fr j hj W h) (fun W h => ?_) (fun W h => effect_in t fr j hj W h) (fun W h => reffect_any j _ _ _ _ _ _ W (row_in t2 fr2 j hj W h))
    have := roperands_any j _ _ _ _ _ _ W (row_in t2 fr2 j hj W h)
    rw [if_pos rfl, ← operands_bounds j hj] at this
    exact this
  · exact table_of i [] 0 0 0 111 w t t2 fr fr2 hK hT (fun W _ => name_out i h W) (fun W _ => rname_any i [] _ _ _ _ _ W (row_out i h W)) (fun W _ => operands_out i h W) (fun W _ => by
      have := roperands_any i [] _ _ _ _ _ W (row_out i h W)
      exact this) (fun W _ => (effect_out i h W).mono fun e w' ⟨h1, h2⟩ => ⟨h1, by subst h2; exact Drawn0.refl _⟩) (fun W _ => reffect_any i [] _ _ _ _ _ W (row_out i h W))
end Go.Proofs.YtknlcpojglhbnaaDoor.Pure
