/- Own text, for this claim: table.Agree: printed by wip/tools/mkagree.py. -/
import Derived.Test.YtppojbafagneeaaDoorZTabVC
import Derived.Maps.RangeWalk
namespace Go.Proofs.YtppojbafagneeaaDoor.PTab
open Go.RowKit Go.Maps Go.WideMaps Go.WideElems Go.Proofs.YtppojbafagneeaaDoor.Pure Go.Proofs.YtppojbafagneeaaDoorW.PrintWords Go.Proofs.YtppojbafagneeaaDoorW.PrintLast Go.Proofs.YtppojbafagneeaaDoorW.PrintMore
set_option linter.unusedVariables false
set_option linter.unusedSimpArgs false
attribute [local go_sem] max2_int min2_int max_two min_two max_three min_three max_four min_four
attribute [local go_sem high] eqA52
theorem ranges_below {H : Type} {P : Program} {k : TypeId} {R : Value → Option (DataW H × List MemPlace)} {w w1 : World} {b r n : Nat} {D : DataW H} {left : Lit → Bool} {cnt : Nat} (h : w.ranges P k R b r n D left cnt) (hb : Below w.heap.size w w1) : w1.ranges P k R b r n D left cnt := by
 obtain ⟨es, clock, since, seen, c0, h1, F, hs, hD, h2, rest⟩ := h
 exact ⟨es, clock, since, seen, c0, (hb.block b (Array.getElem?_eq_some_iff.1 h1).1).trans h1, F, hs, hD, (hb.block r (Array.getElem?_eq_some_iff.1 h2).1).trans h2, rest⟩
theorem ranges_drew {H : Type} {P : Program} {k : TypeId} {R : Value → Option (DataW H × List MemPlace)} {w : World} {b r n : Nat} {D : DataW H} {left : Lit → Bool} {cnt : Nat} (h : w.ranges P k R b r n D left cnt) : w.drew.ranges P k R b r n D left cnt := h
theorem keyS_other {n x : ByteArray} (h : n ≠ x) : (keyS n).sameKey (keyS x) = false := by
 cases hs : (keyS n).sameKey (keyS x) with
 | false => rfl
 | true =>
  have e := WideAt.sameKey_eq hs
  simp only [keyS, Lit.string.injEq] at e
  exact absurd (ByteArray.ext (Array.toList_inj.1 e)) h
theorem ne52_no {x y : S52} (h : x = y) : (!(x.f0 == y.f0) || !(x.f1 == y.f1)) = false := by rw [h]; simp
theorem ne52_yes {x y : S52} (h : x ≠ y) : (!(x.f0 == y.f0) || !(x.f1 == y.f1)) = true := by
 obtain ⟨x0, x1⟩ := x
 obtain ⟨y0, y1⟩ := y
 by_cases h0 : x0 = y0
 ·by_cases h1 : x1 = y1
  ·exact absurd (by rw [h0, h1]) h
  ·simp [h1]
 ·simp [h0]
def table_Agree.T1 : Bool × List (List Nat × List Nat) := (true, [([], []), ([0], [0]), ([], []), ([2, 1], [2]), ([], []), ([], []), ([4, 1, 3, 0, 1, 4, 5], [1, 4]), ([5, 3, 6, 0, 1, 2, 3, 4, 5, 6], [3, 5])])
def table_Agree.B1 : List Nat := [0, 1, 0, 7, 0, 0, 63, 127]
theorem table_Agree.tab1 : rtab .any (opsOf Tryd.f17 1) = table_Agree.T1 := by kernel_rfl
theorem table_Agree.bits1 : waitsOk table_Agree.T1.2 table_Agree.B1 = true := by kernel_rfl
set_option maxHeartbeats 8000000 in
set_option maxRecDepth 100000 in
theorem agree_any (A0 : Option Addr) (c0 : Nat) (l0 : List ByteArray) (A1 : Option Addr) (c1 : Nat) (l1 : List (List S52)) (B0 : Option Addr) (d0 : Nat) (m0 : List ByteArray) (B1 : Option Addr) (d1 : Nat) (m1 : List (List S52)) (last : Int) (w : World)
  (hRA : Kd.C Kd.string w A0 l0.length l0) (hCA : l0.length ≤ c0) (hSA : ∀ n ∈ l0, n.size ≤ 140737488351232) (hLA : l0.length ≤ 140737488351232) (hVA : Kd.C (Kd.slice 52 k52) w A1 l1.length l1) (hMA : l1.length ≤ 140737488351232)
  (hRB : Kd.C Kd.string w B0 m0.length m0) (hCB : m0.length ≤ d0) (hSB : ∀ n ∈ m0, n.size ≤ 140737488351232) (hLB : m0.length ≤ 140737488351232) (hVB : Kd.C (Kd.slice 52 k52) w B1 m1.length m1) (hMB : m1.length ≤ 140737488351232)
  (hA : ∀ n, (colD l0 0 (.map [])).atKey (keyS n) (.lit (.int .i64 0)) = .lit (.int .i64 (colC l0 n)) ∧ 0 ≤ colC l0 n) (hB : ∀ n, (colD m0 0 (.map [])).atKey (keyS n) (.lit (.int .i64 0)) = .lit (.int .i64 (colC m0 n)) ∧ 0 ≤ colC m0 n)
  (hHA : ∀ n, has (colD l0 0 (.map [])) (keyS n) = true ↔ n ∈ l0) (hHB : ∀ n, has (colD m0 0 (.map [])) (keyS n) = true ↔ n ∈ m0) (r : Bool)
  (hr1 : r = true → ∀ d : Nat, d < max l1.length m1.length → (d : Int) ≤ last → ∀ n, n ∈ l0 ∨ n ∈ m0 → cellC l0 l1 n d = cellC m0 m1 n d)
  (hr2 : r = false → ∃ d : Nat, d < max l1.length m1.length ∧ (d : Int) ≤ last ∧ ∃ n, (n ∈ l0 ∨ n ∈ m0) ∧ cellC l0 l1 n d ≠ cellC m0 m1 n d) :
  Calls Tryd.prog 17 #[.agg #[.slice A0 l0.length c0, .slice A1 l1.length c1], .agg #[.slice B0 m0.length d0, .slice B1 m1.length d1], .int .i64 last] w fun e w' => e = .returned (.bool r) ∧ Below w.heap.size w w' := by
 have hu25 := Tryd.underlying25
 have hu73 := Tryd.underlying73
 have hu52 := Tryd.underlying52
 have KL : Keyed Tryd.prog 9 := string_keyed Tryd.underlying9
 have HRA := Aside0.mk hRA
 have HCA := Aside0.mk hCA
 have HSA := Aside0.mk hSA
 have HLA := Aside0.mk hLA
 have HVA := Aside0.mk hVA
 have HMA := Aside0.mk hMA
 have HRB := Aside0.mk hRB
 have HCB := Aside0.mk hCB
 have HSB := Aside0.mk hSB
 have HLB := Aside0.mk hLB
 have HVB := Aside0.mk hVB
 have HMB := Aside0.mk hMB
 have HA := Aside0.mk hA
 have HBB := Aside0.mk hB
 have HHA := Aside0.mk hHA
 have HHB := Aside0.mk hHB
 have HR1 := Aside0.mk hr1
 have HR2 := Aside0.mk hr2
 have HB := Aside0.mk (Below.refl w.heap.size w)
 clear hRA hCA hSA hLA hVA hMA hRB hCB hSB hLB hVB hMB hA hB hHA hHB hr1 hr2
 go_enter Tryd.func17, Tryd.ntmps17
 try go_wp2_with (first | ((with_reducible refine gate_dst (N := 3) rfl ?_); refine box_event ?hg (N := 3) ?hd (cs := #[.slice A0 l0.length c0, .slice A1 l1.length c1]) (t := 25) ?hr ?_; (case hd => rfl); (case hg => rfl); (case hr => first | (go_simp; done) | (go_simp; rfl)); intro g3 hg w4 hbox hb; have n0_ := Aside0.mk (below_step HB.out hb); have n1_ := Aside0.mk hbox; clear HB; have HB := n0_; have BK3 := n1_; clear n0_ n1_; clear hb hbox hg) | ((with_reducible refine gate_dst (N := 4) rfl ?_); refine box_event ?hg (N := 4) ?hd (cs := #[.slice B0 m0.length d0, .slice B1 m1.length d1]) (t := 25) ?hr ?_; (case hd => rfl); (case hg => rfl); (case hr => first | (go_simp; done) | (go_simp; rfl)); intro g4 hg w5 hbox hb; have n0_ := Aside0.mk (below_step HB.out hb); have n1_ := Aside0.mk hbox; have n3_ := Aside0.mk (blk_below BK3.out hb); clear HB BK3; have HB := n0_; have BK4 := n1_; have BK3 := n3_; clear n0_ n1_ n3_; clear hb hbox hg))
 have n3_ := Aside0.mk (blk_drew BK3.out)
 have n4_ := Aside0.mk (blk_drew BK4.out)
 have n5_ := Aside0.mk (below_drew1 HB.out)
 clear BK3 BK4 HB
 have BK3 := n3_
 have BK4 := n4_
 have HB := n5_
 clear n3_ n4_ n5_
 refine start_ (n := 8) (S := fun w' => w'.cell? ⟨g3, 0, none⟩ = some (.slice A0 l0.length c0) ∧ w'.cell? ⟨g3, 1, none⟩ = some (.slice A1 l1.length c1) ∧ w'.cell? ⟨g4, 0, none⟩ = some (.slice B0 m0.length d0) ∧ w'.cell? ⟨g4, 1, none⟩ = some (.slice B1 m1.length d1)) (ds := []) #[false, false, false, false, false, false, false, false] (by kernel_rfl) rfl rfl ⟨(blk_cell BK3.out 0).trans rfl, (blk_cell BK3.out 1).trans rfl, (blk_cell BK4.out 0).trans rfl, (blk_cell BK4.out 1).trans rfl⟩ (fun hHeld => ?_); refine with_tabW table_Agree.tab1 table_Agree.bits1 (fun HT_ HW_ => ?_)
 generalize w5.drew = w6 at BK3 BK4 HB hHeld ⊢
 refine take_ (i := 0) (N := some 14) (v := ?_) (a' := ?_) #[true, false, false, false, false, false, false, false] rfl rfl (take_ofW HT_.out HW_.out (by kernel_rfl)) (fun _ _ _ h => h) (Or.inl ⟨by rfl, ?_⟩) hHeld ?_ ?_
 rotate_left
 ·rintro w' ⟨s0, s1, s2, s3⟩
  go_simp
  with_reducible rfl
 rotate_left
 ·simp only [Act.put, List.setIfInBounds_toArray, List.set_cons_zero, List.set_cons_succ, i64_w, i32_w]
  rfl
 refine take_ (i := 2) (N := some 16) (v := ?_) (a' := ?_) #[true, false, true, false, false, false, false, false] rfl rfl (take_ofW HT_.out HW_.out (by kernel_rfl)) (fun _ _ _ h => h) (Or.inl ⟨by rfl, ?_⟩) hHeld ?_ ?_
 rotate_left
 ·rintro w' ⟨s0, s1, s2, s3⟩
  go_simp
  with_reducible rfl
 rotate_left
 ·simp only [Act.put, List.setIfInBounds_toArray, List.set_cons_zero, List.set_cons_succ, i64_w, i32_w]
  rfl
 clear hHeld
 refine join_ (σ := Nat × Nat × Nat × Nat) 2 #[true, true, true, true, true, true, false, false] (fun s_ => [(15, .agg #[.slice A0 l0.length c0, .slice A1 l1.length c1, .map (some s_.1)]), (17, .agg #[.slice B0 m0.length d0, .slice B1 m1.length d1, .map (some s_.2.1)]), (7, .pointer (some ⟨s_.2.2.1, 0, none⟩)), (8, .pointer (some ⟨s_.2.2.2, 0, none⟩))]) (fun s_ w' => (w'.heap[g3]? = some (.cells #[.slice A0 l0.length c0, .slice A1 l1.length c1] 25 (0, 0))) ∧ (w'.heap[g4]? = some (.cells #[.slice B0 m0.length d0, .slice B1 m1.length d1] 25 (0, 0))) ∧ (OwnsCol w' s_.1 l0.length (colD l0 0 (.map []))) ∧ (OwnsCol w' s_.2.1 m0.length (colD m0 0 (.map []))) ∧ (w'.heap[s_.2.2.1]? = some (.cells #[.slice none 0 0, .slice none 0 0, .map none] 73 (0, 0))) ∧ (w.heap.size ≤ s_.2.2.1) ∧ (w'.heap[s_.2.2.2]? = some (.cells #[.slice none 0 0, .slice none 0 0, .map none] 73 (0, 0))) ∧ (w.heap.size ≤ s_.2.2.2) ∧ (s_.2.2.1 ≠ s_.2.2.2) ∧ (Below w.heap.size w w')) ?_ ?_
 rotate_left
 ·intro hJ211
  refine join_ (σ := Nat × Nat × Nat) 3 #[true, true, true, true, true, false, false, false] (fun s_ => [(15, .agg #[.slice A0 l0.length c0, .slice A1 l1.length c1, .map (some s_.1)]), (17, .agg #[.slice B0 m0.length d0, .slice B1 m1.length d1, .map (some s_.2.1)]), (7, .pointer (some ⟨s_.2.2, 0, none⟩))]) (fun s_ w' => (w'.heap[g3]? = some (.cells #[.slice A0 l0.length c0, .slice A1 l1.length c1] 25 (0, 0))) ∧ (w'.heap[g4]? = some (.cells #[.slice B0 m0.length d0, .slice B1 m1.length d1] 25 (0, 0))) ∧ (OwnsCol w' s_.1 l0.length (colD l0 0 (.map []))) ∧ (OwnsCol w' s_.2.1 m0.length (colD m0 0 (.map []))) ∧ (w'.heap[s_.2.2]? = some (.cells #[.slice none 0 0, .slice none 0 0, .map none] 73 (0, 0))) ∧ (w.heap.size ≤ s_.2.2) ∧ (Below w.heap.size w w')) ?_ ?_
  rotate_left
  ·intro hJ210
   refine join_ (σ := Nat × Nat × Nat) 3 #[true, true, true, true, false, true, false, false] (fun s_ => [(15, .agg #[.slice A0 l0.length c0, .slice A1 l1.length c1, .map (some s_.1)]), (17, .agg #[.slice B0 m0.length d0, .slice B1 m1.length d1, .map (some s_.2.1)]), (8, .pointer (some ⟨s_.2.2, 0, none⟩))]) (fun s_ w' => (w'.heap[g3]? = some (.cells #[.slice A0 l0.length c0, .slice A1 l1.length c1] 25 (0, 0))) ∧ (w'.heap[g4]? = some (.cells #[.slice B0 m0.length d0, .slice B1 m1.length d1] 25 (0, 0))) ∧ (OwnsCol w' s_.1 l0.length (colD l0 0 (.map []))) ∧ (OwnsCol w' s_.2.1 m0.length (colD m0 0 (.map []))) ∧ (w'.heap[s_.2.2]? = some (.cells #[.slice none 0 0, .slice none 0 0, .map none] 73 (0, 0))) ∧ (w.heap.size ≤ s_.2.2) ∧ (Below w.heap.size w w')) ?_ ?_
   rotate_left
   ·intro hJ201
    refine join_ (σ := Nat × Nat × Nat) 3 #[true, true, true, false, true, true, false, false] (fun s_ => [(15, .agg #[.slice A0 l0.length c0, .slice A1 l1.length c1, .map (some s_.1)]), (7, .pointer (some ⟨s_.2.1, 0, none⟩)), (8, .pointer (some ⟨s_.2.2, 0, none⟩))]) (fun s_ w' => (w'.heap[g3]? = some (.cells #[.slice A0 l0.length c0, .slice A1 l1.length c1] 25 (0, 0))) ∧ (w'.heap[g4]? = some (.cells #[.slice B0 m0.length d0, .slice B1 m1.length d1] 25 (0, 0))) ∧ (OwnsCol w' s_.1 l0.length (colD l0 0 (.map []))) ∧ (w'.heap[s_.2.1]? = some (.cells #[.slice none 0 0, .slice none 0 0, .map none] 73 (0, 0))) ∧ (w.heap.size ≤ s_.2.1) ∧ (w'.heap[s_.2.2]? = some (.cells #[.slice none 0 0, .slice none 0 0, .map none] 73 (0, 0))) ∧ (w.heap.size ≤ s_.2.2) ∧ (s_.2.1 ≠ s_.2.2) ∧ (Below w.heap.size w w')) ?_ ?_
    rotate_left
    ·intro hJ111
     refine join_ (σ := Nat × Nat) 4 #[true, true, true, true, false, false, false, false] (fun s_ => [(15, .agg #[.slice A0 l0.length c0, .slice A1 l1.length c1, .map (some s_.1)]), (17, .agg #[.slice B0 m0.length d0, .slice B1 m1.length d1, .map (some s_.2)])]) (fun s_ w' => (w'.heap[g3]? = some (.cells #[.slice A0 l0.length c0, .slice A1 l1.length c1] 25 (0, 0))) ∧ (w'.heap[g4]? = some (.cells #[.slice B0 m0.length d0, .slice B1 m1.length d1] 25 (0, 0))) ∧ (OwnsCol w' s_.1 l0.length (colD l0 0 (.map []))) ∧ (OwnsCol w' s_.2 m0.length (colD m0 0 (.map []))) ∧ (Below w.heap.size w w')) ?_ ?_
     rotate_left
     ·intro hJ200
      refine join_ (σ := Nat × Nat) 4 #[true, true, true, false, true, false, false, false] (fun s_ => [(15, .agg #[.slice A0 l0.length c0, .slice A1 l1.length c1, .map (some s_.1)]), (7, .pointer (some ⟨s_.2, 0, none⟩))]) (fun s_ w' => (w'.heap[g3]? = some (.cells #[.slice A0 l0.length c0, .slice A1 l1.length c1] 25 (0, 0))) ∧ (w'.heap[g4]? = some (.cells #[.slice B0 m0.length d0, .slice B1 m1.length d1] 25 (0, 0))) ∧ (OwnsCol w' s_.1 l0.length (colD l0 0 (.map []))) ∧ (w'.heap[s_.2]? = some (.cells #[.slice none 0 0, .slice none 0 0, .map none] 73 (0, 0))) ∧ (w.heap.size ≤ s_.2) ∧ (Below w.heap.size w w')) ?_ ?_
      rotate_left
      ·intro hJ110
       refine join_ (σ := Nat × Nat) 4 #[true, true, true, false, false, true, false, false] (fun s_ => [(15, .agg #[.slice A0 l0.length c0, .slice A1 l1.length c1, .map (some s_.1)]), (8, .pointer (some ⟨s_.2, 0, none⟩))]) (fun s_ w' => (w'.heap[g3]? = some (.cells #[.slice A0 l0.length c0, .slice A1 l1.length c1] 25 (0, 0))) ∧ (w'.heap[g4]? = some (.cells #[.slice B0 m0.length d0, .slice B1 m1.length d1] 25 (0, 0))) ∧ (OwnsCol w' s_.1 l0.length (colD l0 0 (.map []))) ∧ (w'.heap[s_.2]? = some (.cells #[.slice none 0 0, .slice none 0 0, .map none] 73 (0, 0))) ∧ (w.heap.size ≤ s_.2) ∧ (Below w.heap.size w w')) ?_ ?_
       rotate_left
       ·intro hJ101
        refine join_ (σ := Nat × Nat) 4 #[true, false, true, false, true, true, false, false] (fun s_ => [(7, .pointer (some ⟨s_.1, 0, none⟩)), (8, .pointer (some ⟨s_.2, 0, none⟩))]) (fun s_ w' => (w'.heap[g3]? = some (.cells #[.slice A0 l0.length c0, .slice A1 l1.length c1] 25 (0, 0))) ∧ (w'.heap[g4]? = some (.cells #[.slice B0 m0.length d0, .slice B1 m1.length d1] 25 (0, 0))) ∧ (w'.heap[s_.1]? = some (.cells #[.slice none 0 0, .slice none 0 0, .map none] 73 (0, 0))) ∧ (w.heap.size ≤ s_.1) ∧ (w'.heap[s_.2]? = some (.cells #[.slice none 0 0, .slice none 0 0, .map none] 73 (0, 0))) ∧ (w.heap.size ≤ s_.2) ∧ (s_.1 ≠ s_.2) ∧ (Below w.heap.size w w')) ?_ ?_
        rotate_left
        ·intro hJ011
         refine join_ (σ := Nat) 5 #[true, true, true, false, false, false, false, false] (fun s_ => [(15, .agg #[.slice A0 l0.length c0, .slice A1 l1.length c1, .map (some s_)])]) (fun s_ w' => (w'.heap[g3]? = some (.cells #[.slice A0 l0.length c0, .slice A1 l1.length c1] 25 (0, 0))) ∧ (w'.heap[g4]? = some (.cells #[.slice B0 m0.length d0, .slice B1 m1.length d1] 25 (0, 0))) ∧ (OwnsCol w' s_ l0.length (colD l0 0 (.map []))) ∧ (Below w.heap.size w w')) ?_ ?_
         rotate_left
         ·intro hJ100
          refine join_ (σ := Nat) 5 #[true, false, true, false, true, false, false, false] (fun s_ => [(7, .pointer (some ⟨s_, 0, none⟩))]) (fun s_ w' => (w'.heap[g3]? = some (.cells #[.slice A0 l0.length c0, .slice A1 l1.length c1] 25 (0, 0))) ∧ (w'.heap[g4]? = some (.cells #[.slice B0 m0.length d0, .slice B1 m1.length d1] 25 (0, 0))) ∧ (w'.heap[s_]? = some (.cells #[.slice none 0 0, .slice none 0 0, .map none] 73 (0, 0))) ∧ (w.heap.size ≤ s_) ∧ (Below w.heap.size w w')) ?_ ?_
          rotate_left
          ·intro hJ010
           refine join_ (σ := Nat) 5 #[true, false, true, false, false, true, false, false] (fun s_ => [(8, .pointer (some ⟨s_, 0, none⟩))]) (fun s_ w' => (w'.heap[g3]? = some (.cells #[.slice A0 l0.length c0, .slice A1 l1.length c1] 25 (0, 0))) ∧ (w'.heap[g4]? = some (.cells #[.slice B0 m0.length d0, .slice B1 m1.length d1] 25 (0, 0))) ∧ (w'.heap[s_]? = some (.cells #[.slice none 0 0, .slice none 0 0, .map none] 73 (0, 0))) ∧ (w.heap.size ≤ s_) ∧ (Below w.heap.size w w')) ?_ ?_
           rotate_left
           ·intro hJ001
            refine three_ (i := 1) (j := 4) (k := 5) (Ni := some 15) (Nj := some 7) (Nk := some 8) #[true, true, true, false, false, false, false, false] #[true, false, true, false, true, false, false, false] #[true, false, true, false, false, true, false, false] rfl rfl rfl rfl rfl rfl (three_of HT_.out (by kernel_rfl)) (by decide) (by decide) (by decide) (fun K hK => ?_) (fun K hK => ?_) (fun K hK => ?_)
            ·skip
             refine goes_ Tryd.func41 (by kernel_rfl) rfl #[.agg #[.slice A0 l0.length c0, .slice A1 l1.length c1]] (by rfl) rfl rfl (by (try simp only [List.map_toArray, List.map_cons, List.map_nil]); first | done | rfl) ?_
             refine (viewed_any A0 c0 l0 A1 l1.length c1 _ (Kd.C_below HRA.out HB.out) HCA.out HSA.out HLA.out).mono ?_
             rintro e w2_ ⟨bV, rfl, -, hown, hb⟩
             refine ⟨_, rfl, ?_⟩
             have n0_ := Aside0.mk (blk_below BK3.out hb)
             have n1_ := Aside0.mk (blk_below BK4.out hb)
             have n2_ := Aside0.mk (below_step HB.out hb)
             have n3_ := Aside0.mk (hown)
             clear BK3 BK4 HB hb
             have BK3 := n0_
             have BK4 := n1_
             have HB := n2_
             have OV := n3_
             clear n0_ n1_ n2_ n3_
             clear hown
             refine hK.out _ _ ⟨(blk_cell BK3.out 0).trans rfl, (blk_cell BK3.out 1).trans rfl, (blk_cell BK4.out 0).trans rfl, (blk_cell BK4.out 1).trans rfl⟩ (fun hHeld => ?_)
             clear hK K hHeld
             refine norm_ (a' := ?_) ?_ ?_
             rotate_left
             ·show Act.put _ (some 15) _ = _
              simp only [Act.put, List.setIfInBounds_toArray, List.set_cons_zero, List.set_cons_succ, i64_w, i32_w]
              rfl
             exact norm_ (by first | (simp only [putAll, Act.put, List.setIfInBounds_toArray, List.set_cons_zero, List.set_cons_succ]; done) | (simp only [putAll, Act.put, List.setIfInBounds_toArray, List.set_cons_zero, List.set_cons_succ]; rfl)) (hJ100 bV _ ⟨BK3.out, BK4.out, OV.out, HB.out⟩)
            ·skip
             refine box_step ?hg (N := 7) ?hd (cs := #[.slice none 0 0, .slice none 0 0, .map none]) (t := 73) ?hr ?_; (case hd => rfl); (case hg => rfl); (case hr => first | (go_simp; done) | (go_simp; rfl))
             intro gX hg w2_ hbox hb
             have m0_ := Aside0.mk hbox
             have m1_ := Aside0.mk (by rw [hg]; exact below_size HB.out : w.heap.size ≤ gX)
             have n0_ := Aside0.mk (blk_below BK3.out hb)
             have n1_ := Aside0.mk (blk_below BK4.out hb)
             have n2_ := Aside0.mk (below_step HB.out hb)
             have n3_ := Aside0.mk (m0_.out)
             have n4_ := Aside0.mk (m1_.out)
             clear BK3 BK4 HB hb
             have BK3 := n0_
             have BK4 := n1_
             have HB := n2_
             have BX := n3_
             have GX := n4_
             clear n0_ n1_ n2_ n3_ n4_
             clear hbox hg m0_ m1_
             refine hK.out _ _ ⟨(blk_cell BK3.out 0).trans rfl, (blk_cell BK3.out 1).trans rfl, (blk_cell BK4.out 0).trans rfl, (blk_cell BK4.out 1).trans rfl⟩ (fun hHeld => ?_)
             clear hK K hHeld
             refine norm_ (a' := ?_) ?_ ?_
             rotate_left
             ·show Act.put _ (some 7) _ = _
              simp only [Act.put, List.setIfInBounds_toArray, List.set_cons_zero, List.set_cons_succ, i64_w, i32_w]
              rfl
             exact norm_ (by first | (simp only [putAll, Act.put, List.setIfInBounds_toArray, List.set_cons_zero, List.set_cons_succ]; done) | (simp only [putAll, Act.put, List.setIfInBounds_toArray, List.set_cons_zero, List.set_cons_succ]; rfl)) (hJ010 gX _ ⟨BK3.out, BK4.out, BX.out, GX.out, HB.out⟩)
            ·skip
             refine box_step ?hg (N := 8) ?hd (cs := #[.slice none 0 0, .slice none 0 0, .map none]) (t := 73) ?hr ?_; (case hd => rfl); (case hg => rfl); (case hr => first | (go_simp; done) | (go_simp; rfl))
             intro gY hg w2_ hbox hb
             have m0_ := Aside0.mk hbox
             have m1_ := Aside0.mk (by rw [hg]; exact below_size HB.out : w.heap.size ≤ gY)
             have n0_ := Aside0.mk (blk_below BK3.out hb)
             have n1_ := Aside0.mk (blk_below BK4.out hb)
             have n2_ := Aside0.mk (below_step HB.out hb)
             have n3_ := Aside0.mk (m0_.out)
             have n4_ := Aside0.mk (m1_.out)
             clear BK3 BK4 HB hb
             have BK3 := n0_
             have BK4 := n1_
             have HB := n2_
             have BY := n3_
             have GY := n4_
             clear n0_ n1_ n2_ n3_ n4_
             clear hbox hg m0_ m1_
             refine hK.out _ _ ⟨(blk_cell BK3.out 0).trans rfl, (blk_cell BK3.out 1).trans rfl, (blk_cell BK4.out 0).trans rfl, (blk_cell BK4.out 1).trans rfl⟩ (fun hHeld => ?_)
             clear hK K hHeld
             refine norm_ (a' := ?_) ?_ ?_
             rotate_left
             ·show Act.put _ (some 8) _ = _
              simp only [Act.put, List.setIfInBounds_toArray, List.set_cons_zero, List.set_cons_succ, i64_w, i32_w]
              rfl
             exact norm_ (by first | (simp only [putAll, Act.put, List.setIfInBounds_toArray, List.set_cons_zero, List.set_cons_succ]; done) | (simp only [putAll, Act.put, List.setIfInBounds_toArray, List.set_cons_zero, List.set_cons_succ]; rfl)) (hJ001 gY _ ⟨BK3.out, BK4.out, BY.out, GY.out, HB.out⟩)
           rintro gY w1_ ⟨h0_, h1_, h2_, h3_, h4_⟩
           have BK3_ := Aside0.mk h0_
           have BK4_ := Aside0.mk h1_
           have BY_ := Aside0.mk h2_
           have GY_ := Aside0.mk h3_
           have HB_ := Aside0.mk h4_
           clear BK3 BK4 HB h0_ h1_ h2_ h3_ h4_
           have BK3 := BK3_
           have BK4 := BK4_
           have BY := BY_
           have GY := GY_
           have HB := HB_
           clear BK3_ BK4_ BY_ GY_ HB_
           refine norm_ (a' := ?_) ?_ ?_
           rotate_left
           ·simp only [putAll, Act.put, List.setIfInBounds_toArray, List.set_cons_zero, List.set_cons_succ, i64_w, i32_w]
            rfl
           refine two_ (i := 1) (j := 4) (Ni := some 15) (Nj := some 7) #[true, true, true, false, false, true, false, false] #[true, false, true, false, true, true, false, false] rfl rfl rfl rfl (two_of HT_.out (by kernel_rfl)) (by decide) (by decide) (fun K hK => ?_) (fun K hK => ?_)
           ·skip
            refine goes_ Tryd.func41 (by kernel_rfl) rfl #[.agg #[.slice A0 l0.length c0, .slice A1 l1.length c1]] (by rfl) rfl rfl (by (try simp only [List.map_toArray, List.map_cons, List.map_nil]); first | done | rfl) ?_
            refine (viewed_any A0 c0 l0 A1 l1.length c1 _ (Kd.C_below HRA.out HB.out) HCA.out HSA.out HLA.out).mono ?_
            rintro e w2_ ⟨bV, rfl, -, hown, hb⟩
            refine ⟨_, rfl, ?_⟩
            have n0_ := Aside0.mk (blk_below BK3.out hb)
            have n1_ := Aside0.mk (blk_below BK4.out hb)
            have n2_ := Aside0.mk (blk_below BY.out hb)
            have n3_ := Aside0.mk (below_step HB.out hb)
            have n4_ := Aside0.mk (hown)
            clear BK3 BK4 BY HB hb
            have BK3 := n0_
            have BK4 := n1_
            have BY := n2_
            have HB := n3_
            have OV := n4_
            clear n0_ n1_ n2_ n3_ n4_
            clear hown
            refine hK.out _ _ ⟨(blk_cell BK3.out 0).trans rfl, (blk_cell BK3.out 1).trans rfl, (blk_cell BK4.out 0).trans rfl, (blk_cell BK4.out 1).trans rfl⟩ (fun hHeld => ?_)
            clear hK K hHeld
            refine norm_ (a' := ?_) ?_ ?_
            rotate_left
            ·show Act.put _ (some 15) _ = _
             simp only [Act.put, List.setIfInBounds_toArray, List.set_cons_zero, List.set_cons_succ, i64_w, i32_w]
             rfl
            exact norm_ (by first | (simp only [putAll, Act.put, List.setIfInBounds_toArray, List.set_cons_zero, List.set_cons_succ]; done) | (simp only [putAll, Act.put, List.setIfInBounds_toArray, List.set_cons_zero, List.set_cons_succ]; rfl)) (hJ101 (bV, gY) _ ⟨BK3.out, BK4.out, OV.out, BY.out, GY.out, HB.out⟩)
           ·skip
            refine box_step ?hg (N := 7) ?hd (cs := #[.slice none 0 0, .slice none 0 0, .map none]) (t := 73) ?hr ?_; (case hd => rfl); (case hg => rfl); (case hr => first | (go_simp; done) | (go_simp; rfl))
            intro gX hg w2_ hbox hb
            have m0_ := Aside0.mk hbox
            have m1_ := Aside0.mk (by rw [hg]; exact below_size HB.out : w.heap.size ≤ gX)
            have m2_ := Aside0.mk (by rw [hg]; exact Nat.ne_of_gt (blk_lt BY.out) : gX ≠ gY)
            have n0_ := Aside0.mk (blk_below BK3.out hb)
            have n1_ := Aside0.mk (blk_below BK4.out hb)
            have n2_ := Aside0.mk (blk_below BY.out hb)
            have n3_ := Aside0.mk (below_step HB.out hb)
            have n4_ := Aside0.mk (m0_.out)
            have n5_ := Aside0.mk (m1_.out)
            have n6_ := Aside0.mk (m2_.out)
            clear BK3 BK4 BY HB hb
            have BK3 := n0_
            have BK4 := n1_
            have BY := n2_
            have HB := n3_
            have BX := n4_
            have GX := n5_
            have NXY := n6_
            clear n0_ n1_ n2_ n3_ n4_ n5_ n6_
            clear hbox hg m0_ m1_ m2_
            refine hK.out _ _ ⟨(blk_cell BK3.out 0).trans rfl, (blk_cell BK3.out 1).trans rfl, (blk_cell BK4.out 0).trans rfl, (blk_cell BK4.out 1).trans rfl⟩ (fun hHeld => ?_)
            clear hK K hHeld
            refine norm_ (a' := ?_) ?_ ?_
            rotate_left
            ·show Act.put _ (some 7) _ = _
             simp only [Act.put, List.setIfInBounds_toArray, List.set_cons_zero, List.set_cons_succ, i64_w, i32_w]
             rfl
            exact norm_ (by first | (simp only [putAll, Act.put, List.setIfInBounds_toArray, List.set_cons_zero, List.set_cons_succ]; done) | (simp only [putAll, Act.put, List.setIfInBounds_toArray, List.set_cons_zero, List.set_cons_succ]; rfl)) (hJ011 (gX, gY) _ ⟨BK3.out, BK4.out, BX.out, GX.out, BY.out, GY.out, NXY.out, HB.out⟩)
          rintro gX w1_ ⟨h0_, h1_, h2_, h3_, h4_⟩
          have BK3_ := Aside0.mk h0_
          have BK4_ := Aside0.mk h1_
          have BX_ := Aside0.mk h2_
          have GX_ := Aside0.mk h3_
          have HB_ := Aside0.mk h4_
          clear BK3 BK4 HB h0_ h1_ h2_ h3_ h4_
          have BK3 := BK3_
          have BK4 := BK4_
          have BX := BX_
          have GX := GX_
          have HB := HB_
          clear BK3_ BK4_ BX_ GX_ HB_
          refine norm_ (a' := ?_) ?_ ?_
          rotate_left
          ·simp only [putAll, Act.put, List.setIfInBounds_toArray, List.set_cons_zero, List.set_cons_succ, i64_w, i32_w]
           rfl
          refine two_ (i := 1) (j := 5) (Ni := some 15) (Nj := some 8) #[true, true, true, false, true, false, false, false] #[true, false, true, false, true, true, false, false] rfl rfl rfl rfl (two_of HT_.out (by kernel_rfl)) (by decide) (by decide) (fun K hK => ?_) (fun K hK => ?_)
          ·skip
           refine goes_ Tryd.func41 (by kernel_rfl) rfl #[.agg #[.slice A0 l0.length c0, .slice A1 l1.length c1]] (by rfl) rfl rfl (by (try simp only [List.map_toArray, List.map_cons, List.map_nil]); first | done | rfl) ?_
           refine (viewed_any A0 c0 l0 A1 l1.length c1 _ (Kd.C_below HRA.out HB.out) HCA.out HSA.out HLA.out).mono ?_
           rintro e w2_ ⟨bV, rfl, -, hown, hb⟩
           refine ⟨_, rfl, ?_⟩
           have n0_ := Aside0.mk (blk_below BK3.out hb)
           have n1_ := Aside0.mk (blk_below BK4.out hb)
           have n2_ := Aside0.mk (blk_below BX.out hb)
           have n3_ := Aside0.mk (below_step HB.out hb)
           have n4_ := Aside0.mk (hown)
           clear BK3 BK4 BX HB hb
           have BK3 := n0_
           have BK4 := n1_
           have BX := n2_
           have HB := n3_
           have OV := n4_
           clear n0_ n1_ n2_ n3_ n4_
           clear hown
           refine hK.out _ _ ⟨(blk_cell BK3.out 0).trans rfl, (blk_cell BK3.out 1).trans rfl, (blk_cell BK4.out 0).trans rfl, (blk_cell BK4.out 1).trans rfl⟩ (fun hHeld => ?_)
           clear hK K hHeld
           refine norm_ (a' := ?_) ?_ ?_
           rotate_left
           ·show Act.put _ (some 15) _ = _
            simp only [Act.put, List.setIfInBounds_toArray, List.set_cons_zero, List.set_cons_succ, i64_w, i32_w]
            rfl
           exact norm_ (by first | (simp only [putAll, Act.put, List.setIfInBounds_toArray, List.set_cons_zero, List.set_cons_succ]; done) | (simp only [putAll, Act.put, List.setIfInBounds_toArray, List.set_cons_zero, List.set_cons_succ]; rfl)) (hJ110 (bV, gX) _ ⟨BK3.out, BK4.out, OV.out, BX.out, GX.out, HB.out⟩)
          ·skip
           refine box_step ?hg (N := 8) ?hd (cs := #[.slice none 0 0, .slice none 0 0, .map none]) (t := 73) ?hr ?_; (case hd => rfl); (case hg => rfl); (case hr => first | (go_simp; done) | (go_simp; rfl))
           intro gY hg w2_ hbox hb
           have m0_ := Aside0.mk hbox
           have m1_ := Aside0.mk (by rw [hg]; exact below_size HB.out : w.heap.size ≤ gY)
           have m2_ := Aside0.mk (by rw [hg]; exact Nat.ne_of_lt (blk_lt BX.out) : gX ≠ gY)
           have n0_ := Aside0.mk (blk_below BK3.out hb)
           have n1_ := Aside0.mk (blk_below BK4.out hb)
           have n2_ := Aside0.mk (blk_below BX.out hb)
           have n3_ := Aside0.mk (below_step HB.out hb)
           have n4_ := Aside0.mk (m0_.out)
           have n5_ := Aside0.mk (m1_.out)
           have n6_ := Aside0.mk (m2_.out)
           clear BK3 BK4 BX HB hb
           have BK3 := n0_
           have BK4 := n1_
           have BX := n2_
           have HB := n3_
           have BY := n4_
           have GY := n5_
           have NXY := n6_
           clear n0_ n1_ n2_ n3_ n4_ n5_ n6_
           clear hbox hg m0_ m1_ m2_
           refine hK.out _ _ ⟨(blk_cell BK3.out 0).trans rfl, (blk_cell BK3.out 1).trans rfl, (blk_cell BK4.out 0).trans rfl, (blk_cell BK4.out 1).trans rfl⟩ (fun hHeld => ?_)
           clear hK K hHeld
           refine norm_ (a' := ?_) ?_ ?_
           rotate_left
           ·show Act.put _ (some 8) _ = _
            simp only [Act.put, List.setIfInBounds_toArray, List.set_cons_zero, List.set_cons_succ, i64_w, i32_w]
            rfl
           exact norm_ (by first | (simp only [putAll, Act.put, List.setIfInBounds_toArray, List.set_cons_zero, List.set_cons_succ]; done) | (simp only [putAll, Act.put, List.setIfInBounds_toArray, List.set_cons_zero, List.set_cons_succ]; rfl)) (hJ011 (gX, gY) _ ⟨BK3.out, BK4.out, BX.out, GX.out, BY.out, GY.out, NXY.out, HB.out⟩)
         rintro bV w1_ ⟨h0_, h1_, h2_, h3_⟩
         have BK3_ := Aside0.mk h0_
         have BK4_ := Aside0.mk h1_
         have OV_ := Aside0.mk h2_
         have HB_ := Aside0.mk h3_
         clear BK3 BK4 HB h0_ h1_ h2_ h3_
         have BK3 := BK3_
         have BK4 := BK4_
         have OV := OV_
         have HB := HB_
         clear BK3_ BK4_ OV_ HB_
         refine norm_ (a' := ?_) ?_ ?_
         rotate_left
         ·simp only [putAll, Act.put, List.setIfInBounds_toArray, List.set_cons_zero, List.set_cons_succ, i64_w, i32_w]
          rfl
         refine three_ (i := 3) (j := 4) (k := 5) (Ni := some 17) (Nj := some 7) (Nk := some 8) #[true, true, true, true, false, false, false, false] #[true, true, true, false, true, false, false, false] #[true, true, true, false, false, true, false, false] rfl rfl rfl rfl rfl rfl (three_of HT_.out (by kernel_rfl)) (by decide) (by decide) (by decide) (fun K hK => ?_) (fun K hK => ?_) (fun K hK => ?_)
         ·skip
          refine goes_ Tryd.func41 (by kernel_rfl) rfl #[.agg #[.slice B0 m0.length d0, .slice B1 m1.length d1]] (by rfl) rfl rfl (by (try simp only [List.map_toArray, List.map_cons, List.map_nil]); first | done | rfl) ?_
          refine (viewed_any B0 d0 m0 B1 m1.length d1 _ (Kd.C_below HRB.out HB.out) HCB.out HSB.out HLB.out).mono ?_
          rintro e w2_ ⟨bW, rfl, -, hown, hb⟩
          refine ⟨_, rfl, ?_⟩
          have n0_ := Aside0.mk (blk_below BK3.out hb)
          have n1_ := Aside0.mk (blk_below BK4.out hb)
          have n2_ := Aside0.mk (OwnsCol.below OV.out hb)
          have n3_ := Aside0.mk (below_step HB.out hb)
          have n4_ := Aside0.mk (hown)
          clear BK3 BK4 OV HB hb
          have BK3 := n0_
          have BK4 := n1_
          have OV := n2_
          have HB := n3_
          have OW := n4_
          clear n0_ n1_ n2_ n3_ n4_
          clear hown
          refine hK.out _ _ ⟨(blk_cell BK3.out 0).trans rfl, (blk_cell BK3.out 1).trans rfl, (blk_cell BK4.out 0).trans rfl, (blk_cell BK4.out 1).trans rfl⟩ (fun hHeld => ?_)
          clear hK K hHeld
          refine norm_ (a' := ?_) ?_ ?_
          rotate_left
          ·show Act.put _ (some 17) _ = _
           simp only [Act.put, List.setIfInBounds_toArray, List.set_cons_zero, List.set_cons_succ, i64_w, i32_w]
           rfl
          exact norm_ (by first | (simp only [putAll, Act.put, List.setIfInBounds_toArray, List.set_cons_zero, List.set_cons_succ]; done) | (simp only [putAll, Act.put, List.setIfInBounds_toArray, List.set_cons_zero, List.set_cons_succ]; rfl)) (hJ200 (bV, bW) _ ⟨BK3.out, BK4.out, OV.out, OW.out, HB.out⟩)
         ·skip
          refine box_step ?hg (N := 7) ?hd (cs := #[.slice none 0 0, .slice none 0 0, .map none]) (t := 73) ?hr ?_; (case hd => rfl); (case hg => rfl); (case hr => first | (go_simp; done) | (go_simp; rfl))
          intro gX hg w2_ hbox hb
          have m0_ := Aside0.mk hbox
          have m1_ := Aside0.mk (by rw [hg]; exact below_size HB.out : w.heap.size ≤ gX)
          have n0_ := Aside0.mk (blk_below BK3.out hb)
          have n1_ := Aside0.mk (blk_below BK4.out hb)
          have n2_ := Aside0.mk (OwnsCol.below OV.out hb)
          have n3_ := Aside0.mk (below_step HB.out hb)
          have n4_ := Aside0.mk (m0_.out)
          have n5_ := Aside0.mk (m1_.out)
          clear BK3 BK4 OV HB hb
          have BK3 := n0_
          have BK4 := n1_
          have OV := n2_
          have HB := n3_
          have BX := n4_
          have GX := n5_
          clear n0_ n1_ n2_ n3_ n4_ n5_
          clear hbox hg m0_ m1_
          refine hK.out _ _ ⟨(blk_cell BK3.out 0).trans rfl, (blk_cell BK3.out 1).trans rfl, (blk_cell BK4.out 0).trans rfl, (blk_cell BK4.out 1).trans rfl⟩ (fun hHeld => ?_)
          clear hK K hHeld
          refine norm_ (a' := ?_) ?_ ?_
          rotate_left
          ·show Act.put _ (some 7) _ = _
           simp only [Act.put, List.setIfInBounds_toArray, List.set_cons_zero, List.set_cons_succ, i64_w, i32_w]
           rfl
          exact norm_ (by first | (simp only [putAll, Act.put, List.setIfInBounds_toArray, List.set_cons_zero, List.set_cons_succ]; done) | (simp only [putAll, Act.put, List.setIfInBounds_toArray, List.set_cons_zero, List.set_cons_succ]; rfl)) (hJ110 (bV, gX) _ ⟨BK3.out, BK4.out, OV.out, BX.out, GX.out, HB.out⟩)
         ·skip
          refine box_step ?hg (N := 8) ?hd (cs := #[.slice none 0 0, .slice none 0 0, .map none]) (t := 73) ?hr ?_; (case hd => rfl); (case hg => rfl); (case hr => first | (go_simp; done) | (go_simp; rfl))
          intro gY hg w2_ hbox hb
          have m0_ := Aside0.mk hbox
          have m1_ := Aside0.mk (by rw [hg]; exact below_size HB.out : w.heap.size ≤ gY)
          have n0_ := Aside0.mk (blk_below BK3.out hb)
          have n1_ := Aside0.mk (blk_below BK4.out hb)
          have n2_ := Aside0.mk (OwnsCol.below OV.out hb)
          have n3_ := Aside0.mk (below_step HB.out hb)
          have n4_ := Aside0.mk (m0_.out)
          have n5_ := Aside0.mk (m1_.out)
          clear BK3 BK4 OV HB hb
          have BK3 := n0_
          have BK4 := n1_
          have OV := n2_
          have HB := n3_
          have BY := n4_
          have GY := n5_
          clear n0_ n1_ n2_ n3_ n4_ n5_
          clear hbox hg m0_ m1_
          refine hK.out _ _ ⟨(blk_cell BK3.out 0).trans rfl, (blk_cell BK3.out 1).trans rfl, (blk_cell BK4.out 0).trans rfl, (blk_cell BK4.out 1).trans rfl⟩ (fun hHeld => ?_)
          clear hK K hHeld
          refine norm_ (a' := ?_) ?_ ?_
          rotate_left
          ·show Act.put _ (some 8) _ = _
           simp only [Act.put, List.setIfInBounds_toArray, List.set_cons_zero, List.set_cons_succ, i64_w, i32_w]
           rfl
          exact norm_ (by first | (simp only [putAll, Act.put, List.setIfInBounds_toArray, List.set_cons_zero, List.set_cons_succ]; done) | (simp only [putAll, Act.put, List.setIfInBounds_toArray, List.set_cons_zero, List.set_cons_succ]; rfl)) (hJ101 (bV, gY) _ ⟨BK3.out, BK4.out, OV.out, BY.out, GY.out, HB.out⟩)
        rintro ⟨gX, gY⟩ w1_ ⟨h0_, h1_, h2_, h3_, h4_, h5_, h6_, h7_⟩
        have BK3_ := Aside0.mk h0_
        have BK4_ := Aside0.mk h1_
        have BX_ := Aside0.mk h2_
        have GX_ := Aside0.mk h3_
        have BY_ := Aside0.mk h4_
        have GY_ := Aside0.mk h5_
        have NXY_ := Aside0.mk h6_
        have HB_ := Aside0.mk h7_
        clear BK3 BK4 HB h0_ h1_ h2_ h3_ h4_ h5_ h6_ h7_
        have BK3 := BK3_
        have BK4 := BK4_
        have BX := BX_
        have GX := GX_
        have BY := BY_
        have GY := GY_
        have NXY := NXY_
        have HB := HB_
        clear BK3_ BK4_ BX_ GX_ BY_ GY_ NXY_ HB_
        refine norm_ (a' := ?_) ?_ ?_
        rotate_left
        ·simp only [putAll, Act.put, List.setIfInBounds_toArray, List.set_cons_zero, List.set_cons_succ, i64_w, i32_w]
         rfl
        refine one_ (i := 1) (N := some 15) #[true, true, true, false, true, true, false, false] rfl rfl (one_of HT_.out (by kernel_rfl)) (by decide) (fun K hK => ?_)
        refine goes_ Tryd.func41 (by kernel_rfl) rfl #[.agg #[.slice A0 l0.length c0, .slice A1 l1.length c1]] (by rfl) rfl rfl (by (try simp only [List.map_toArray, List.map_cons, List.map_nil]); first | done | rfl) ?_
        refine (viewed_any A0 c0 l0 A1 l1.length c1 _ (Kd.C_below HRA.out HB.out) HCA.out HSA.out HLA.out).mono ?_
        rintro e w2_ ⟨bV, rfl, -, hown, hb⟩
        refine ⟨_, rfl, ?_⟩
        have n0_ := Aside0.mk (blk_below BK3.out hb)
        have n1_ := Aside0.mk (blk_below BK4.out hb)
        have n2_ := Aside0.mk (blk_below BX.out hb)
        have n3_ := Aside0.mk (blk_below BY.out hb)
        have n4_ := Aside0.mk (below_step HB.out hb)
        have n5_ := Aside0.mk (hown)
        clear BK3 BK4 BX BY HB hb
        have BK3 := n0_
        have BK4 := n1_
        have BX := n2_
        have BY := n3_
        have HB := n4_
        have OV := n5_
        clear n0_ n1_ n2_ n3_ n4_ n5_
        clear hown
        refine hK.out _ _ ⟨(blk_cell BK3.out 0).trans rfl, (blk_cell BK3.out 1).trans rfl, (blk_cell BK4.out 0).trans rfl, (blk_cell BK4.out 1).trans rfl⟩ (fun hHeld => ?_)
        clear hK K hHeld
        refine norm_ (a' := ?_) ?_ ?_
        rotate_left
        ·show Act.put _ (some 15) _ = _
         simp only [Act.put, List.setIfInBounds_toArray, List.set_cons_zero, List.set_cons_succ, i64_w, i32_w]
         rfl
        exact norm_ (by first | (simp only [putAll, Act.put, List.setIfInBounds_toArray, List.set_cons_zero, List.set_cons_succ]; done) | (simp only [putAll, Act.put, List.setIfInBounds_toArray, List.set_cons_zero, List.set_cons_succ]; rfl)) (hJ111 (bV, gX, gY) _ ⟨BK3.out, BK4.out, OV.out, BX.out, GX.out, BY.out, GY.out, NXY.out, HB.out⟩)
       rintro ⟨bV, gY⟩ w1_ ⟨h0_, h1_, h2_, h3_, h4_, h5_⟩
       have BK3_ := Aside0.mk h0_
       have BK4_ := Aside0.mk h1_
       have OV_ := Aside0.mk h2_
       have BY_ := Aside0.mk h3_
       have GY_ := Aside0.mk h4_
       have HB_ := Aside0.mk h5_
       clear BK3 BK4 HB h0_ h1_ h2_ h3_ h4_ h5_
       have BK3 := BK3_
       have BK4 := BK4_
       have OV := OV_
       have BY := BY_
       have GY := GY_
       have HB := HB_
       clear BK3_ BK4_ OV_ BY_ GY_ HB_
       refine norm_ (a' := ?_) ?_ ?_
       rotate_left
       ·simp only [putAll, Act.put, List.setIfInBounds_toArray, List.set_cons_zero, List.set_cons_succ, i64_w, i32_w]
        rfl
       refine two_ (i := 3) (j := 4) (Ni := some 17) (Nj := some 7) #[true, true, true, true, false, true, false, false] #[true, true, true, false, true, true, false, false] rfl rfl rfl rfl (two_of HT_.out (by kernel_rfl)) (by decide) (by decide) (fun K hK => ?_) (fun K hK => ?_)
       ·skip
        refine goes_ Tryd.func41 (by kernel_rfl) rfl #[.agg #[.slice B0 m0.length d0, .slice B1 m1.length d1]] (by rfl) rfl rfl (by (try simp only [List.map_toArray, List.map_cons, List.map_nil]); first | done | rfl) ?_
        refine (viewed_any B0 d0 m0 B1 m1.length d1 _ (Kd.C_below HRB.out HB.out) HCB.out HSB.out HLB.out).mono ?_
        rintro e w2_ ⟨bW, rfl, -, hown, hb⟩
        refine ⟨_, rfl, ?_⟩
        have n0_ := Aside0.mk (blk_below BK3.out hb)
        have n1_ := Aside0.mk (blk_below BK4.out hb)
        have n2_ := Aside0.mk (OwnsCol.below OV.out hb)
        have n3_ := Aside0.mk (blk_below BY.out hb)
        have n4_ := Aside0.mk (below_step HB.out hb)
        have n5_ := Aside0.mk (hown)
        clear BK3 BK4 OV BY HB hb
        have BK3 := n0_
        have BK4 := n1_
        have OV := n2_
        have BY := n3_
        have HB := n4_
        have OW := n5_
        clear n0_ n1_ n2_ n3_ n4_ n5_
        clear hown
        refine hK.out _ _ ⟨(blk_cell BK3.out 0).trans rfl, (blk_cell BK3.out 1).trans rfl, (blk_cell BK4.out 0).trans rfl, (blk_cell BK4.out 1).trans rfl⟩ (fun hHeld => ?_)
        clear hK K hHeld
        refine norm_ (a' := ?_) ?_ ?_
        rotate_left
        ·show Act.put _ (some 17) _ = _
         simp only [Act.put, List.setIfInBounds_toArray, List.set_cons_zero, List.set_cons_succ, i64_w, i32_w]
         rfl
        exact norm_ (by first | (simp only [putAll, Act.put, List.setIfInBounds_toArray, List.set_cons_zero, List.set_cons_succ]; done) | (simp only [putAll, Act.put, List.setIfInBounds_toArray, List.set_cons_zero, List.set_cons_succ]; rfl)) (hJ201 (bV, bW, gY) _ ⟨BK3.out, BK4.out, OV.out, OW.out, BY.out, GY.out, HB.out⟩)
       ·skip
        refine box_step ?hg (N := 7) ?hd (cs := #[.slice none 0 0, .slice none 0 0, .map none]) (t := 73) ?hr ?_; (case hd => rfl); (case hg => rfl); (case hr => first | (go_simp; done) | (go_simp; rfl))
        intro gX hg w2_ hbox hb
        have m0_ := Aside0.mk hbox
        have m1_ := Aside0.mk (by rw [hg]; exact below_size HB.out : w.heap.size ≤ gX)
        have m2_ := Aside0.mk (by rw [hg]; exact Nat.ne_of_gt (blk_lt BY.out) : gX ≠ gY)
        have n0_ := Aside0.mk (blk_below BK3.out hb)
        have n1_ := Aside0.mk (blk_below BK4.out hb)
        have n2_ := Aside0.mk (OwnsCol.below OV.out hb)
        have n3_ := Aside0.mk (blk_below BY.out hb)
        have n4_ := Aside0.mk (below_step HB.out hb)
        have n5_ := Aside0.mk (m0_.out)
        have n6_ := Aside0.mk (m1_.out)
        have n7_ := Aside0.mk (m2_.out)
        clear BK3 BK4 OV BY HB hb
        have BK3 := n0_
        have BK4 := n1_
        have OV := n2_
        have BY := n3_
        have HB := n4_
        have BX := n5_
        have GX := n6_
        have NXY := n7_
        clear n0_ n1_ n2_ n3_ n4_ n5_ n6_ n7_
        clear hbox hg m0_ m1_ m2_
        refine hK.out _ _ ⟨(blk_cell BK3.out 0).trans rfl, (blk_cell BK3.out 1).trans rfl, (blk_cell BK4.out 0).trans rfl, (blk_cell BK4.out 1).trans rfl⟩ (fun hHeld => ?_)
        clear hK K hHeld
        refine norm_ (a' := ?_) ?_ ?_
        rotate_left
        ·show Act.put _ (some 7) _ = _
         simp only [Act.put, List.setIfInBounds_toArray, List.set_cons_zero, List.set_cons_succ, i64_w, i32_w]
         rfl
        exact norm_ (by first | (simp only [putAll, Act.put, List.setIfInBounds_toArray, List.set_cons_zero, List.set_cons_succ]; done) | (simp only [putAll, Act.put, List.setIfInBounds_toArray, List.set_cons_zero, List.set_cons_succ]; rfl)) (hJ111 (bV, gX, gY) _ ⟨BK3.out, BK4.out, OV.out, BX.out, GX.out, BY.out, GY.out, NXY.out, HB.out⟩)
      rintro ⟨bV, gX⟩ w1_ ⟨h0_, h1_, h2_, h3_, h4_, h5_⟩
      have BK3_ := Aside0.mk h0_
      have BK4_ := Aside0.mk h1_
      have OV_ := Aside0.mk h2_
      have BX_ := Aside0.mk h3_
      have GX_ := Aside0.mk h4_
      have HB_ := Aside0.mk h5_
      clear BK3 BK4 HB h0_ h1_ h2_ h3_ h4_ h5_
      have BK3 := BK3_
      have BK4 := BK4_
      have OV := OV_
      have BX := BX_
      have GX := GX_
      have HB := HB_
      clear BK3_ BK4_ OV_ BX_ GX_ HB_
      refine norm_ (a' := ?_) ?_ ?_
      rotate_left
      ·simp only [putAll, Act.put, List.setIfInBounds_toArray, List.set_cons_zero, List.set_cons_succ, i64_w, i32_w]
       rfl
      refine two_ (i := 3) (j := 5) (Ni := some 17) (Nj := some 8) #[true, true, true, true, true, false, false, false] #[true, true, true, false, true, true, false, false] rfl rfl rfl rfl (two_of HT_.out (by kernel_rfl)) (by decide) (by decide) (fun K hK => ?_) (fun K hK => ?_)
      ·skip
       refine goes_ Tryd.func41 (by kernel_rfl) rfl #[.agg #[.slice B0 m0.length d0, .slice B1 m1.length d1]] (by rfl) rfl rfl (by (try simp only [List.map_toArray, List.map_cons, List.map_nil]); first | done | rfl) ?_
       refine (viewed_any B0 d0 m0 B1 m1.length d1 _ (Kd.C_below HRB.out HB.out) HCB.out HSB.out HLB.out).mono ?_
       rintro e w2_ ⟨bW, rfl, -, hown, hb⟩
       refine ⟨_, rfl, ?_⟩
       have n0_ := Aside0.mk (blk_below BK3.out hb)
       have n1_ := Aside0.mk (blk_below BK4.out hb)
       have n2_ := Aside0.mk (OwnsCol.below OV.out hb)
       have n3_ := Aside0.mk (blk_below BX.out hb)
       have n4_ := Aside0.mk (below_step HB.out hb)
       have n5_ := Aside0.mk (hown)
       clear BK3 BK4 OV BX HB hb
       have BK3 := n0_
       have BK4 := n1_
       have OV := n2_
       have BX := n3_
       have HB := n4_
       have OW := n5_
       clear n0_ n1_ n2_ n3_ n4_ n5_
       clear hown
       refine hK.out _ _ ⟨(blk_cell BK3.out 0).trans rfl, (blk_cell BK3.out 1).trans rfl, (blk_cell BK4.out 0).trans rfl, (blk_cell BK4.out 1).trans rfl⟩ (fun hHeld => ?_)
       clear hK K hHeld
       refine norm_ (a' := ?_) ?_ ?_
       rotate_left
       ·show Act.put _ (some 17) _ = _
        simp only [Act.put, List.setIfInBounds_toArray, List.set_cons_zero, List.set_cons_succ, i64_w, i32_w]
        rfl
       exact norm_ (by first | (simp only [putAll, Act.put, List.setIfInBounds_toArray, List.set_cons_zero, List.set_cons_succ]; done) | (simp only [putAll, Act.put, List.setIfInBounds_toArray, List.set_cons_zero, List.set_cons_succ]; rfl)) (hJ210 (bV, bW, gX) _ ⟨BK3.out, BK4.out, OV.out, OW.out, BX.out, GX.out, HB.out⟩)
      ·skip
       refine box_step ?hg (N := 8) ?hd (cs := #[.slice none 0 0, .slice none 0 0, .map none]) (t := 73) ?hr ?_; (case hd => rfl); (case hg => rfl); (case hr => first | (go_simp; done) | (go_simp; rfl))
       intro gY hg w2_ hbox hb
       have m0_ := Aside0.mk hbox
       have m1_ := Aside0.mk (by rw [hg]; exact below_size HB.out : w.heap.size ≤ gY)
       have m2_ := Aside0.mk (by rw [hg]; exact Nat.ne_of_lt (blk_lt BX.out) : gX ≠ gY)
       have n0_ := Aside0.mk (blk_below BK3.out hb)
       have n1_ := Aside0.mk (blk_below BK4.out hb)
       have n2_ := Aside0.mk (OwnsCol.below OV.out hb)
       have n3_ := Aside0.mk (blk_below BX.out hb)
       have n4_ := Aside0.mk (below_step HB.out hb)
       have n5_ := Aside0.mk (m0_.out)
       have n6_ := Aside0.mk (m1_.out)
       have n7_ := Aside0.mk (m2_.out)
       clear BK3 BK4 OV BX HB hb
       have BK3 := n0_
       have BK4 := n1_
       have OV := n2_
       have BX := n3_
       have HB := n4_
       have BY := n5_
       have GY := n6_
       have NXY := n7_
       clear n0_ n1_ n2_ n3_ n4_ n5_ n6_ n7_
       clear hbox hg m0_ m1_ m2_
       refine hK.out _ _ ⟨(blk_cell BK3.out 0).trans rfl, (blk_cell BK3.out 1).trans rfl, (blk_cell BK4.out 0).trans rfl, (blk_cell BK4.out 1).trans rfl⟩ (fun hHeld => ?_)
       clear hK K hHeld
       refine norm_ (a' := ?_) ?_ ?_
       rotate_left
       ·show Act.put _ (some 8) _ = _
        simp only [Act.put, List.setIfInBounds_toArray, List.set_cons_zero, List.set_cons_succ, i64_w, i32_w]
        rfl
       exact norm_ (by first | (simp only [putAll, Act.put, List.setIfInBounds_toArray, List.set_cons_zero, List.set_cons_succ]; done) | (simp only [putAll, Act.put, List.setIfInBounds_toArray, List.set_cons_zero, List.set_cons_succ]; rfl)) (hJ111 (bV, gX, gY) _ ⟨BK3.out, BK4.out, OV.out, BX.out, GX.out, BY.out, GY.out, NXY.out, HB.out⟩)
     rintro ⟨bV, bW⟩ w1_ ⟨h0_, h1_, h2_, h3_, h4_⟩
     have BK3_ := Aside0.mk h0_
     have BK4_ := Aside0.mk h1_
     have OV_ := Aside0.mk h2_
     have OW_ := Aside0.mk h3_
     have HB_ := Aside0.mk h4_
     clear BK3 BK4 HB h0_ h1_ h2_ h3_ h4_
     have BK3 := BK3_
     have BK4 := BK4_
     have OV := OV_
     have OW := OW_
     have HB := HB_
     clear BK3_ BK4_ OV_ OW_ HB_
     refine norm_ (a' := ?_) ?_ ?_
     rotate_left
     ·simp only [putAll, Act.put, List.setIfInBounds_toArray, List.set_cons_zero, List.set_cons_succ, i64_w, i32_w]
      rfl
     refine two_ (i := 4) (j := 5) (Ni := some 7) (Nj := some 8) #[true, true, true, true, true, false, false, false] #[true, true, true, true, false, true, false, false] rfl rfl rfl rfl (two_of HT_.out (by kernel_rfl)) (by decide) (by decide) (fun K hK => ?_) (fun K hK => ?_)
     ·skip
      refine box_step ?hg (N := 7) ?hd (cs := #[.slice none 0 0, .slice none 0 0, .map none]) (t := 73) ?hr ?_; (case hd => rfl); (case hg => rfl); (case hr => first | (go_simp; done) | (go_simp; rfl))
      intro gX hg w2_ hbox hb
      have m0_ := Aside0.mk hbox
      have m1_ := Aside0.mk (by rw [hg]; exact below_size HB.out : w.heap.size ≤ gX)
      have n0_ := Aside0.mk (blk_below BK3.out hb)
      have n1_ := Aside0.mk (blk_below BK4.out hb)
      have n2_ := Aside0.mk (OwnsCol.below OV.out hb)
      have n3_ := Aside0.mk (OwnsCol.below OW.out hb)
      have n4_ := Aside0.mk (below_step HB.out hb)
      have n5_ := Aside0.mk (m0_.out)
      have n6_ := Aside0.mk (m1_.out)
      clear BK3 BK4 OV OW HB hb
      have BK3 := n0_
      have BK4 := n1_
      have OV := n2_
      have OW := n3_
      have HB := n4_
      have BX := n5_
      have GX := n6_
      clear n0_ n1_ n2_ n3_ n4_ n5_ n6_
      clear hbox hg m0_ m1_
      refine hK.out _ _ ⟨(blk_cell BK3.out 0).trans rfl, (blk_cell BK3.out 1).trans rfl, (blk_cell BK4.out 0).trans rfl, (blk_cell BK4.out 1).trans rfl⟩ (fun hHeld => ?_)
      clear hK K hHeld
      refine norm_ (a' := ?_) ?_ ?_
      rotate_left
      ·show Act.put _ (some 7) _ = _
       simp only [Act.put, List.setIfInBounds_toArray, List.set_cons_zero, List.set_cons_succ, i64_w, i32_w]
       rfl
      exact norm_ (by first | (simp only [putAll, Act.put, List.setIfInBounds_toArray, List.set_cons_zero, List.set_cons_succ]; done) | (simp only [putAll, Act.put, List.setIfInBounds_toArray, List.set_cons_zero, List.set_cons_succ]; rfl)) (hJ210 (bV, bW, gX) _ ⟨BK3.out, BK4.out, OV.out, OW.out, BX.out, GX.out, HB.out⟩)
     ·skip
      refine box_step ?hg (N := 8) ?hd (cs := #[.slice none 0 0, .slice none 0 0, .map none]) (t := 73) ?hr ?_; (case hd => rfl); (case hg => rfl); (case hr => first | (go_simp; done) | (go_simp; rfl))
      intro gY hg w2_ hbox hb
      have m0_ := Aside0.mk hbox
      have m1_ := Aside0.mk (by rw [hg]; exact below_size HB.out : w.heap.size ≤ gY)
      have n0_ := Aside0.mk (blk_below BK3.out hb)
      have n1_ := Aside0.mk (blk_below BK4.out hb)
      have n2_ := Aside0.mk (OwnsCol.below OV.out hb)
      have n3_ := Aside0.mk (OwnsCol.below OW.out hb)
      have n4_ := Aside0.mk (below_step HB.out hb)
      have n5_ := Aside0.mk (m0_.out)
      have n6_ := Aside0.mk (m1_.out)
      clear BK3 BK4 OV OW HB hb
      have BK3 := n0_
      have BK4 := n1_
      have OV := n2_
      have OW := n3_
      have HB := n4_
      have BY := n5_
      have GY := n6_
      clear n0_ n1_ n2_ n3_ n4_ n5_ n6_
      clear hbox hg m0_ m1_
      refine hK.out _ _ ⟨(blk_cell BK3.out 0).trans rfl, (blk_cell BK3.out 1).trans rfl, (blk_cell BK4.out 0).trans rfl, (blk_cell BK4.out 1).trans rfl⟩ (fun hHeld => ?_)
      clear hK K hHeld
      refine norm_ (a' := ?_) ?_ ?_
      rotate_left
      ·show Act.put _ (some 8) _ = _
       simp only [Act.put, List.setIfInBounds_toArray, List.set_cons_zero, List.set_cons_succ, i64_w, i32_w]
       rfl
      exact norm_ (by first | (simp only [putAll, Act.put, List.setIfInBounds_toArray, List.set_cons_zero, List.set_cons_succ]; done) | (simp only [putAll, Act.put, List.setIfInBounds_toArray, List.set_cons_zero, List.set_cons_succ]; rfl)) (hJ201 (bV, bW, gY) _ ⟨BK3.out, BK4.out, OV.out, OW.out, BY.out, GY.out, HB.out⟩)
    rintro ⟨bV, gX, gY⟩ w1_ ⟨h0_, h1_, h2_, h3_, h4_, h5_, h6_, h7_, h8_⟩
    have BK3_ := Aside0.mk h0_
    have BK4_ := Aside0.mk h1_
    have OV_ := Aside0.mk h2_
    have BX_ := Aside0.mk h3_
    have GX_ := Aside0.mk h4_
    have BY_ := Aside0.mk h5_
    have GY_ := Aside0.mk h6_
    have NXY_ := Aside0.mk h7_
    have HB_ := Aside0.mk h8_
    clear BK3 BK4 HB h0_ h1_ h2_ h3_ h4_ h5_ h6_ h7_ h8_
    have BK3 := BK3_
    have BK4 := BK4_
    have OV := OV_
    have BX := BX_
    have GX := GX_
    have BY := BY_
    have GY := GY_
    have NXY := NXY_
    have HB := HB_
    clear BK3_ BK4_ OV_ BX_ GX_ BY_ GY_ NXY_ HB_
    refine norm_ (a' := ?_) ?_ ?_
    rotate_left
    ·simp only [putAll, Act.put, List.setIfInBounds_toArray, List.set_cons_zero, List.set_cons_succ, i64_w, i32_w]
     rfl
    refine one_ (i := 3) (N := some 17) #[true, true, true, true, true, true, false, false] rfl rfl (one_of HT_.out (by kernel_rfl)) (by decide) (fun K hK => ?_)
    refine goes_ Tryd.func41 (by kernel_rfl) rfl #[.agg #[.slice B0 m0.length d0, .slice B1 m1.length d1]] (by rfl) rfl rfl (by (try simp only [List.map_toArray, List.map_cons, List.map_nil]); first | done | rfl) ?_
    refine (viewed_any B0 d0 m0 B1 m1.length d1 _ (Kd.C_below HRB.out HB.out) HCB.out HSB.out HLB.out).mono ?_
    rintro e w2_ ⟨bW, rfl, -, hown, hb⟩
    refine ⟨_, rfl, ?_⟩
    have n0_ := Aside0.mk (blk_below BK3.out hb)
    have n1_ := Aside0.mk (blk_below BK4.out hb)
    have n2_ := Aside0.mk (OwnsCol.below OV.out hb)
    have n3_ := Aside0.mk (blk_below BX.out hb)
    have n4_ := Aside0.mk (blk_below BY.out hb)
    have n5_ := Aside0.mk (below_step HB.out hb)
    have n6_ := Aside0.mk (hown)
    clear BK3 BK4 OV BX BY HB hb
    have BK3 := n0_
    have BK4 := n1_
    have OV := n2_
    have BX := n3_
    have BY := n4_
    have HB := n5_
    have OW := n6_
    clear n0_ n1_ n2_ n3_ n4_ n5_ n6_
    clear hown
    refine hK.out _ _ ⟨(blk_cell BK3.out 0).trans rfl, (blk_cell BK3.out 1).trans rfl, (blk_cell BK4.out 0).trans rfl, (blk_cell BK4.out 1).trans rfl⟩ (fun hHeld => ?_)
    clear hK K hHeld
    refine norm_ (a' := ?_) ?_ ?_
    rotate_left
    ·show Act.put _ (some 17) _ = _
     simp only [Act.put, List.setIfInBounds_toArray, List.set_cons_zero, List.set_cons_succ, i64_w, i32_w]
     rfl
    exact norm_ (by first | (simp only [putAll, Act.put, List.setIfInBounds_toArray, List.set_cons_zero, List.set_cons_succ]; done) | (simp only [putAll, Act.put, List.setIfInBounds_toArray, List.set_cons_zero, List.set_cons_succ]; rfl)) (hJ211 (bV, bW, gX, gY) _ ⟨BK3.out, BK4.out, OV.out, OW.out, BX.out, GX.out, BY.out, GY.out, NXY.out, HB.out⟩)
   rintro ⟨bV, bW, gY⟩ w1_ ⟨h0_, h1_, h2_, h3_, h4_, h5_, h6_⟩
   have BK3_ := Aside0.mk h0_
   have BK4_ := Aside0.mk h1_
   have OV_ := Aside0.mk h2_
   have OW_ := Aside0.mk h3_
   have BY_ := Aside0.mk h4_
   have GY_ := Aside0.mk h5_
   have HB_ := Aside0.mk h6_
   clear BK3 BK4 HB h0_ h1_ h2_ h3_ h4_ h5_ h6_
   have BK3 := BK3_
   have BK4 := BK4_
   have OV := OV_
   have OW := OW_
   have BY := BY_
   have GY := GY_
   have HB := HB_
   clear BK3_ BK4_ OV_ OW_ BY_ GY_ HB_
   refine norm_ (a' := ?_) ?_ ?_
   rotate_left
   ·simp only [putAll, Act.put, List.setIfInBounds_toArray, List.set_cons_zero, List.set_cons_succ, i64_w, i32_w]
    rfl
   refine one_ (i := 4) (N := some 7) #[true, true, true, true, true, true, false, false] rfl rfl (one_of HT_.out (by kernel_rfl)) (by decide) (fun K hK => ?_)
   refine box_step ?hg (N := 7) ?hd (cs := #[.slice none 0 0, .slice none 0 0, .map none]) (t := 73) ?hr ?_; (case hd => rfl); (case hg => rfl); (case hr => first | (go_simp; done) | (go_simp; rfl))
   intro gX hg w2_ hbox hb
   have m0_ := Aside0.mk hbox
   have m1_ := Aside0.mk (by rw [hg]; exact below_size HB.out : w.heap.size ≤ gX)
   have m2_ := Aside0.mk (by rw [hg]; exact Nat.ne_of_gt (blk_lt BY.out) : gX ≠ gY)
   have n0_ := Aside0.mk (blk_below BK3.out hb)
   have n1_ := Aside0.mk (blk_below BK4.out hb)
   have n2_ := Aside0.mk (OwnsCol.below OV.out hb)
   have n3_ := Aside0.mk (OwnsCol.below OW.out hb)
   have n4_ := Aside0.mk (blk_below BY.out hb)
   have n5_ := Aside0.mk (below_step HB.out hb)
   have n6_ := Aside0.mk (m0_.out)
   have n7_ := Aside0.mk (m1_.out)
   have n8_ := Aside0.mk (m2_.out)
   clear BK3 BK4 OV OW BY HB hb
   have BK3 := n0_
   have BK4 := n1_
   have OV := n2_
   have OW := n3_
   have BY := n4_
   have HB := n5_
   have BX := n6_
   have GX := n7_
   have NXY := n8_
   clear n0_ n1_ n2_ n3_ n4_ n5_ n6_ n7_ n8_
   clear hbox hg m0_ m1_ m2_
   refine hK.out _ _ ⟨(blk_cell BK3.out 0).trans rfl, (blk_cell BK3.out 1).trans rfl, (blk_cell BK4.out 0).trans rfl, (blk_cell BK4.out 1).trans rfl⟩ (fun hHeld => ?_)
   clear hK K hHeld
   refine norm_ (a' := ?_) ?_ ?_
   rotate_left
   ·show Act.put _ (some 7) _ = _
    simp only [Act.put, List.setIfInBounds_toArray, List.set_cons_zero, List.set_cons_succ, i64_w, i32_w]
    rfl
   exact norm_ (by first | (simp only [putAll, Act.put, List.setIfInBounds_toArray, List.set_cons_zero, List.set_cons_succ]; done) | (simp only [putAll, Act.put, List.setIfInBounds_toArray, List.set_cons_zero, List.set_cons_succ]; rfl)) (hJ211 (bV, bW, gX, gY) _ ⟨BK3.out, BK4.out, OV.out, OW.out, BX.out, GX.out, BY.out, GY.out, NXY.out, HB.out⟩)
  rintro ⟨bV, bW, gX⟩ w1_ ⟨h0_, h1_, h2_, h3_, h4_, h5_, h6_⟩
  have BK3_ := Aside0.mk h0_
  have BK4_ := Aside0.mk h1_
  have OV_ := Aside0.mk h2_
  have OW_ := Aside0.mk h3_
  have BX_ := Aside0.mk h4_
  have GX_ := Aside0.mk h5_
  have HB_ := Aside0.mk h6_
  clear BK3 BK4 HB h0_ h1_ h2_ h3_ h4_ h5_ h6_
  have BK3 := BK3_
  have BK4 := BK4_
  have OV := OV_
  have OW := OW_
  have BX := BX_
  have GX := GX_
  have HB := HB_
  clear BK3_ BK4_ OV_ OW_ BX_ GX_ HB_
  refine norm_ (a' := ?_) ?_ ?_
  rotate_left
  ·simp only [putAll, Act.put, List.setIfInBounds_toArray, List.set_cons_zero, List.set_cons_succ, i64_w, i32_w]
   rfl
  refine one_ (i := 5) (N := some 8) #[true, true, true, true, true, true, false, false] rfl rfl (one_of HT_.out (by kernel_rfl)) (by decide) (fun K hK => ?_)
  refine box_step ?hg (N := 8) ?hd (cs := #[.slice none 0 0, .slice none 0 0, .map none]) (t := 73) ?hr ?_; (case hd => rfl); (case hg => rfl); (case hr => first | (go_simp; done) | (go_simp; rfl))
  intro gY hg w2_ hbox hb
  have m0_ := Aside0.mk hbox
  have m1_ := Aside0.mk (by rw [hg]; exact below_size HB.out : w.heap.size ≤ gY)
  have m2_ := Aside0.mk (by rw [hg]; exact Nat.ne_of_lt (blk_lt BX.out) : gX ≠ gY)
  have n0_ := Aside0.mk (blk_below BK3.out hb)
  have n1_ := Aside0.mk (blk_below BK4.out hb)
  have n2_ := Aside0.mk (OwnsCol.below OV.out hb)
  have n3_ := Aside0.mk (OwnsCol.below OW.out hb)
  have n4_ := Aside0.mk (blk_below BX.out hb)
  have n5_ := Aside0.mk (below_step HB.out hb)
  have n6_ := Aside0.mk (m0_.out)
  have n7_ := Aside0.mk (m1_.out)
  have n8_ := Aside0.mk (m2_.out)
  clear BK3 BK4 OV OW BX HB hb
  have BK3 := n0_
  have BK4 := n1_
  have OV := n2_
  have OW := n3_
  have BX := n4_
  have HB := n5_
  have BY := n6_
  have GY := n7_
  have NXY := n8_
  clear n0_ n1_ n2_ n3_ n4_ n5_ n6_ n7_ n8_
  clear hbox hg m0_ m1_ m2_
  refine hK.out _ _ ⟨(blk_cell BK3.out 0).trans rfl, (blk_cell BK3.out 1).trans rfl, (blk_cell BK4.out 0).trans rfl, (blk_cell BK4.out 1).trans rfl⟩ (fun hHeld => ?_)
  clear hK K hHeld
  refine norm_ (a' := ?_) ?_ ?_
  rotate_left
  ·show Act.put _ (some 8) _ = _
   simp only [Act.put, List.setIfInBounds_toArray, List.set_cons_zero, List.set_cons_succ, i64_w, i32_w]
   rfl
  exact norm_ (by first | (simp only [putAll, Act.put, List.setIfInBounds_toArray, List.set_cons_zero, List.set_cons_succ]; done) | (simp only [putAll, Act.put, List.setIfInBounds_toArray, List.set_cons_zero, List.set_cons_succ]; rfl)) (hJ211 (bV, bW, gX, gY) _ ⟨BK3.out, BK4.out, OV.out, OW.out, BX.out, GX.out, BY.out, GY.out, NXY.out, HB.out⟩)
 rintro ⟨bV, bW, gX, gY⟩ w1_ ⟨h0_, h1_, h2_, h3_, h4_, h5_, h6_, h7_, h8_, h9_⟩
 have BK3_ := Aside0.mk h0_
 have BK4_ := Aside0.mk h1_
 have OV_ := Aside0.mk h2_
 have OW_ := Aside0.mk h3_
 have BX_ := Aside0.mk h4_
 have GX_ := Aside0.mk h5_
 have BY_ := Aside0.mk h6_
 have GY_ := Aside0.mk h7_
 have NXY_ := Aside0.mk h8_
 have HB_ := Aside0.mk h9_
 clear BK3 BK4 HB h0_ h1_ h2_ h3_ h4_ h5_ h6_ h7_ h8_ h9_
 have BK3 := BK3_
 have BK4 := BK4_
 have OV := OV_
 have OW := OW_
 have BX := BX_
 have GX := GX_
 have BY := BY_
 have GY := GY_
 have NXY := NXY_
 have HB := HB_
 clear BK3_ BK4_ OV_ OW_ BX_ GX_ BY_ GY_ NXY_ HB_
 refine norm_ (a' := ?_) ?_ ?_
 rotate_left
 ·simp only [putAll, Act.put, List.setIfInBounds_toArray, List.set_cons_zero, List.set_cons_succ, i64_w, i32_w]
  rfl
 refine one_ (i := 6) (N := none) #[true, true, true, true, true, true, true, false] rfl rfl (one_of HT_.out (by kernel_rfl)) (by decide) (fun K hK => ?_)
 have hs18 : w1_.cell? ⟨gX, 0, none⟩ = some (.slice none 0 0) := (blk_cell BX.out 0).trans rfl
 have hfs18 := blk_frozen BX.out 0
 have hs20 : w1_.cell? ⟨gX, 1, none⟩ = some (.slice none 0 0) := (blk_cell BX.out 1).trans rfl
 have hfs20 := blk_frozen BX.out 1
 have hs21 : w1_.cell? ⟨gX, 2, none⟩ = some (.map none) := (blk_cell BX.out 2).trans rfl
 have hfs21 := blk_frozen BX.out 2
 have M3 := blk_ne BK3.out BX.out (by decide)
 have M4 := blk_ne BK4.out BX.out (by decide)
 have MV := OwnsCol.ne OV.out BX.out
 have MW := OwnsCol.ne OW.out BX.out
 refine skip_ (w1 := ?_) (by rfl) rfl ?_ ?_
 rotate_left
 ·go_simp
  rfl
 have m0_ := Aside0.mk (blk_far (blk_far (blk_far BK3.out (p := ⟨gX, 0, none⟩) M3 (.slice A0 l0.length c0)) (p := ⟨gX, 1, none⟩) M3 (.slice A1 l1.length c1)) (p := ⟨gX, 2, none⟩) M3 (.map (some bV)))
 have m1_ := Aside0.mk (blk_far (blk_far (blk_far BK4.out (p := ⟨gX, 0, none⟩) M4 (.slice A0 l0.length c0)) (p := ⟨gX, 1, none⟩) M4 (.slice A1 l1.length c1)) (p := ⟨gX, 2, none⟩) M4 (.map (some bV)))
 have m2_ := Aside0.mk (((OV.out.setCell (a := ⟨gX, 0, none⟩) MV (.slice A0 l0.length c0)).setCell (a := ⟨gX, 1, none⟩) MV (.slice A1 l1.length c1)).setCell (a := ⟨gX, 2, none⟩) MV (.map (some bV)))
 have m3_ := Aside0.mk (((OW.out.setCell (a := ⟨gX, 0, none⟩) MW (.slice A0 l0.length c0)).setCell (a := ⟨gX, 1, none⟩) MW (.slice A1 l1.length c1)).setCell (a := ⟨gX, 2, none⟩) MW (.map (some bV)))
 have m4_ := Aside0.mk (blk_far (blk_far (blk_far BY.out (p := ⟨gX, 0, none⟩) NXY.out.symm (.slice A0 l0.length c0)) (p := ⟨gX, 1, none⟩) NXY.out.symm (.slice A1 l1.length c1)) (p := ⟨gX, 2, none⟩) NXY.out.symm (.map (some bV)))
 have m5_ := Aside0.mk (blk_put (cs' := #[.slice A0 l0.length c0, .slice A1 l1.length c1, .map (some bV)]) (blk_put (cs' := #[.slice A0 l0.length c0, .slice A1 l1.length c1, .map none]) (blk_put (cs' := #[.slice A0 l0.length c0, .slice none 0 0, .map none]) BX.out 0 (.slice A0 l0.length c0) rfl) 1 (.slice A1 l1.length c1) rfl) 2 (.map (some bV)) rfl)
 have m6_ := Aside0.mk (below_set (j := 2) (v := .map (some bV)) (below_set (j := 1) (v := .slice A1 l1.length c1) (below_set (j := 0) (v := .slice A0 l0.length c0) HB.out GX.out) GX.out) GX.out)
 generalize ((w1_.setCell ⟨gX, 0, none⟩ (.slice A0 l0.length c0)).setCell ⟨gX, 1, none⟩ (.slice A1 l1.length c1)).setCell ⟨gX, 2, none⟩ (.map (some bV)) = w2_ at m0_ m1_ m2_ m3_ m4_ m5_ m6_ ⊢
 clear BK3 BK4 OV OW BY BX HB hs18 hs20 hs21 hfs18 hfs20 hfs21 M3 M4 MV MW
 have BK3 := m0_
 have BK4 := m1_
 have OV := m2_
 have OW := m3_
 have BY := m4_
 have BX := m5_
 have HB := m6_
 clear m0_ m1_ m2_ m3_ m4_ m5_ m6_
 refine hK.out _ _ ⟨(blk_cell BK3.out 0).trans rfl, (blk_cell BK3.out 1).trans rfl, (blk_cell BK4.out 0).trans rfl, (blk_cell BK4.out 1).trans rfl⟩ (fun hHeld => ?_)
 clear hK K hHeld
 refine one_ (i := 7) (N := none) #[true, true, true, true, true, true, true, true] rfl rfl (one_of HT_.out (by kernel_rfl)) (by decide) (fun K hK => ?_)
 have hs18 : w2_.cell? ⟨gY, 0, none⟩ = some (.slice none 0 0) := (blk_cell BY.out 0).trans rfl
 have hfs18 := blk_frozen BY.out 0
 have hs20 : w2_.cell? ⟨gY, 1, none⟩ = some (.slice none 0 0) := (blk_cell BY.out 1).trans rfl
 have hfs20 := blk_frozen BY.out 1
 have hs21 : w2_.cell? ⟨gY, 2, none⟩ = some (.map none) := (blk_cell BY.out 2).trans rfl
 have hfs21 := blk_frozen BY.out 2
 have M3 := blk_ne BK3.out BY.out (by decide)
 have M4 := blk_ne BK4.out BY.out (by decide)
 have MV := OwnsCol.ne OV.out BY.out
 have MW := OwnsCol.ne OW.out BY.out
 refine skip_ (w1 := ?_) (by rfl) rfl ?_ ?_
 rotate_left
 ·go_simp
  rfl
 have m0_ := Aside0.mk (blk_far (blk_far (blk_far BK3.out (p := ⟨gY, 0, none⟩) M3 (.slice B0 m0.length d0)) (p := ⟨gY, 1, none⟩) M3 (.slice B1 m1.length d1)) (p := ⟨gY, 2, none⟩) M3 (.map (some bW)))
 have m1_ := Aside0.mk (blk_far (blk_far (blk_far BK4.out (p := ⟨gY, 0, none⟩) M4 (.slice B0 m0.length d0)) (p := ⟨gY, 1, none⟩) M4 (.slice B1 m1.length d1)) (p := ⟨gY, 2, none⟩) M4 (.map (some bW)))
 have m2_ := Aside0.mk (((OV.out.setCell (a := ⟨gY, 0, none⟩) MV (.slice B0 m0.length d0)).setCell (a := ⟨gY, 1, none⟩) MV (.slice B1 m1.length d1)).setCell (a := ⟨gY, 2, none⟩) MV (.map (some bW)))
 have m3_ := Aside0.mk (((OW.out.setCell (a := ⟨gY, 0, none⟩) MW (.slice B0 m0.length d0)).setCell (a := ⟨gY, 1, none⟩) MW (.slice B1 m1.length d1)).setCell (a := ⟨gY, 2, none⟩) MW (.map (some bW)))
 have m4_ := Aside0.mk (blk_far (blk_far (blk_far BX.out (p := ⟨gY, 0, none⟩) NXY.out (.slice B0 m0.length d0)) (p := ⟨gY, 1, none⟩) NXY.out (.slice B1 m1.length d1)) (p := ⟨gY, 2, none⟩) NXY.out (.map (some bW)))
 have m5_ := Aside0.mk (blk_put (cs' := #[.slice B0 m0.length d0, .slice B1 m1.length d1, .map (some bW)]) (blk_put (cs' := #[.slice B0 m0.length d0, .slice B1 m1.length d1, .map none]) (blk_put (cs' := #[.slice B0 m0.length d0, .slice none 0 0, .map none]) BY.out 0 (.slice B0 m0.length d0) rfl) 1 (.slice B1 m1.length d1) rfl) 2 (.map (some bW)) rfl)
 have m6_ := Aside0.mk (below_set (j := 2) (v := .map (some bW)) (below_set (j := 1) (v := .slice B1 m1.length d1) (below_set (j := 0) (v := .slice B0 m0.length d0) HB.out GY.out) GY.out) GY.out)
 generalize ((w2_.setCell ⟨gY, 0, none⟩ (.slice B0 m0.length d0)).setCell ⟨gY, 1, none⟩ (.slice B1 m1.length d1)).setCell ⟨gY, 2, none⟩ (.map (some bW)) = w0_ at m0_ m1_ m2_ m3_ m4_ m5_ m6_ ⊢
 clear BK3 BK4 OV OW BY BX HB hs18 hs20 hs21 hfs18 hfs20 hfs21 M3 M4 MV MW
 have BK3 := m0_
 have BK4 := m1_
 have OV := m2_
 have OW := m3_
 have BX := m4_
 have BY := m5_
 have HB := m6_
 clear m0_ m1_ m2_ m3_ m4_ m5_ m6_
 refine hK.out _ _ ⟨(blk_cell BK3.out 0).trans rfl, (blk_cell BK3.out 1).trans rfl, (blk_cell BK4.out 0).trans rfl, (blk_cell BK4.out 1).trans rfl⟩ (fun hHeld => ?_)
 clear hK K hHeld
 refine done_ (done_of HT_.out (by kernel_rfl)) ?_
 clear GX GY NXY
 have H0 := HB
 clear HB
 have HB := Aside0.mk (Below.refl w0_.heap.size w0_)
 have hz0 : w0_.cell? ⟨g3, 1, none⟩ = some (.slice A1 l1.length c1) := (blk_cell BK3.out 1).trans rfl
 have hz1 : w0_.cell? ⟨g4, 1, none⟩ = some (.slice B1 m1.length d1) := (blk_cell BK4.out 1).trans rfl
 have hf0 := blk_frozen BK3.out 1
 have hf1 := blk_frozen BK4.out 1
 obtain ⟨M, hM⟩ : ∃ M : Nat, max l1.length m1.length = M := ⟨_, rfl⟩
 have hM_ : (if (l1.length : Int) < (m1.length : Int) then (m1.length : Int) else (l1.length : Int)) = (M : Int) := by split <;> omega
 have hM2_ : (if l1.length < m1.length then (m1.length : Int) else (l1.length : Int)) = (M : Int) := by split <;> omega
 have HMM := Aside0.mk hM
 clear hM
 go_wp2
 clear hM_ hM2_ hz0 hz1 hf0 hf1
 go_loopg [10] M (fun kq v10 wr => ∃ d : Nat, v10 = .int .i64 (d : Int) ∧ Aside0 (d + kq = M) ∧ Aside0 (∀ d' : Nat, d' < d → (d' : Int) ≤ last → ∀ n, n ∈ l0 ∨ n ∈ m0 → cellC l0 l1 n d' = cellC m0 m1 n d') ∧ Aside0 (Below w0_.heap.size w0_ wr))
 case atStart => exact ⟨0, rfl, ⟨by omega⟩, ⟨fun d' h => absurd h (Nat.not_lt_zero _)⟩, HB⟩
 case round =>
  clear HB
  obtain ⟨d, rfl, HD, HG, HB⟩ := hrel
  have tru : (¬ (d < M ∧ (d : Int) ≤ last)) → r = true := fun hn => by
   cases r with
   | true => rfl
   | false =>
    obtain ⟨d', e1, e2, n, e3, e4⟩ := HR2.out rfl
    rw [HMM.out] at e1
    exact absurd (HG.out d' (by have := HD.out; omega) e2 n e3) e4
  have TRU := Aside0.mk tru
  clear tru
  cases gk with
  | zero =>
   have hM : d = M := by have := HD.out; omega
   have hd : decide ((d : Int) < (M : Int)) = false := decide_eq_false (by omega)
   have hd2 : decide (d < M) = false := decide_eq_false (by omega)
   have er : r = true := TRU.out (fun h => by omega)
   subst er
   clear hM
   go_wp2
   go_ret
   exact ⟨rfl, below_then H0.out H0.out.size HB.out⟩
  | succ g =>
   have hd : decide ((d : Int) < (M : Int)) = true := decide_eq_true (by have := HD.out; omega)
   have hd2 : decide (d < M) = true := decide_eq_true (by have := HD.out; omega)
   by_cases hl : (d : Int) ≤ last
   rotate_left
   ·have hl2 : decide ((d : Int) ≤ last) = false := decide_eq_false hl
    have er : r = true := TRU.out (fun h => hl h.2)
    subst er
    clear hl
    go_wp2
    go_ret
    exact ⟨rfl, below_then H0.out H0.out.size HB.out⟩
   have hl2 : decide ((d : Int) ≤ last) = true := decide_eq_true hl
   have HL := Aside0.mk hl
   clear hl
   have hx := (blk_cell (blk_below BX.out HB.out) 2).trans rfl
   have hy := (blk_cell (blk_below BY.out HB.out) 2).trans rfl
   have fx := blk_frozen (blk_below BX.out HB.out) 2
   have fy := blk_frozen (blk_below BY.out HB.out) 2
   go_wp2
   have b0_ : Aside0 ((wr.alloc (Obj.cells #[.map (some bV), .map (some bW)] 71)).cell? ((⟨wr.heap.size, 0, none⟩ : Addr).add 0) = some (.map (some bV))) := ⟨(blk_cell (blk_new wr (Obj.cells #[.map (some bV), .map (some bW)] 71)) 0).trans rfl⟩
   have b1_ : Aside0 ((wr.alloc (Obj.cells #[.map (some bV), .map (some bW)] 71)).cell? ((⟨wr.heap.size, 0, none⟩ : Addr).add 1) = some (.map (some bW))) := ⟨(blk_cell (blk_new wr (Obj.cells #[.map (some bV), .map (some bW)] 71)) 1).trans rfl⟩
   have b2_ := Aside0.mk (below_alloc HB.out (Obj.cells #[.map (some bV), .map (some bW)] 71))
   generalize (⟨wr.heap.size, 0, none⟩ : Addr) = ad at b0_ b1_ ⊢
   generalize wr.alloc (Obj.cells #[.map (some bV), .map (some bW)] 71) = wr2 at b0_ b1_ b2_ ⊢
   clear HB hx hy fx fy
   go_loopg [41] 2 (fun kq v41 wq => ∃ i : Nat, v41 = .int .i64 (i : Int) ∧ Aside0 (i + kq = 2) ∧ Aside0 ((1 ≤ i → ∀ n, n ∈ l0 → cellC l0 l1 n d = cellC m0 m1 n d) ∧ (2 ≤ i → ∀ n, n ∈ m0 → cellC l0 l1 n d = cellC m0 m1 n d)) ∧ Aside0 (wq.cell? (ad.add 0) = some (.map (some bV))) ∧ Aside0 (wq.cell? (ad.add 1) = some (.map (some bW))) ∧ Aside0 (Below w0_.heap.size w0_ wq))
   case atStart => exact ⟨0, rfl, ⟨rfl⟩, ⟨fun h => absurd h (by decide), fun h => absurd h (by decide)⟩, b0_, b1_, b2_⟩
   case round =>
    clear b0_ b1_ b2_
    obtain ⟨i, rfl, HI, HE, C0, C1, HB⟩ := hrel
    obtain ⟨wq, hwq⟩ : ∃ wq, wq = wr := ⟨_, rfl⟩
    subst hwq
    cases gk with
    | zero =>
     have hi : i = 2 := by have := HI.out; omega
     subst hi
     go_wp2
     go_roundg g
     case measure => omega
     case rel =>
      refine ⟨d + 1, by rw [w64c d (by have := HD.out; have := HMM.out; have := HMA.out; have := HMB.out; omega)], ⟨by have := HD.out; omega⟩, ⟨fun d' h1 h2 n h3 => ?_⟩, HB⟩
      by_cases e : d' = d
      ·subst e
       rcases h3 with h3 | h3
       ·exact HE.out.1 (by decide) n h3
       ·exact HE.out.2 (by decide) n h3
      ·exact HG.out d' (by omega) h2 n h3
    | succ g2 =>
     have hi : i < 2 := by have := HI.out; omega
     obtain ⟨bi, li, hc, ho, hin⟩ : ∃ (bi : Nat) (li : List ByteArray), wq.cell? (ad.add i) = some (.map (some bi)) ∧ OwnsCol wq bi li.length (colD li 0 (.map [])) ∧ ((i = 0 ∧ li = l0) ∨ (i = 1 ∧ li = m0)) := by
      rcases (show i = 0 ∨ i = 1 by omega) with e | e
      ·subst e; exact ⟨bV, l0, C0.out, OwnsCol.below OV.out HB.out, Or.inl ⟨rfl, rfl⟩⟩
      ·subst e; exact ⟨bW, m0, C1.out, OwnsCol.below OW.out HB.out, Or.inr ⟨rfl, rfl⟩⟩
     have hd1 : decide ((i : Int) < 2) = true := decide_eq_true (by omega)
     have hd3 : decide (i < 2) = true := decide_eq_true hi
     have q1 : ((i : Int) < 2) = True := eq_true (by omega)
     have q2 : (i < 2) = True := eq_true hi
     have HO := Aside0.mk ho
     have HIN := Aside0.mk hin
     clear ho hin hi
     go_wp2_with (first | (at_range; go_must (refine wpList_range_own _ rfl _ 71 rfl 9 3 KL Tryd.underlying71 (plainElem Tryd.prog 3) bi li.length _ rfl HO.out ?_; intro w3 hrg hgr hsz)))
     go_frame
     have hq0 : Below wq.heap.size wq w3 := pw_below_grown (Below.refl _ _) none (Nat.le_refl _) hgr (fun k hk => by cases hk)
     have hmem : ∀ n, has (colD li 0 (.map [])) (keyS n) = true ↔ n ∈ li := fun n => by
      rcases HIN.out with ⟨-, e⟩ | ⟨-, e⟩
      ·rw [e]; exact HHA.out n
      ·rw [e]; exact HHB.out n
     have hor : ∀ n, n ∈ li → n ∈ l0 ∨ n ∈ m0 := fun n hn => by
      rcases HIN.out with ⟨-, e⟩ | ⟨-, e⟩
      ·rw [e] at hn; exact Or.inl hn
      ·rw [e] at hn; exact Or.inr hn
     have HOR := Aside0.mk hor
     have r0_ := Aside0.mk hrg
     have r1_ := Aside0.mk hq0
     have r2_ : Aside0 (∀ n, n ∈ li → has (colD li 0 (.map [])) (keyS n) = true ∨ cellC l0 l1 n d = cellC m0 m1 n d) := ⟨fun n hn => Or.inl ((hmem n).2 hn)⟩
     have r3_ : Aside0 (∀ n, has (colD li 0 (.map [])) (keyS n) = true → n ∈ li) := ⟨fun n => (hmem n).1⟩
     clear hrg hgr hsz hq0 hmem hor hc
     go_loopg [13] (Maps.size (colD li 0 (.map []))) (fun kq v13 wn => ∃ (left : Lit → Bool), Aside0 (wn.ranges Tryd.prog 9 (plainElem (H := Unit) Tryd.prog 3) bi wq.heap.size li.length (colD li 0 (.map [])) left kq) ∧ Aside0 (Below wq.heap.size wq wn) ∧ Aside0 (∀ n, n ∈ li → left (keyS n) = true ∨ cellC l0 l1 n d = cellC m0 m1 n d) ∧ Aside0 (∀ n, left (keyS n) = true → n ∈ li))
     case atStart => exact ⟨_, r0_, r1_, r2_, r3_⟩
     case round =>
      clear r0_ r1_ r2_ r3_
      obtain ⟨left, RG, HQ, HLF, HLM⟩ := hrel
      go_wp2_with (first | (at_next; refine wpList_next_ranges _ rfl _ rfl 9 KL (plainElem (H := Unit) Tryd.prog 3) Value.string (Value.int .i64) (fun key kl h => by obtain ⟨s, e, -, -⟩ := string_of_keyOf Tryd.underlying9 h; exact ⟨s, e⟩) (fun v y h => by obtain ⟨c, e, -, -⟩ := plainElem_int_inv Tryd.underlying3 h; exact ⟨c, e⟩) bi wq.heap.size li.length _ _ _ rfl RG.out ?_ ?_))
      ·intro _ hl0
       go_wp2
       go_roundg g2
       case measure => omega
       case rel =>
        have hall : ∀ n, n ∈ li → cellC l0 l1 n d = cellC m0 m1 n d := fun n hn => (HLF.out n hn).elim (fun h => by rw [hl0] at h; cases h) id
        have hk0 := (HQ.out.cell (World.block_lt_of_cell? wq _ C0.out)).trans C0.out
        have hk1 := (HQ.out.cell (World.block_lt_of_cell? wq _ C1.out)).trans C1.out
        refine ⟨i + 1, by rw [w64c i (by have := HI.out; omega)], ⟨by have := HI.out; omega⟩, ⟨fun h1 => ?_, fun h2 => ?_⟩, ⟨hk0⟩, ⟨hk1⟩, ⟨below_then HB.out HB.out.size HQ.out⟩⟩
        ·rcases HIN.out with ⟨e, e2⟩ | ⟨e, e2⟩
         ·rw [e2] at hall; exact hall
         ·exact HE.out.1 (by omega)
        ·rcases HIN.out with ⟨e, e2⟩ | ⟨e, e2⟩
         ·exact absurd h2 (by omega)
         ·rw [e2] at hall; exact hall
      ·intro x c kl y ps wx cnt1 hkey hlk hv hat hrg1 hlt hgr1 hsz1 hen
       obtain ⟨s', e1, e2, -⟩ := string_of_keyOf Tryd.underlying9 hkey
       cases e1
       subst e2
       have hxm : x ∈ li := HLM.out x hlk
       have hxo := HOR.out x hxm
       have HSX : Aside0 (x.size ≤ 140737488351232) := ⟨hxo.elim (fun h => HSA.out x h) (fun h => HSB.out x h)⟩
       have HXO := Aside0.mk hxo
       have LT := Aside0.mk hlt
       have HQ2 := Aside0.mk (pw_below_grown HQ.out (some wq.heap.size) HQ.out.size hgr1 (fun k hk => by cases hk; exact Nat.le_refl _))
       have RG2 := Aside0.mk hrg1
       have HB2 := Aside0.mk (below_then HB.out HB.out.size HQ2.out)
       have BX2 := Aside0.mk (blk_below BX.out HB2.out)
       have BY2 := Aside0.mk (blk_below BY.out HB2.out)
       clear hkey hlk hv hat hrg1 hlt hgr1 hsz1 hxm hxo
       go_wp2
       clear hen
       have n0_ := Aside0.mk (blk_drew BX2.out)
       have n1_ := Aside0.mk (blk_drew BY2.out)
       have n2_ := Aside0.mk (below_drew1 HB2.out)
       have n3_ := Aside0.mk (below_drew1 HQ2.out)
       have n4_ := Aside0.mk (ranges_drew RG2.out)
       clear BX2 BY2 HB2 HQ2 RG2
       have BX2 := n0_
       have BY2 := n1_
       have HB2 := n2_
       have HQ2 := n3_
       have RG2 := n4_
       clear n0_ n1_ n2_ n3_ n4_
       obtain ⟨bq, hbq⟩ : ∃ bq, (!((cellC l0 l1 x d).f0 == (cellC m0 m1 x d).f0) || !((cellC l0 l1 x d).f1 == (cellC m0 m1 x d).f1)) = bq := ⟨_, rfl⟩
       refine start_ (n := 9) (S := fun w' => w'.cell? ⟨gX, 0, none⟩ = some (.slice A0 l0.length c0) ∧ w'.cell? ⟨gX, 1, none⟩ = some (.slice A1 l1.length c1) ∧ w'.cell? ⟨gX, 2, none⟩ = some (.map (some bV)) ∧ w'.cell? ⟨gY, 0, none⟩ = some (.slice B0 m0.length d0) ∧ w'.cell? ⟨gY, 1, none⟩ = some (.slice B1 m1.length d1) ∧ w'.cell? ⟨gY, 2, none⟩ = some (.map (some bW))) (ds := []) #[false, false, false, false, false, false, false, false, false] (by kernel_rfl) rfl rfl ⟨(blk_cell BX2.out 0).trans rfl, (blk_cell BX2.out 1).trans rfl, (blk_cell BX2.out 2).trans rfl, (blk_cell BY2.out 0).trans rfl, (blk_cell BY2.out 1).trans rfl, (blk_cell BY2.out 2).trans rfl⟩ (fun hHeld => ?_)
       generalize wx.drew = ww_ at BX2 BY2 HB2 HQ2 RG2 hHeld ⊢
       refine pure_ (i := 1) (N := some 52) (v := ?_) (a' := ?_) #[false, true, false, false, false, false, false, false, false] rfl rfl (by kernel_rfl) (fun _ _ _ h => h) (Or.inl ⟨by rfl, ?_⟩) ?_ ?_
       rotate_left
       ·intro w'
        go_simp
        with_reducible rfl
       rotate_left
       ·simp only [Act.put, List.setIfInBounds_toArray, List.set_cons_zero, List.set_cons_succ, i64_w, i32_w]
        rfl
       refine pure_ (i := 2) (N := some 53) (v := ?_) (a' := ?_) #[false, true, true, false, false, false, false, false, false] rfl rfl (by kernel_rfl) (fun _ _ _ h => h) (Or.inl ⟨by rfl, ?_⟩) ?_ ?_
       rotate_left
       ·intro w'
        go_simp
        with_reducible rfl
       rotate_left
       ·simp only [Act.put, List.setIfInBounds_toArray, List.set_cons_zero, List.set_cons_succ, i64_w, i32_w]
        rfl
       refine pure_ (i := 5) (N := some 56) (v := ?_) (a' := ?_) #[false, true, true, false, false, true, false, false, false] rfl rfl (by kernel_rfl) (fun _ _ _ h => h) (Or.inl ⟨by rfl, ?_⟩) ?_ ?_
       rotate_left
       ·intro w'
        go_simp
        with_reducible rfl
       rotate_left
       ·simp only [Act.put, List.setIfInBounds_toArray, List.set_cons_zero, List.set_cons_succ, i64_w, i32_w]
        rfl
       refine pure_ (i := 6) (N := some 57) (v := ?_) (a' := ?_) #[false, true, true, false, false, true, true, false, false] rfl rfl (by kernel_rfl) (fun _ _ _ h => h) (Or.inl ⟨by rfl, ?_⟩) ?_ ?_
       rotate_left
       ·intro w'
        go_simp
        with_reducible rfl
       rotate_left
       ·simp only [Act.put, List.setIfInBounds_toArray, List.set_cons_zero, List.set_cons_succ, i64_w, i32_w]
        rfl
       refine take_ (i := 0) (N := some 51) (v := ?_) (a' := ?_) #[true, true, true, false, false, true, true, false, false] rfl rfl (by kernel_rfl) (fun _ _ _ h => h) (Or.inl ⟨by rfl, ?_⟩) hHeld ?_ ?_
       rotate_left
       ·rintro w' ⟨s0, s1, s2, s3, s4, s5⟩
        go_simp
        with_reducible rfl
       rotate_left
       ·simp only [Act.put, List.setIfInBounds_toArray, List.set_cons_zero, List.set_cons_succ, i64_w, i32_w]
        rfl
       refine take_ (i := 4) (N := some 55) (v := ?_) (a' := ?_) #[true, true, true, false, true, true, true, false, false] rfl rfl (by kernel_rfl) (fun _ _ _ h => h) (Or.inl ⟨by rfl, ?_⟩) hHeld ?_ ?_
       rotate_left
       ·rintro w' ⟨s0, s1, s2, s3, s4, s5⟩
        go_simp
        with_reducible rfl
       rotate_left
       ·simp only [Act.put, List.setIfInBounds_toArray, List.set_cons_zero, List.set_cons_succ, i64_w, i32_w]
        rfl
       refine one_ (i := 3) (N := some 54) #[true, true, true, true, true, true, true, false, false] rfl rfl (by kernel_rfl) (by decide) (fun K hK => ?_)
       refine goes_ Tryd.func42 (by kernel_rfl) rfl #[.agg #[.slice A0 l0.length c0, .slice A1 l1.length c1, .map (some bV)], .string x, .int .i64 (d : Int)] (by rfl) rfl rfl (by (try simp only [List.map_toArray, List.map_cons, List.map_nil]); first | done | rfl) ?_
       refine (cellC_any A0 l0.length c0 A1 c1 l0 l1 bV l0.length x (d : Int) _ (Kd.C_below HVA.out (below_then H0.out H0.out.size HB2.out)) (OwnsCol.below OV.out HB2.out) HSX.out).mono ?_
       rintro e wy_ ⟨rfl, hb⟩
       refine ⟨_, rfl, ?_⟩
       have n0_ := Aside0.mk (blk_below BX2.out hb)
       have n1_ := Aside0.mk (blk_below BY2.out hb)
       have n2_ := Aside0.mk (below_step HB2.out hb)
       have n3_ := Aside0.mk (below_step HQ2.out hb)
       have n4_ := Aside0.mk (ranges_below RG2.out hb)
       clear BX2 BY2 HB2 HQ2 RG2 hb
       have BX2 := n0_
       have BY2 := n1_
       have HB2 := n2_
       have HQ2 := n3_
       have RG2 := n4_
       clear n0_ n1_ n2_ n3_ n4_
       refine hK.out _ _ ⟨(blk_cell BX2.out 0).trans rfl, (blk_cell BX2.out 1).trans rfl, (blk_cell BX2.out 2).trans rfl, (blk_cell BY2.out 0).trans rfl, (blk_cell BY2.out 1).trans rfl, (blk_cell BY2.out 2).trans rfl⟩ (fun hHeld => ?_)
       clear hK K
       refine norm_ (a' := ?_) ?_ ?_
       rotate_left
       ·show Act.put _ (some 54) _ = _
        simp only [Act.put, List.setIfInBounds_toArray, List.set_cons_zero, List.set_cons_succ, i64_w, i32_w]
        rfl
       refine one_ (i := 7) (N := some 58) #[true, true, true, true, true, true, true, true, false] rfl rfl (by kernel_rfl) (by decide) (fun K hK => ?_)
       refine goes_ Tryd.func42 (by kernel_rfl) rfl #[.agg #[.slice B0 m0.length d0, .slice B1 m1.length d1, .map (some bW)], .string x, .int .i64 (d : Int)] (by rfl) rfl rfl (by (try simp only [List.map_toArray, List.map_cons, List.map_nil]); first | done | rfl) ?_
       refine (cellC_any B0 m0.length d0 B1 d1 m0 m1 bW m0.length x (d : Int) _ (Kd.C_below HVB.out (below_then H0.out H0.out.size HB2.out)) (OwnsCol.below OW.out HB2.out) HSX.out).mono ?_
       rintro e wz_ ⟨rfl, hb⟩
       refine ⟨_, rfl, ?_⟩
       have n0_ := Aside0.mk (blk_below BX2.out hb)
       have n1_ := Aside0.mk (blk_below BY2.out hb)
       have n2_ := Aside0.mk (below_step HB2.out hb)
       have n3_ := Aside0.mk (below_step HQ2.out hb)
       have n4_ := Aside0.mk (ranges_below RG2.out hb)
       clear BX2 BY2 HB2 HQ2 RG2 hb
       have BX2 := n0_
       have BY2 := n1_
       have HB2 := n2_
       have HQ2 := n3_
       have RG2 := n4_
       clear n0_ n1_ n2_ n3_ n4_
       refine hK.out _ _ ⟨(blk_cell BX2.out 0).trans rfl, (blk_cell BX2.out 1).trans rfl, (blk_cell BX2.out 2).trans rfl, (blk_cell BY2.out 0).trans rfl, (blk_cell BY2.out 1).trans rfl, (blk_cell BY2.out 2).trans rfl⟩ (fun hHeld => ?_)
       clear hK K
       refine norm_ (a' := ?_) ?_ ?_
       rotate_left
       ·show Act.put _ (some 58) _ = _
        simp only [Act.put, List.setIfInBounds_toArray, List.set_cons_zero, List.set_cons_succ, i64_w, i32_w]
        rfl
       refine pure_ (i := 8) (N := some 59) (v := ?_) (a' := ?_) #[true, true, true, true, true, true, true, true, true] rfl rfl (by kernel_rfl) (fun _ _ _ h => h) (Or.inl ⟨by rfl, ?_⟩) ?_ ?_
       rotate_left
       ·intro w'
        go_simp
        with_reducible rfl
       rotate_left
       ·simp only [Act.put, List.setIfInBounds_toArray, List.set_cons_zero, List.set_cons_succ, i64_w, i32_w]
        rfl
       refine done_ (by kernel_rfl) ?_
       clear hHeld
       cases bq with
       | true =>
        have er : r = false := by
         cases r with
         | false => rfl
         | true =>
          have := HR1.out rfl d (by rw [HMM.out]; have := HD.out; omega) HL.out x HXO.out
          rw [ne52_no this] at hbq
          cases hbq
        subst er
        go_wp2
        go_ret
        exact ⟨rfl, below_then H0.out H0.out.size HB2.out⟩
       | false =>
        have he : cellC l0 l1 x d = cellC m0 m1 x d := by
         refine Classical.byContradiction fun hne => ?_
         rw [ne52_yes hne] at hbq
         cases hbq
        clear hbq
        go_wp2
        go_roundg cnt1
        case measure => exact LT.out
        case rel =>
         refine ⟨_, RG2, HQ2, ⟨fun n hn => ?_⟩, ⟨fun n hn => ?_⟩⟩
         ·by_cases e : n = x
          ·subst e; exact Or.inr he
          ·rcases HLF.out n hn with h | h
           ·refine Or.inl ?_
            show (left (keyS n) && !(keyS n).sameKey (keyS x)) = true
            rw [h, keyS_other e]; rfl
           ·exact Or.inr h
         ·have hn : (left (keyS n) && !(keyS n).sameKey (keyS x)) = true := hn
          rw [Bool.and_eq_true] at hn
          exact HLM.out n hn.1
end Go.Proofs.YtppojbafagneeaaDoor.PTab
