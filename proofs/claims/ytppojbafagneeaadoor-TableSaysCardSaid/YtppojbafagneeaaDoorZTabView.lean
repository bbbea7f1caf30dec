/- Own text, for this claim: viewed (a table and its columns) and the view's cell. -/
import Derived.Test.YtppojbafagneeaaDoorZTabCol
import Derived.Test.YtppojbafagneeaaDoorZTabKd
import Derived.WalkMore
import Derived.Deep.DeepMust
import Derived.Outline
import Derived.Deep.RegionWith
namespace Go.Proofs.YtppojbafagneeaaDoor.PTab
open Go.RowKit Go.Maps Go.WideMaps Go.WideElems Go.Proofs.YtppojbafagneeaaDoorW.PrintWords Go.Proofs.YtppojbafagneeaaDoorW.PrintLast Go.Proofs.YtppojbafagneeaaDoorW.PrintMore
set_option linter.unusedVariables false
set_option linter.unusedSimpArgs false
attribute [local go_sem high] eqA52
set_option maxHeartbeats 8000000 in
set_option maxRecDepth 100000 in
theorem viewed_any (A0 : Option Addr) (c0 : Nat) (l0 : List ByteArray) (A1 : Option Addr) (n1 c1 : Nat) (w : World) (h0 : Kd.C Kd.string w A0 l0.length l0) (hc0 : l0.length ≤ c0) (hs : ∀ n ∈ l0, n.size ≤ 140737488351232) (hl : l0.length ≤ 140737488351232) :
  Calls Tryd.prog 41 #[.agg #[.slice A0 l0.length c0, .slice A1 n1 c1]] w fun e w' => ∃ b, e = .returned (.agg #[.slice A0 l0.length c0, .slice A1 n1 c1, .map (some b)]) ∧ w.heap.size ≤ b ∧ OwnsCol w' b l0.length (colD l0 0 (.map [])) ∧ Below w.heap.size w w' := by
 have hu25 := Tryd.underlying25
 have hu73 := Tryd.underlying73
 have HR0 := yA h0
 have HC0 := yA hc0
 have HS := yA hs
 have HL := yA hl
 clear h0 hc0 hs hl
 have HB := yA (Below.refl w.heap.size w)
 go_enter Tryd.func41, Tryd.ntmps41
 try go_wp2_with (first | ((with_reducible refine yP (N := 1) rfl ?_); refine yQ ?hg (N := 1) ?hd (cs := #[.slice A0 l0.length c0, .slice A1 n1 c1]) (t := 25) ?hr ?_; (case hd => rfl); (case hg => rfl); (case hr => first | (go_simp; done) | (go_simp; rfl)); intro gb1 hg w4 hbox hb; have n0_ := yA (yB HB.out hb); have n1_ := yA hbox; have n2_ := yA ((by rw [hg]; exact (below_size HB.out)) : w.heap.size ≤ gb1); clear HB; have HB := n0_; have BK1 := n1_; have GE1 := n2_; clear n0_ n1_ n2_; clear hb hbox hg) | ((with_reducible refine yP (N := 2) rfl ?_); refine yQ ?hg (N := 2) ?hd (cs := #[.slice none 0 0, .slice none 0 0, .map none]) (t := 73) ?hr ?_; (case hd => rfl); (case hg => rfl); (case hr => first | (go_simp; done) | (go_simp; rfl)); intro gb2 hg w5 hbox hb; have n0_ := yA (yB HB.out hb); have n1_ := yA hbox; have n2_ := yA ((by rw [hg]; exact (below_size HB.out)) : w.heap.size ≤ gb2); have n3_ := yA (yC BK1.out hb); have n4_ := yA ((by rw [hg]; exact Nat.ne_of_lt (blk_lt BK1.out)) : gb1 ≠ gb2); clear HB BK1; have HB := n0_; have BK2 := n1_; have GE2 := n2_; have BK1 := n3_; have NE := n4_; clear n0_ n1_ n2_ n3_ n4_; clear hb hbox hg))
 have n3_ := yA (yH BK1.out)
 have n4_ := yA (yH BK2.out)
 have n5_ := yA (yD HB.out)
 clear BK1 BK2 HB
 have BK1 := n3_
 have BK2 := n4_
 have HB := n5_
 clear n3_ n4_ n5_
 refine start_ (n := 6) (S := fun w' => w'.cell? ⟨gb1, 0, none⟩ = some (.slice A0 l0.length c0) ∧ w'.cell? ⟨gb1, 1, none⟩ = some (.slice A1 n1 c1)) (ds := []) #[false, false, false, false, false, false] (by kernel_rfl) rfl rfl ⟨(yR BK1.out 0).trans rfl, (yR BK1.out 1).trans rfl⟩ (fun hHeld => ?_)
 generalize w5.drew = w6 at BK1 BK2 HB hHeld ⊢
 refine pure_ (i := 1) (N := some 4) (v := ?_) (a' := ?_) #[false, true, false, false, false, false] rfl rfl (by kernel_rfl) (fun _ _ _ h => h) (Or.inl ⟨by rfl, ?_⟩) ?_ ?_
 rotate_left
 ·intro w'
  go_simp
  with_reducible rfl
 rotate_left
 ·simp only [Act.put, lA, lB, lC, i64_w, i32_w]
  rfl
 refine take_ (i := 0) (N := some 3) (v := ?_) (a' := ?_) #[true, true, false, false, false, false] rfl rfl (by kernel_rfl) (fun _ _ _ h => h) (Or.inl ⟨by rfl, ?_⟩) hHeld ?_ ?_
 rotate_left
 ·rintro w' ⟨s0, s1⟩
  go_simp
  with_reducible rfl
 rotate_left
 ·simp only [Act.put, lA, lB, lC, i64_w, i32_w]
  rfl
 refine take_ (i := 2) (N := some 5) (v := ?_) (a' := ?_) #[true, true, true, false, false, false] rfl rfl (by kernel_rfl) (fun _ _ _ h => h) (Or.inl ⟨by rfl, ?_⟩) hHeld ?_ ?_
 rotate_left
 ·rintro w' ⟨s0, s1⟩
  go_simp
  with_reducible rfl
 rotate_left
 ·simp only [Act.put, lA, lB, lC, i64_w, i32_w]
  rfl
 refine one_ (i := 3) (N := some 6) #[true, true, true, true, false, false] rfl rfl (by kernel_rfl) (by decide) (fun K hK => ?_)
 refine goes_ Tryd.func46 (by kernel_rfl) rfl #[.slice A0 l0.length c0] (by rfl) rfl rfl (by (try simp only [List.map_toArray, List.map_cons, List.map_nil]); first | done | rfl | (simp only [List.length_drop, List.length_take]; rfl)) ?_
 refine (columns_any A0 c0 l0 w6 (Kd.C_below HR0.out HB.out) HC0.out HS.out HL.out).mono ?_
 rintro e w7 ⟨b, rfl, hbge, hown, hb⟩
 refine ⟨_, rfl, ?_⟩
 have OW := yA hown
 have GEb := yA (Nat.le_trans HB.out.size hbge)
 have NEb := yA (show b ≠ gb2 from Nat.ne_of_gt (Nat.lt_of_lt_of_le (blk_lt BK2.out) hbge))
 have n3_ := yA (yC BK1.out hb)
 have n4_ := yA (yC BK2.out hb)
 have n5_ := yA (yB HB.out hb)
 clear BK1 BK2 HB hown hbge hb
 have BK1 := n3_
 have BK2 := n4_
 have HB := n5_
 clear n3_ n4_ n5_
 refine hK.out _ _ ⟨(yR BK1.out 0).trans rfl, (yR BK1.out 1).trans rfl⟩ (fun hHeld => ?_)
 clear hK K
 refine norm_ (a' := ?_) ?_ ?_
 rotate_left
 ·show Act.put _ (some 6) _ = _
  simp only [Act.put, lA, lB, lC, i64_w, i32_w]
  rfl
 refine pure_ (i := 4) (N := some 7) (v := ?_) (a' := ?_) #[true, true, true, true, true, false] rfl rfl (by kernel_rfl) (fun _ _ _ h => h) (Or.inl ⟨by rfl, ?_⟩) ?_ ?_
 rotate_left
 ·intro w'
  go_simp
  with_reducible rfl
 rotate_left
 ·simp only [Act.put, lA, lB, lC, i64_w, i32_w]
  rfl
 refine one_ (i := 5) (N := none) #[true, true, true, true, true, true] rfl rfl (by kernel_rfl) (by decide) (fun K hK => ?_)
 have hs8 : w7.cell? ⟨gb2, 0, none⟩ = some (.slice none 0 0) := (yR BK2.out 0).trans rfl
 have hfs8 := yS BK2.out 0
 have hs9 : w7.cell? ⟨gb2, 1, none⟩ = some (.slice none 0 0) := (yR BK2.out 1).trans rfl
 have hfs9 := yS BK2.out 1
 have hs10 : w7.cell? ⟨gb2, 2, none⟩ = some (.map none) := (yR BK2.out 2).trans rfl
 have hfs10 := yS BK2.out 2
 refine skip_ (w1 := ?_) (by rfl) rfl ?_ ?_
 rotate_left
 ·go_simp
  rfl
 refine hK.out _ _ ⟨((cell_far (p := ⟨gb2, _, none⟩) NE.out _).trans (((cell_far (p := ⟨gb2, _, none⟩) NE.out _).trans (((cell_far (p := ⟨gb2, _, none⟩) NE.out _).trans (hHeld.1)))))), ((cell_far (p := ⟨gb2, _, none⟩) NE.out _).trans (((cell_far (p := ⟨gb2, _, none⟩) NE.out _).trans (((cell_far (p := ⟨gb2, _, none⟩) NE.out _).trans (hHeld.2))))))⟩ (fun hHeld => ?_)
 clear hK K
 refine done_ (by kernel_rfl) ?_
 try go_wp2
 refine bodyPost_ret (results_cell_row rfl _ _ gb2 73 #[.slice A0 l0.length c0, .slice A1 n1 c1, .map (some b)] (0, 0) _ rfl (by refine blk_put (cs := #[.slice A0 l0.length c0, .slice A1 n1 c1, .map none]) ?_ 2 _ rfl; refine blk_put (cs := #[.slice A0 l0.length c0, .slice none 0 0, .map none]) ?_ 1 _ rfl; refine blk_put (cs := #[.slice none 0 0, .slice none 0 0, .map none]) ?_ 0 _ rfl; exact BK2.out) Tryd.underlying73 rfl (by kernel_rfl)) rfl ?_
 exact ⟨b, rfl, GEb.out, (((OW.out.setCell (a := ⟨gb2, 0, none⟩) NEb.out _).setCell (a := ⟨gb2, 1, none⟩) NEb.out _).setCell (a := ⟨gb2, 2, none⟩) NEb.out _), by repeat (first | (with_reducible first | exact HB.out | refine yJ ?_ GE2.out) | exact HB.out)⟩
end Go.Proofs.YtppojbafagneeaaDoor.PTab
