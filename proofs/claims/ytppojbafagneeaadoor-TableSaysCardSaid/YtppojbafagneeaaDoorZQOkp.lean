/- Own text, for this claim: table.Parse, after the text that the kit's printer writes. -/
import Derived.Test.YtppojbafagneeaaDoorZQOkw
import Derived.Test.YtppojbafagneeaaDoorZQOkn
import Derived.Test.YtppojbafagneeaaDoorZQOkc
import Derived.Test.YtppojbafagneeaaDoorZParHead
import Derived.WalkMore
import Derived.Deep.DeepMust
import Derived.Outline
import Derived.Deep.RegionWith
namespace Go.Proofs.YtppojbafagneeaaDoor.PTab
open Go.RowKit Go.Proofs.YtppojbafagneeaaDoorW.PrintWords Go.Proofs.YtppojbafagneeaaDoorW.PrintLast Go.Proofs.YtppojbafagneeaaDoorW.PrintMore
attribute [local go_sem] max2_int min2_int max_two min_two max_three min_three max_four min_four
set_option linter.unusedVariables false
set_option linter.unusedSimpArgs false
attribute [local go_sem high] eqA52
mutual
def ok_Parse.l0 : Nat → ByteArray → Bool → Int → Int → List ByteArray → List (List (S52)) → Option (List ByteArray × (List (List (S52))) × Int × Int)
 | 0, _, _, _, _, _, _ => none
 | k + 1, x0, x6, x7, x8, x186000, x186001 => (if x8 ≤ (x0.size : Int) then ((ok_words.f k x0 x8).bind fun bt186 => (if (bt186.1.length : Int) = 0 then (ok_Parse.l0 k x0 x6 x7 (wrap64 (bt186.2 + 1)) x186000 x186001) else (if x6 = true then (if 0 < (bt186.1.length : Int) then ((ok_number.f k ((rd_T115 bt186.1 0).f0)).bind fun bt196 => (if bt196.2 = true then (if bt196.1 < 4096 then (ok_Parse.j1 k x0 x6 (wrap64 (bt186.2 + 1)) bt186.1 bt186.2 bt196.1 (decide (bt196.1 ≤ x7)) x186000 x186001) else (none)) else (none))) else (none)) else ((table_head.f bt186.1).bind fun bt190 => (if bt190.2.2 = 0 then (ok_Parse.l0 k x0 true x7 (wrap64 (bt186.2 + 1)) bt190.1 x186001) else (none)))))) else (if x6 = true then (some (x186000, x186001, 0, 0)) else (none)))
def ok_Parse.j1 : Nat → ByteArray → Bool → Int → List (S115) → Int → Int → Bool → List ByteArray → List (List (S52)) → Option (List ByteArray × (List (List (S52))) × Int × Int)
 | 0, _, _, _, _, _, _, _, _, _ => none
 | k + 1, x0, x6, x8, x9, x10, x14, x63, x186000, x186001 => (if x63 = true then (none) else (if x14 = 4096 then (none) else (if 1 ≤ (x9.length : Int) then ((ok_cells.f k (x9.drop 1) (x186000.length : Int) x10).bind fun bt204 => (if bt204.2.2 = 0 then (ok_Parse.l1 k x0 x6 x14 x8 x14 bt204.1 x186000 x186001) else (none))) else (none))))
def ok_Parse.l1 : Nat → ByteArray → Bool → Int → Int → Int → List (S52) → List ByteArray → List (List (S52)) → Option (List ByteArray × (List (List (S52))) × Int × Int)
 | 0, _, _, _, _, _, _, _, _ => none
 | k + 1, x0, x6, x7, x8, x14, x16, x186000, x186001 => (if (x186001.length : Int) < x14 then (none) else (if x186001.length < 5864062014805 then (ok_Parse.l0 k x0 x6 x7 x8 x186000 (x186001 ++ [x16])) else (none)))
end
def ok_Parse.f (k : Nat) (a0 : ByteArray) : Option (List ByteArray × (List (List (S52))) × Int × Int) := (if (a0.size : Int) > 1048576 then (none) else (ok_Parse.l0 k a0 false (-1) 0 ([] : List ByteArray) ([] : List (List (S52)))))
def ok_Parse.T22 : Bool × List (List Nat × List Nat) := (true, [([], []), ([0], [0]), ([], []), ([2], [2]), ([3], [3]), ([], []), ([1, 4, 5], [1, 4, 5]), ([6], [6]), ([7], [7]), ([7], [7]), ([7], [7]), ([8, 6, 0, 1, 2, 3, 4, 5, 6, 7, 8], [8]), ([9, 11, 0, 1, 2, 3, 4, 5, 6, 7, 8, 9, 11], [9]), ([10, 12, 0, 1, 2, 3, 4, 5, 6, 7, 8, 9, 10, 11, 12], [10])])
def ok_Parse.B22 : List Nat := [0, 1, 0, 4, 12, 0, 63, 127, 255, 255, 255, 511, 3071, 8191]
theorem ok_Parse.tab22 : rtab .any (opsOf Tryd.f26 22) = ok_Parse.T22 := by kernel_rfl
theorem ok_Parse.bits22 : waitsOk ok_Parse.T22.2 ok_Parse.B22 = true := by kernel_rfl
set_option maxHeartbeats 8000000 in
set_option maxRecDepth 100000 in
theorem ok_Parse.calls (k : Nat) (a0 : ByteArray) (r1 : List ByteArray) (r2 : List (List (S52))) (r3 : Int) (r4 : Int) (w : World) (h : ok_Parse.f k a0 = some (r1, r2, r3, r4)) (hG : Pure.GR w) :
  Calls Tryd.prog 26 #[.string a0] w fun e w' => ∃ v0_ v1_ : Value, e = .returned (.tuple #[.agg #[v0_, v1_], .int .i64 r3, .int .i64 r4]) ∧ Kd.R Kd.string 9 w' w.heap.size (fun _ => True) v0_ r1 ∧ Kd.S (Kd.slice 52 k52) 54 w' w.heap.size (fun _ => True) v1_ r2 ∧ Below w.heap.size w w' := by
 have HG := yA hG
 clear hG
 have hu25 := Tryd.underlying25
 have HB := yA (Below.refl w.heap.size w)
 have H : (if (a0.size : Int) > 1048576 then (none) else (ok_Parse.l0 k a0 false (-1) 0 ([] : List ByteArray) ([] : List (List (S52))))) = some (r1, r2, r3, r4) := h
 clear h
 by_cases c2 : (a0.size : Int) > 1048576
 ·rw [if_pos c2] at H
  exact absurd H (by simp)
 ·rw [if_neg c2] at H
  have c2b0 : decide (1048576 < (a0.size : Int)) = false := yM c2
  have c2b1 : decide (1048576 < a0.size) = false := yM (by omega)
  clear c2
  have H' := yA H
  clear H
  go_enter Tryd.func26, Tryd.ntmps26
  go_wp2_with (first | ((with_reducible refine yP (N := 2) rfl ?_); refine yQ ?hg (N := 2) ?hd (cs := #[.slice none 0 0, .slice none 0 0]) (t := 25) ?hr ?_; (case hd => rfl); (case hg => rfl); (case hr => first | (go_simp; done) | (go_simp; rfl)); intro gb184 hg w5 hbox hb; have n0_ := yA (yB (by repeat (first | exact HB.out | apply yE | apply yD)) hb); have n1_ := yA (hbox); have n2_ := yA ((by rw [hg]; exact (below_size (by repeat (first | exact HB.out | apply yE | apply yD))) : w.heap.size ≤ gb184)); have n3_ := yA ((by rw [hg]; exact (below_size (by repeat (first | exact HB.out | apply yE | apply yD))) : w.heap.size ≤ gb184)); clear HB; have HB := n0_; have BK184 := n1_; have GW184 := n2_; have GE184 := n3_; clear n0_ n1_ n2_ n3_; clear hb hbox hg) | ((with_reducible refine yP (N := 5) rfl ?_); refine yQ ?hg (N := 5) ?hd (cs := #[.slice none 0 0, .slice none 0 0]) (t := 25) ?hr ?_; (case hd => rfl); (case hg => rfl); (case hr => first | (go_simp; done) | (go_simp; rfl)); intro gb185 hg w6 hbox hb; have n0_ := yA (yC (by first | exact BK184.out | exact yI BK184.out _) hb); have n1_ := yA (yB (by repeat (first | exact HB.out | apply yE | apply yD | refine yJ ?_ GE184.out)) hb); have n2_ := yA (hbox); have n3_ := yA ((by rw [hg]; exact (below_size (by repeat (first | exact HB.out | apply yE | apply yD | refine yJ ?_ GE184.out))) : w.heap.size ≤ gb185)); have n4_ := yA ((by rw [hg]; exact (below_size (by repeat (first | exact HB.out | apply yE | apply yD | refine yJ ?_ GE184.out))) : w.heap.size ≤ gb185)); have n5_ := yA ((by rw [hg]; exact Nat.ne_of_lt (blk_lt (by first | exact BK184.out | exact yI BK184.out _)) : gb184 ≠ gb185)); have n6_ := yA ((by rw [hg]; exact Nat.ne_of_gt (blk_lt (by first | exact BK184.out | exact yI BK184.out _)) : gb185 ≠ gb184)); clear BK184; clear HB; have BK184 := n0_; have HB := n1_; have BK185 := n2_; have GW185 := n3_; have GE185 := n4_; have NB184_185 := n5_; have NB185_184 := n6_; clear n0_ n1_ n2_ n3_ n4_ n5_ n6_; clear hb hbox hg))
  go_step3
  go_wp2_with (first | ((with_reducible refine yP (N := 2) rfl ?_); refine yQ ?hg (N := 2) ?hd (cs := #[.slice none 0 0, .slice none 0 0]) (t := 25) ?hr ?_; (case hd => rfl); (case hg => rfl); (case hr => first | (go_simp; done) | (go_simp; rfl)); intro gb184 hg w5 hbox hb; have n0_ := yA (yB (by repeat (first | exact HB.out | apply yE | apply yD)) hb); have n1_ := yA (hbox); have n2_ := yA ((by rw [hg]; exact (below_size (by repeat (first | exact HB.out | apply yE | apply yD))) : w.heap.size ≤ gb184)); have n3_ := yA ((by rw [hg]; exact (below_size (by repeat (first | exact HB.out | apply yE | apply yD))) : w.heap.size ≤ gb184)); clear HB; have HB := n0_; have BK184 := n1_; have GW184 := n2_; have GE184 := n3_; clear n0_ n1_ n2_ n3_; clear hb hbox hg) | ((with_reducible refine yP (N := 5) rfl ?_); refine yQ ?hg (N := 5) ?hd (cs := #[.slice none 0 0, .slice none 0 0]) (t := 25) ?hr ?_; (case hd => rfl); (case hg => rfl); (case hr => first | (go_simp; done) | (go_simp; rfl)); intro gb185 hg w6 hbox hb; have n0_ := yA (yC (by first | exact BK184.out | exact yI BK184.out _) hb); have n1_ := yA (yB (by repeat (first | exact HB.out | apply yE | apply yD | refine yJ ?_ GE184.out)) hb); have n2_ := yA (hbox); have n3_ := yA ((by rw [hg]; exact (below_size (by repeat (first | exact HB.out | apply yE | apply yD | refine yJ ?_ GE184.out))) : w.heap.size ≤ gb185)); have n4_ := yA ((by rw [hg]; exact (below_size (by repeat (first | exact HB.out | apply yE | apply yD | refine yJ ?_ GE184.out))) : w.heap.size ≤ gb185)); have n5_ := yA ((by rw [hg]; exact Nat.ne_of_lt (blk_lt (by first | exact BK184.out | exact yI BK184.out _)) : gb184 ≠ gb185)); have n6_ := yA ((by rw [hg]; exact Nat.ne_of_gt (blk_lt (by first | exact BK184.out | exact yI BK184.out _)) : gb185 ≠ gb184)); clear BK184; clear HB; have BK184 := n0_; have HB := n1_; have BK185 := n2_; have GW185 := n3_; have GE185 := n4_; have NB184_185 := n5_; have NB185_184 := n6_; clear n0_ n1_ n2_ n3_ n4_ n5_ n6_; clear hb hbox hg))
  go_step3
  go_wp2
  go_loopg [6, 7, 8] k (fun kq v6 v7 v8 w' => ∃ (x6_1 : Bool) (x7_1 : Int) (x8_1 : Int) (x186000_1 : List ByteArray) (x186001_1 : List (List (S52))) (u186000 : Value) (u186001 : Value), v6 = .bool x6_1 ∧ v7 = .int .i64 x7_1 ∧ v8 = .int .i64 x8_1 ∧ Aside0 (ok_Parse.l0 kq a0 x6_1 x7_1 x8_1 x186000_1 x186001_1 = some (r1, r2, r3, r4)) ∧ Aside0 (kq ≤ k) ∧ Aside0 (Kd.R Kd.string 9 w' w.heap.size (fun _ => True) u186000 x186000_1) ∧ Aside0 (Kd.S (Kd.slice 52 k52) 54 w' w.heap.size (fun _ => True) u186001 x186001_1) ∧ Aside0 (w'.heap[gb184]? = some (.cells #[(.slice none 0 0), (.slice none 0 0)] 25 (0, 0))) ∧ Aside0 (w'.heap[gb185]? = some (.cells #[u186000, u186001] 25 (0, 0))) ∧ Aside0 (Below w.heap.size w w'))
  case atStart => exact ⟨(false), ((-1)), (0), (([] : List ByteArray)), (([] : List (List (S52)))), (.slice none 0 0), (.slice none 0 0), (by first | rfl | (simp; done) | (simp [*]; done)), (by first | rfl | (simp; done) | (simp [*]; done)), (by first | rfl | (simp; done) | (simp [*]; done)), H', ⟨Nat.le_refl _⟩, ⟨by first | exact Kd.R_nil _ _ _ _ _ | exact Kd.N_nil _ _ _ _ _ | exact Kd.V_nil _ _ _ _ _ | exact Kd.Q_nil _ _ _ _ _ | exact Kd.S_nil _ _ _ _ _⟩, ⟨by first | exact Kd.S_nil _ _ _ _ _ | exact Kd.N_nil _ _ _ _ _ | exact Kd.V_nil _ _ _ _ _ | exact Kd.Q_nil _ _ _ _ _ | exact Kd.R_nil _ _ _ _ _⟩, ⟨by (with_reducible repeat (first | refine yG ?_ _ | refine yH ?_ | refine yI ?_ _)); exact BK184.out⟩, ⟨by (with_reducible repeat (first | refine yG ?_ _ | refine yH ?_ | refine yI ?_ _)); exact BK185.out⟩, ⟨by repeat (first | exact HB.out | apply yE | apply yD | refine yJ ?_ GE184.out | refine yJ ?_ GE185.out)⟩⟩
  case round =>
   clear H'
   try clear c2; try clear c2b0; try clear c2b1; try clear p2; try clear hcz4_0; try clear hcz4_1; try clear hfz4_0; try clear hfz4_1
   obtain ⟨x6_1, x7_1, x8_1, x186000_1, x186001_1, u186000, u186001, rfl, rfl, rfl, HA, HK1, HO_186000, HO_186001, BK184, BK185, HB⟩ := hrel
   cases gk with
   | zero => exact absurd HA.out (by simp [ok_Parse.l0])
   | succ k1 =>
    have H := HA.out
    clear HA
    simp only [ok_Parse.l0] at H
    by_cases c7 : x8_1 ≤ (a0.size : Int)
    ·rw [if_pos c7] at H
     have c7b0 : decide (x8_1 ≤ (a0.size : Int)) = true := yL c7
     clear c7
     replace H := Option.bind_eq_some_iff.mp H
     obtain ⟨⟨t186, t187⟩, A80, H⟩ := H
     replace H : (if (t186.length : Int) = 0 then (ok_Parse.l0 k1 a0 x6_1 x7_1 (wrap64 (t187 + 1)) x186000_1 x186001_1) else (if x6_1 = true then (if 0 < (t186.length : Int) then ((ok_number.f k1 ((rd_T115 t186 0).f0)).bind fun bt196 => (if bt196.2 = true then (if bt196.1 < 4096 then (ok_Parse.j1 k1 a0 x6_1 (wrap64 (t187 + 1)) t186 t187 bt196.1 (decide (bt196.1 ≤ x7_1)) x186000_1 x186001_1) else (none)) else (none))) else (none)) else ((table_head.f t186).bind fun bt190 => (if bt190.2.2 = 0 then (ok_Parse.l0 k1 a0 true x7_1 (wrap64 (t187 + 1)) bt190.1 x186001_1) else (none))))) = some (r1, r2, r3, r4) := H
     have A8 := yA A80
     clear A80
     by_cases c9 : (t186.length : Int) = 0
     ·rw [if_pos c9] at H
      have c9b0 : ((t186.length : Int) == 0) = true := beq_iff_eq.mpr c9
      have c9b1 : ((t186.length : Int) != 0) = false := bne_eq_false_iff_eq.mpr c9
      clear c9
      have H' := yA H
      clear H
      go_wp2_with (first | ((with_reducible refine yO (f := 62) rfl ?_); refine goesL_ (some 30) rfl rfl Tryd.func62 (by kernel_rfl) rfl #[.string a0, .int .i64 x8_1] rfl (by (try simp only [List.map_toArray, List.map_cons, List.map_nil]); first | done | rfl | (simp only [List.length_drop, List.length_take]; rfl)) ?_; (with_reducible refine (ok_words.calls k1 a0 x8_1 t186 t187 _ A8.out).mono ?_); rintro e w10 ⟨v188, rfl, ho0, hb⟩; refine ⟨_, rfl, ?_⟩; have n0_ := yA (Kd.R_below (by first | exact HO_186000.out | exact Kd.R_drew HO_186000.out | exact Kd.R_alloc HO_186000.out _) hb); have n1_ := yA (Kd.S_below (by first | exact HO_186001.out | exact Kd.S_drew HO_186001.out | exact Kd.S_alloc HO_186001.out _) hb); have n2_ := yA (Kd.R_lower ho0 (below_size (by repeat (first | exact HB.out | apply yE | apply yD | refine yJ ?_ GE184.out | refine yJ ?_ GE185.out)))); have n3_ := yA (yC (by first | exact BK184.out | exact yI BK184.out _) hb); have n4_ := yA (yC (by first | exact BK185.out | exact yI BK185.out _) hb); have n5_ := yA (yB (by repeat (first | exact HB.out | apply yE | apply yD | refine yJ ?_ GE184.out | refine yJ ?_ GE185.out)) hb); clear HO_186000; clear HO_186001; clear BK184; clear BK185; clear HB; have HO_186000 := n0_; have HO_186001 := n1_; have HO189 := n2_; have BK184 := n3_; have BK185 := n4_; have HB := n5_; clear n0_ n1_ n2_ n3_ n4_ n5_; (try clear hb); (try clear hb2); (try clear hk); (try clear hi); (try clear ho0); obtain ⟨Ao11, co11, eo11⟩ := Kd.R_slice HO189.out; subst eo11))
      go_roundg k1
      case measure => have := HK1.out; omega
      case rel => exact ⟨(x6_1), (x7_1), (wrap64 (t187 + 1)), (x186000_1), (x186001_1), (u186000), (u186001), (by first | rfl | (simp; done) | (simp [*]; done)), (by first | rfl | (simp; done) | (simp [*]; done)), (by first | rfl | (simp; done) | (simp [*]; done)), H', ⟨by have := HK1.out; omega⟩, ⟨by (with_reducible repeat (first | apply Kd.R_alloc | apply Kd.R_drewN | apply Kd.R_drew)); exact HO_186000.out⟩, ⟨by (with_reducible repeat (first | apply Kd.S_alloc | apply Kd.S_drewN | apply Kd.S_drew)); exact HO_186001.out⟩, ⟨by (with_reducible repeat (first | refine yG ?_ _ | refine yH ?_ | refine yI ?_ _)); exact BK184.out⟩, ⟨by (with_reducible repeat (first | refine yG ?_ _ | refine yH ?_ | refine yI ?_ _)); exact BK185.out⟩, ⟨by repeat (first | exact HB.out | apply yE | apply yD | refine yJ ?_ GE184.out | refine yJ ?_ GE185.out)⟩⟩
     ·rw [if_neg c9] at H
      have c9b0 : ((t186.length : Int) == 0) = false := beq_eq_false_iff_ne.mpr c9
      have c9b1 : ((t186.length : Int) != 0) = true := bne_iff_ne.mpr c9
      have c9b2 : ¬ (t186 = []) := fun h_ => c9 (by rw [h_]; rfl)
      by_cases c12 : x6_1 = true
      ·subst c12
       have H1 : (if 0 < (t186.length : Int) then ((ok_number.f k1 ((rd_T115 t186 0).f0)).bind fun bt196 => (if bt196.2 = true then (if bt196.1 < 4096 then (ok_Parse.j1 k1 a0 true (wrap64 (t187 + 1)) t186 t187 bt196.1 (decide (bt196.1 ≤ x7_1)) x186000_1 x186001_1) else (none)) else (none))) else (none)) = some (r1, r2, r3, r4) := by rw [if_pos rfl] at H; exact H
       clear H
       have H := H1
       clear H1
       by_cases c13 : 0 < (t186.length : Int)
       ·rw [if_pos c13] at H
        have c13b0 : decide (0 < (t186.length : Int)) = true := yL c13
        have c13b1 : decide (0 < t186.length) = true := yL (by omega)
        clear c13
        replace H := Option.bind_eq_some_iff.mp H
        obtain ⟨⟨t196, t197⟩, A140, H⟩ := H
        replace H : (if t197 = true then (if t196 < 4096 then (ok_Parse.j1 k1 a0 true (wrap64 (t187 + 1)) t186 t187 t196 (decide (t196 ≤ x7_1)) x186000_1 x186001_1) else (none)) else (none)) = some (r1, r2, r3, r4) := H
        have A14 := yA A140
        clear A140
        have HC15 := yA H
        clear H
        go_upto_region 17 with (first | ((with_reducible refine yO (f := 62) rfl ?_); refine goesL_ (some 30) rfl rfl Tryd.func62 (by kernel_rfl) rfl #[.string a0, .int .i64 x8_1] rfl (by (try simp only [List.map_toArray, List.map_cons, List.map_nil]); first | done | rfl | (simp only [List.length_drop, List.length_take]; rfl)) ?_; (with_reducible refine (ok_words.calls k1 a0 x8_1 t186 t187 _ A8.out).mono ?_); rintro e w16 ⟨v188, rfl, ho0, hb⟩; refine ⟨_, rfl, ?_⟩; have n0_ := yA (Kd.R_below (by first | exact HO_186000.out | exact Kd.R_drew HO_186000.out | exact Kd.R_alloc HO_186000.out _) hb); have n1_ := yA (Kd.S_below (by first | exact HO_186001.out | exact Kd.S_drew HO_186001.out | exact Kd.S_alloc HO_186001.out _) hb); have n2_ := yA (Kd.R_lower ho0 (below_size (by repeat (first | exact HB.out | apply yE | apply yD | refine yJ ?_ GE184.out | refine yJ ?_ GE185.out)))); have n3_ := yA (yC (by first | exact BK184.out | exact yI BK184.out _) hb); have n4_ := yA (yC (by first | exact BK185.out | exact yI BK185.out _) hb); have n5_ := yA (yB (by repeat (first | exact HB.out | apply yE | apply yD | refine yJ ?_ GE184.out | refine yJ ?_ GE185.out)) hb); clear HO_186000; clear HO_186001; clear BK184; clear BK185; clear HB; have HO_186000 := n0_; have HO_186001 := n1_; have HO189 := n2_; have BK184 := n3_; have BK185 := n4_; have HB := n5_; clear n0_ n1_ n2_ n3_ n4_ n5_; (try clear hb); (try clear hb2); (try clear hk); (try clear hi); (try clear ho0); obtain ⟨Ao17, co17, eo17⟩ := Kd.R_slice HO189.out; subst eo17; have p195 : 0 ≤ (0 : Int) := (by omega); have q195 : 0 < (t186.length : Int) := yN (by first | (with_reducible assumption) | assumption); obtain ⟨ad195, e195, hx195_0, hx195_1⟩ := at_T115 (Kd.R_reads' HO189.out).2.2 0 p195 q195; cases e195; have qi195 : (0 < t186.length) = True := eq_true (by omega); (try rw [show ((0 : Int)).toNat = 0 from rfl] at hx195_0); (try rw [show 0 * 2 = 0 from rfl] at hx195_0); (try rw [Addr.add_zero'] at hx195_0); (try rw [show ((0 : Int)).toNat = 0 from rfl] at hx195_1); (try rw [show 0 * 2 = 0 from rfl] at hx195_1); (try rw [Addr.add_zero'] at hx195_1); replace p195 := eq_true p195; replace q195 := eq_true q195) | ((with_reducible refine yO (f := 64) rfl ?_); refine goesL_ (some 60) rfl rfl Tryd.func64 (by kernel_rfl) rfl #[.string ((rd_T115 t186 0).f0)] rfl (by (try simp only [List.map_toArray, List.map_cons, List.map_nil]); first | done | rfl | (simp only [List.length_drop, List.length_take]; rfl)) ?_; (with_reducible refine (ok_number.calls k1 ((rd_T115 t186 0).f0) t196 t197 _ A14.out).mono ?_); rintro e w18 ⟨rfl, hb⟩; refine ⟨_, rfl, ?_⟩; have n0_ := yA (Kd.R_below (by first | exact HO_186000.out | exact Kd.R_drew HO_186000.out | exact Kd.R_alloc HO_186000.out _) hb); have n1_ := yA (Kd.S_below (by first | exact HO_186001.out | exact Kd.S_drew HO_186001.out | exact Kd.S_alloc HO_186001.out _) hb); have n2_ := yA (Kd.R_below (by first | exact HO189.out | exact Kd.R_drew HO189.out | exact Kd.R_alloc HO189.out _) hb); have n3_ := yA (yC (by first | exact BK184.out | exact yI BK184.out _) hb); have n4_ := yA (yC (by first | exact BK185.out | exact yI BK185.out _) hb); have n5_ := yA (yB (by repeat (first | exact HB.out | apply yE | apply yD | refine yJ ?_ GE184.out | refine yJ ?_ GE185.out)) hb); clear HO_186000; clear HO_186001; clear HO189; clear BK184; clear BK185; clear HB; have HO_186000 := n0_; have HO_186001 := n1_; have HO189 := n2_; have BK184 := n3_; have BK185 := n4_; have HB := n5_; clear n0_ n1_ n2_ n3_ n4_ n5_; (try clear hb); (try clear hb2); (try clear hk); (try clear hi)))
        (try simp only [Act.put, lA, lB, lC])
        go_cut [63] (fun v63 wc => ∃ (kq : Nat) (x63_14 : Bool), v63 = .bool x63_14 ∧ Aside0 (ok_Parse.j1 kq a0 true (wrap64 (t187 + 1)) t186 t187 t196 x63_14 x186000_1 x186001_1 = some (r1, r2, r3, r4)) ∧ Aside0 (kq ≤ k1) ∧ Aside0 (Kd.R k115 115 wc w.heap.size (fun _ => True) (.slice (some ad195) t186.length co17) t186) ∧ Aside0 (Kd.R Kd.string 9 wc w.heap.size (fun _ => True) u186000 x186000_1) ∧ Aside0 (Kd.S (Kd.slice 52 k52) 54 wc w.heap.size (fun _ => True) u186001 x186001_1) ∧ Aside0 (wc.heap[gb184]? = some (.cells #[(.slice none 0 0), (.slice none 0 0)] 25 (0, 0))) ∧ Aside0 (wc.heap[gb185]? = some (.cells #[u186000, u186001] 25 (0, 0))) ∧ Aside0 (Below w.heap.size w wc))
        case first =>
         have H := HC15.out
         clear HC15
         by_cases c19 : t197 = true
         ·subst c19
          have H1 : (if t196 < 4096 then (ok_Parse.j1 k1 a0 true (wrap64 (t187 + 1)) t186 t187 t196 (decide (t196 ≤ x7_1)) x186000_1 x186001_1) else (none)) = some (r1, r2, r3, r4) := by rw [if_pos rfl] at H; exact H
          clear H
          have H := H1
          clear H1
          by_cases c20 : t196 < 4096
          ·rw [if_pos c20] at H
           have c20b0 : decide (t196 < 4096) = true := yL c20
           clear c20
           (first | rw [c20b0] | (simp only [i64_w, i32_w]; rw [c20b0]) | skip)
           have H' := yA H
           clear H
           go_wp2
           go_meet
           case rel => exact ⟨_, (decide (t196 ≤ x7_1)), (by first | rfl | (simp; done) | (simp [*]; done)), H', ⟨by have := HK1.out; first | omega | exact Nat.le_refl _⟩, ⟨by (with_reducible repeat (first | apply Kd.R_alloc | apply Kd.R_drewN | apply Kd.R_drew)); exact HO189.out⟩, ⟨by (with_reducible repeat (first | apply Kd.R_alloc | apply Kd.R_drewN | apply Kd.R_drew)); exact HO_186000.out⟩, ⟨by (with_reducible repeat (first | apply Kd.S_alloc | apply Kd.S_drewN | apply Kd.S_drew)); exact HO_186001.out⟩, ⟨by (with_reducible repeat (first | refine yG ?_ _ | refine yH ?_ | refine yI ?_ _)); exact BK184.out⟩, ⟨by (with_reducible repeat (first | refine yG ?_ _ | refine yH ?_ | refine yI ?_ _)); exact BK185.out⟩, ⟨by repeat (first | exact HB.out | apply yE | apply yD | refine yJ ?_ GE184.out | refine yJ ?_ GE185.out)⟩⟩
          ·rw [if_neg c20] at H
           exact absurd H (by simp)
         ·replace c19 := Bool.eq_false_iff.mpr c19
          subst c19
          rw [if_neg (show ¬ (false = true) by decide)] at H
          exact absurd H (by simp)
        case rest =>
         clear HC15; try clear c1; try clear p1; try clear q1; try clear hx1; try clear qi1; try clear c2; try clear c2b0; try clear c2b1; try clear p2; try clear c6; try clear p6; try clear c7; try clear c7b0; try clear c9; try clear c9b0; try clear c9b1; try clear c9b2; try clear c12; try clear c13; try clear c13b0; try clear c13b1; try clear c19; try clear p19; try clear q19; try clear hx19; try clear qi19; try clear c20; try clear c20b0; try clear hcz4_0; try clear hcz4_1; try clear hfz4_0; try clear hfz4_1; try clear hx195_0; try clear hx195_1; try clear p195; try clear p2; try clear q195
         obtain ⟨kq, x63_14, rfl, HA, HJ14, HO_9, HO_186000, HO_186001, BK184, BK185, HB⟩ := hcut
         cases kq with
         | zero => exact absurd HA.out (by simp [ok_Parse.j1])
         | succ kj14 =>
          have H := HA.out
          clear HA
          simp only [ok_Parse.j1] at H
          by_cases c21 : x63_14 = true
          ·subst c21
           rw [if_pos rfl] at H
           exact absurd H (by simp)
          ·replace c21 := Bool.eq_false_iff.mpr c21
           subst c21
           have H1 : (if t196 = 4096 then (none) else (if 1 ≤ (t186.length : Int) then ((ok_cells.f kj14 (t186.drop 1) (x186000_1.length : Int) t187).bind fun bt204 => (if bt204.2.2 = 0 then (ok_Parse.l1 kj14 a0 true t196 (wrap64 (t187 + 1)) t196 bt204.1 x186000_1 x186001_1) else (none))) else (none))) = some (r1, r2, r3, r4) := by rw [if_neg (show ¬ (false = true) by decide)] at H; exact H
           clear H
           have H := H1
           clear H1
           by_cases c26 : t196 = 4096
           ·rw [if_pos c26] at H
            exact absurd H (by simp)
           ·rw [if_neg c26] at H
            have c26b0 : (t196 == 4096) = false := beq_eq_false_iff_ne.mpr c26
            have c26b1 : (t196 != 4096) = true := bne_iff_ne.mpr c26
            by_cases c31 : 1 ≤ (t186.length : Int)
            ·rw [if_pos c31] at H
             have c31b0 := eq_true c31
             have c31b1 : decide (1 ≤ (t186.length : Int)) = true := yL c31
             clear c31
             obtain ⟨y200, hy200⟩ : ∃ y_ : List (S115), y_ = (t186.drop 1) := ⟨_, rfl⟩
             replace H : ((ok_cells.f kj14 y200 (x186000_1.length : Int) t187).bind fun bt204 => (if bt204.2.2 = 0 then (ok_Parse.l1 kj14 a0 true t196 (wrap64 (t187 + 1)) t196 bt204.1 x186000_1 x186001_1) else (none))) = some (r1, r2, r3, r4) := by first | (rw [hy200]; with_reducible exact H) | (have H2_ := (Option.bind_some _ _).symm.trans H; rw [hy200]; with_reducible exact H2_) | (have H2_ := (Option.bind_some _ _).symm.trans H; with_reducible exact H2_) | with_reducible exact H | (rw [hy200]; exact H) | exact H
             have Ny200 := yA hy200
             clear hy200
             replace H := Option.bind_eq_some_iff.mp H
             obtain ⟨⟨t204, t205, t206⟩, A320, H⟩ := H
             replace H : (if t206 = 0 then (ok_Parse.l1 kj14 a0 true t196 (wrap64 (t187 + 1)) t196 t204 x186000_1 x186001_1) else (none)) = some (r1, r2, r3, r4) := H
             have A32 := yA A320
             clear A320
             by_cases c33 : t206 = 0
             ·rw [if_pos c33] at H
              have c33b0 : (t206 == 0) = true := beq_iff_eq.mpr c33
              have c33b1 : (t206 != 0) = false := bne_eq_false_iff_eq.mpr c33
              clear c33
              have H' := yA H
              clear H
              try go_wp2
              have n0_ := yA (Kd.R_drew HO_9.out)
              have n1_ := yA (Kd.R_drew HO_186000.out)
              have n2_ := yA (Kd.S_drew HO_186001.out)
              have n3_ := yA (yH BK184.out)
              have n4_ := yA (yH BK185.out)
              have n5_ := yA (yD HB.out)
              clear HO_9; clear HO_186000; clear HO_186001; clear BK184; clear BK185; clear HB
              have HO_9 := n0_
              have HO_186000 := n1_
              have HO_186001 := n2_
              have BK184 := n3_
              have BK185 := n4_
              have HB := n5_
              clear n0_ n1_ n2_ n3_ n4_ n5_
              have q35 : (1 : Int) ≤ ((t186.length : Int) : Int) := yN (by first | (with_reducible assumption) | assumption)
              obtain ⟨i035, hi035, _, hsz35, _⟩ := info_parts info115
              have hroom35 : t186.length ≤ co17 := (Kd.R_reads' HO_9.out).2.1
              have hC35 : Kd.C k115 _ (some ad195) t186.length t186 := (Kd.R_reads' HO_9.out).2.2
              have hcut35 := cut_from (P := Tryd.prog) 108 115 .i64 Tryd.underlying108 hi035 2 hsz35 (some ad195) t186.length co17 1 (by omega) q35
              have hr35 := Kd.C_drop (m := (1 : Int).toNat) (c := co17) hC35 (by omega) hroom35
              obtain ⟨A35, hA35⟩ : ∃ A1, A1 = (if co17 = (1 : Int).toNat then (some ad195) else ((some ad195) : Option Addr).map (·.add ((1 : Int).toNat * 2))) := ⟨_, rfl⟩
              obtain ⟨c35, hc35⟩ : ∃ c1, c1 = co17 - (1 : Int).toNat := ⟨_, rfl⟩
              have hy35 : y200.length = t186.length - (1 : Int).toNat := (by rw [Ny200.out, List.length_drop] <;> omega)
              rw [show (t186).drop (1 : Int).toNat = y200 from Ny200.out.symm] at hr35
              replace hr35 : Kd.C k115 _ A35 y200.length y200 := (by rw [hA35]; exact hr35)
              rw [← hy35, ← hA35, ← hc35] at hcut35
              have HR203 := yA hr35
              have HC203 := yA (show y200.length ≤ c35 from by rw [hy35, hc35]; exact Nat.sub_le_sub_right hroom35 _)
              clear hr35 hC35 hroom35 hi035 hsz35 hc35
              have KY35 := yA hy35
              have KA35 := yA hA35
              clear hy35 hA35
              have KL35 := yA (show 1 ≤ t186.length from by omega)
              replace q35 := eq_true q35
              obtain ⟨Ao36, co36, eo36⟩ := Kd.R_slice HO_186000.out
              (first | subst eo36 | (injection eo36 with f1_ f2_ f3_; have f4_ := f1_.symm; have f5_ := f3_.symm; clear f1_ f2_ f3_; subst f4_; subst f5_))
              refine start_ (n := 14) (S := fun w' => w'.cell? ⟨gb185, 0, none⟩ = some (.slice Ao36 x186000_1.length co36) ∧ w'.cell? ⟨gb185, 1, none⟩ = some (u186001)) (ds := []) #[false, false, false, false, false, false, false, false, false, false, false, false, false, false] (by kernel_rfl) rfl rfl ⟨(yR BK185.out 0).trans rfl, (yR BK185.out 1).trans rfl⟩ (fun hHeld => ?_); refine with_tabW ok_Parse.tab22 ok_Parse.bits22 (fun HT_ HW_ => ?_)
              generalize wc.drew = w34 at HO_9 HO_186000 HO_186001 BK184 BK185 HB HR203 hHeld ⊢
              refine pure_ (i := 0) (N := some 90) (v := ?_) (a' := ?_) #[true, false, false, false, false, false, false, false, false, false, false, false, false, false] rfl rfl (any_of HT_.out (by kernel_rfl)) (fun _ _ _ h => h) (Or.inl ⟨by rfl, ?_⟩) ?_ ?_
              rotate_left
              ·intro w'
               go_simp
               with_reducible rfl
              rotate_left
              ·simp only [Act.put, lA, lB, lC, i64_w, i32_w]
               rfl
              refine pure_ (i := 1) (N := some 91) (v := ?_) (a' := ?_) #[true, true, false, false, false, false, false, false, false, false, false, false, false, false] rfl rfl (any_of HT_.out (by kernel_rfl)) (fun _ _ _ h => h) (Or.inl ⟨by rfl, ?_⟩) ?_ ?_
              rotate_left
              ·intro w'
               go_simp
               with_reducible rfl
              rotate_left
              ·simp only [Act.put, lA, lB, lC, i64_w, i32_w]
               rfl
              refine pure_ (i := 2) (N := some 92) (v := ?_) (a' := ?_) #[true, true, true, false, false, false, false, false, false, false, false, false, false, false] rfl rfl (any_of HT_.out (by kernel_rfl)) (fun _ _ _ h => h) (Or.inl ⟨by rfl, ?_⟩) ?_ ?_
              rotate_left
              ·intro w'
               go_simp
               with_reducible rfl
              rotate_left
              ·simp only [Act.put, lA, lB, lC, i64_w, i32_w]
               rfl
              refine pure_ (i := 5) (N := some 95) (v := ?_) (a' := ?_) #[true, true, true, false, false, true, false, false, false, false, false, false, false, false] rfl rfl (any_of HT_.out (by kernel_rfl)) (fun _ _ _ h => h) (Or.inl ⟨by rfl, ?_⟩) ?_ ?_
              rotate_left
              ·intro w'
               go_simp
               with_reducible rfl
              rotate_left
              ·simp only [Act.put, lA, lB, lC, i64_w, i32_w]
               rfl
              refine take_ (i := 3) (N := some 93) (v := ?_) (a' := ?_) #[true, true, true, true, false, true, false, false, false, false, false, false, false, false] rfl rfl (take_ofW HT_.out HW_.out (by kernel_rfl)) (fun _ _ _ h => h) (Or.inl ⟨by rfl, ?_⟩) hHeld ?_ ?_
              rotate_left
              ·rintro w' ⟨s0, s1⟩
               go_simp
               with_reducible rfl
              rotate_left
              ·simp only [Act.put, lA, lB, lC, i64_w, i32_w]
               rfl
              refine pure_ (i := 4) (N := some 94) (v := ?_) (a' := ?_) #[true, true, true, true, true, true, false, false, false, false, false, false, false, false] rfl rfl (any_of HT_.out (by kernel_rfl)) (fun _ _ _ h => h) (Or.inl ⟨by rfl, ?_⟩) ?_ ?_
              rotate_left
              ·intro w'
               go_simp
               with_reducible rfl
              rotate_left
              ·simp only [Act.put, lA, lB, lC, i64_w, i32_w]
               rfl
              refine one_ (i := 6) (N := some 96) #[true, true, true, true, true, true, true, false, false, false, false, false, false, false] rfl rfl (one_of HT_.out (by kernel_rfl)) (by decide) (fun K hK => ?_)
              refine goes_ Tryd.func65 (by kernel_rfl) rfl #[.slice A35 y200.length c35, .int .i64 (x186000_1.length : Int), .int .i64 t187] (by rfl) rfl rfl (by (try simp only [List.map_toArray, List.map_cons, List.map_nil]); first | done | rfl | (simp only [List.length_drop, List.length_take]; rfl)) ?_
              with_reducible refine (ok_cells.calls kj14 _ _ y200 (x186000_1.length : Int) t187 t204 t205 t206 _ ?side1 ?side2 A32.out (Pure.GR.below HG.out (by repeat (first | (with_reducible first | exact HB.out | apply yE | apply yF | apply yD | (refine yJ ?_ (by first | exact GE184.out | exact GE185.out)) ) | exact HB.out)))).mono ?_
              (case side1 => repeat (first | exact (by repeat (first | (with_reducible exact HR203.out) | (with_reducible refine Kd.C_alloc ?_ _) | (with_reducible refine Kd.C_drewN ?_ _) | (with_reducible refine Kd.C_drew ?_) | exact HR203.out)) | (with_reducible refine Kd.C_alloc ?_ _) | (with_reducible refine Kd.C_drewN ?_ _) | (with_reducible refine Kd.C_drew ?_)))
              (case side2 => exact HC203.out)
              rintro e w37 ⟨v207, rfl, ho0, hb⟩
              refine ⟨_, rfl, ?_⟩
              have n0_ := yA (Kd.R_below (by first | exact HO_9.out | exact Kd.R_drew HO_9.out | exact Kd.R_alloc HO_9.out _) hb)
              have n1_ := yA (Kd.R_below (by first | exact HO_186000.out | exact Kd.R_drew HO_186000.out | exact Kd.R_alloc HO_186000.out _) hb)
              have n2_ := yA (Kd.S_elder' (by first | exact HO_186001.out | exact Kd.S_drew HO_186001.out | exact Kd.S_alloc HO_186001.out _) (Kd.R_base ho0) hb)
              have n3_ := yA (Kd.R_lower ho0 (below_size (by repeat (first | exact HB.out | apply yE | apply yD | refine yJ ?_ GE184.out | refine yJ ?_ GE185.out))))
              have n4_ := yA (yC (by first | exact BK184.out | exact yI BK184.out _) hb)
              have n5_ := yA (yC (by first | exact BK185.out | exact yI BK185.out _) hb)
              have n6_ := yA (Kd.C_below (by repeat (first | (with_reducible exact HR203.out) | (with_reducible refine Kd.C_alloc ?_ _) | (with_reducible refine Kd.C_drewN ?_ _) | (with_reducible refine Kd.C_drew ?_) | exact HR203.out)) hb)
              have n7_ := yA (yB (by repeat (first | exact HB.out | apply yE | apply yD | refine yJ ?_ GE184.out | refine yJ ?_ GE185.out)) hb)
              clear HO_9; clear HO_186000; clear HO_186001; clear BK184; clear BK185; clear HR203; clear HB
              have HO_9 := n0_
              have HO_186000 := n1_
              have HO_186001 := n2_
              have HO208 := n3_
              have BK184 := n4_
              have BK185 := n5_
              have HR203 := n6_
              have HB := n7_
              clear n0_ n1_ n2_ n3_ n4_ n5_ n6_ n7_
              (try clear hb)
              (try clear hb2)
              (try clear hk)
              (try clear hi)
              (try clear ho0)
              refine hK.out _ _ ⟨(yR BK185.out 0).trans rfl, (yR BK185.out 1).trans rfl⟩ (fun hHeld => ?_)
              clear hK K
              refine norm_ (a' := ?_) ?_ ?_
              rotate_left
              ·show Act.put _ (some 96) _ = _
               simp only [Act.put, lA, lB, lC, i64_w, i32_w]
               rfl
              refine pure_ (i := 7) (N := some 89) (v := ?_) (a' := ?_) #[true, true, true, true, true, true, true, true, false, false, false, false, false, false] rfl rfl (any_of HT_.out (by kernel_rfl)) (fun _ _ _ h => h) (Or.inl ⟨by rfl, ?_⟩) ?_ ?_
              rotate_left
              ·intro w'
               go_simp
               with_reducible rfl
              rotate_left
              ·simp only [Act.put, lA, lB, lC, i64_w, i32_w]
               rfl
              refine pure_ (i := 8) (N := some 97) (v := ?_) (a' := ?_) #[true, true, true, true, true, true, true, true, true, false, false, false, false, false] rfl rfl (any_of HT_.out (by kernel_rfl)) (fun _ _ _ h => h) (Or.inl ⟨by rfl, ?_⟩) ?_ ?_
              rotate_left
              ·intro w'
               go_simp
               with_reducible rfl
              rotate_left
              ·simp only [Act.put, lA, lB, lC, i64_w, i32_w]
               rfl
              refine pure_ (i := 9) (N := some 98) (v := ?_) (a' := ?_) #[true, true, true, true, true, true, true, true, true, true, false, false, false, false] rfl rfl (any_of HT_.out (by kernel_rfl)) (fun _ _ _ h => h) (Or.inl ⟨by rfl, ?_⟩) ?_ ?_
              rotate_left
              ·intro w'
               go_simp
               with_reducible rfl
              rotate_left
              ·simp only [Act.put, lA, lB, lC, i64_w, i32_w]
               rfl
              refine pure_ (i := 10) (N := some 99) (v := ?_) (a' := ?_) #[true, true, true, true, true, true, true, true, true, true, true, false, false, false] rfl rfl (any_of HT_.out (by kernel_rfl)) (fun _ _ _ h => h) (Or.inl ⟨by rfl, ?_⟩) ?_ ?_
              rotate_left
              ·intro w'
               go_simp
               with_reducible rfl
              rotate_left
              ·simp only [Act.put, lA, lB, lC, i64_w, i32_w]
               rfl
              refine pure_ (i := 11) (N := some 16) (v := ?_) (a' := ?_) #[true, true, true, true, true, true, true, true, true, true, true, true, false, false] rfl rfl (any_of HT_.out (by kernel_rfl)) (fun _ _ _ h => h) (Or.inl ⟨by rfl, ?_⟩) ?_ ?_
              rotate_left
              ·intro w'
               go_simp
               with_reducible rfl
              rotate_left
              ·simp only [Act.put, lA, lB, lC, i64_w, i32_w]
               rfl
              refine pure_ (i := 12) (N := some 17) (v := ?_) (a' := ?_) #[true, true, true, true, true, true, true, true, true, true, true, true, true, false] rfl rfl (any_of HT_.out (by kernel_rfl)) (fun _ _ _ h => h) (Or.inl ⟨by rfl, ?_⟩) ?_ ?_
              rotate_left
              ·intro w'
               go_simp
               with_reducible rfl
              rotate_left
              ·simp only [Act.put, lA, lB, lC, i64_w, i32_w]
               rfl
              refine pure_ (i := 13) (N := some 18) (v := ?_) (a' := ?_) #[true, true, true, true, true, true, true, true, true, true, true, true, true, true] rfl rfl (any_of HT_.out (by kernel_rfl)) (fun _ _ _ h => h) (Or.inl ⟨by rfl, ?_⟩) ?_ ?_
              rotate_left
              ·intro w'
               go_simp
               with_reducible rfl
              rotate_left
              ·simp only [Act.put, lA, lB, lC, i64_w, i32_w]
               rfl
              refine done_ (done_of HT_.out (by kernel_rfl)) ?_
              try go_wp2
              go_loopg [] kj14 (fun kq w' => ∃ (x186001_3 : List (List (S52))) (u186001 : Value), Aside0 (ok_Parse.l1 kq a0 true t196 (wrap64 (t187 + 1)) t196 t204 x186000_1 x186001_3 = some (r1, r2, r3, r4)) ∧ Aside0 (kq ≤ kj14) ∧ Aside0 (Kd.R k52 52 w' w.heap.size (fun _ => True) v207 t204) ∧ Aside0 (Kd.R Kd.string 9 w' w.heap.size (fun _ => True) (.slice Ao36 x186000_1.length co36) x186000_1) ∧ Aside0 (Kd.S (Kd.slice 52 k52) 54 w' w.heap.size (fun k_ => some k_ ≠ (v207 : Value).ownBlock) u186001 x186001_3) ∧ Aside0 (w'.heap[gb184]? = some (.cells #[(.slice none 0 0), (.slice none 0 0)] 25 (0, 0))) ∧ Aside0 (w'.heap[gb185]? = some (.cells #[(.slice Ao36 x186000_1.length co36), u186001] 25 (0, 0))) ∧ Aside0 (Below w.heap.size w w'))
              case atStart => exact ⟨(x186001_1), (u186001), H', ⟨Nat.le_refl _⟩, ⟨by (with_reducible repeat (first | apply Kd.R_alloc | apply Kd.R_drewN | apply Kd.R_drew)); exact HO208.out⟩, ⟨by (with_reducible repeat (first | apply Kd.R_alloc | apply Kd.R_drewN | apply Kd.R_drew)); exact HO_186000.out⟩, ⟨by (with_reducible repeat (first | apply Kd.S_alloc | apply Kd.S_drewN | apply Kd.S_drew)); exact Kd.S_mono HO_186001.out (fun _ hk => hk.2)⟩, ⟨by (with_reducible repeat (first | refine yG ?_ _ | refine yH ?_ | refine yI ?_ _)); exact BK184.out⟩, ⟨by (with_reducible repeat (first | refine yG ?_ _ | refine yH ?_ | refine yI ?_ _)); exact BK185.out⟩, ⟨by repeat (first | exact HB.out | apply yE | apply yD | refine yJ ?_ GE184.out | refine yJ ?_ GE185.out)⟩⟩
              case round =>
               clear H'
               try clear c1; try clear p1; try clear q1; try clear hx1; try clear qi1; try clear c2; try clear c2b0; try clear c2b1; try clear p2; try clear c3; try clear q3; try clear c6; try clear p6; try clear c7; try clear c7b0; try clear c9; try clear c9b0; try clear c9b1; try clear c9b2; try clear c12; try clear c13; try clear c13b0; try clear c13b1; try clear c19; try clear p19; try clear q19; try clear hx19; try clear qi19; try clear c20; try clear c20b0; try clear c21; try clear c22; try clear c22b0; try clear c22b1; try clear c26; try clear c26b0; try clear c26b1; try clear c27; try clear c27b0; try clear c27b1; try clear c31; try clear c31b0; try clear c31b1; try clear c33; try clear c33b0; try clear c33b1; try clear c35; try clear q35; try clear hcz4_0; try clear hcz4_1; try clear hfz4_0; try clear hfz4_1; try clear hx195_0; try clear hx195_1; try clear hx198_0; try clear hx198_1; try clear hx199_0; try clear hx199_1; try clear p1; try clear p19; try clear p195; try clear p198; try clear p199; try clear p2; try clear p6; try clear q1; try clear q19; try clear q195; try clear q198; try clear q199; try clear q35
               obtain ⟨x186001_3, u186001, HA, HK3, HO_16, HO_186000, HO_186001, BK184, BK185, HB⟩ := hrel
               cases gk with
               | zero => exact absurd HA.out (by simp [ok_Parse.l1])
               | succ k3 =>
                have H := HA.out
                clear HA
                simp only [ok_Parse.l1] at H
                by_cases c38 : (x186001_3.length : Int) < t196
                ·rw [if_pos c38] at H
                 exact absurd H (by simp)
                ·rw [if_neg c38] at H
                 have c38b0 : decide ((x186001_3.length : Int) < t196) = false := yM c38
                 clear c38
                 by_cases c52 : x186001_3.length < 5864062014805
                 ·rw [if_pos c52] at H
                  have LMc52 := yA c52
                  clear c52
                  obtain ⟨y215, hy215⟩ : ∃ y_ : List (List (S52)), y_ = (x186001_3 ++ [t204]) := ⟨_, rfl⟩
                  replace H : (ok_Parse.l0 k3 a0 true t196 (wrap64 (t187 + 1)) x186000_1 y215) = some (r1, r2, r3, r4) := by first | (rw [hy215]; with_reducible exact H) | (have H2_ := (Option.bind_some _ _).symm.trans H; rw [hy215]; with_reducible exact H2_) | (have H2_ := (Option.bind_some _ _).symm.trans H; with_reducible exact H2_) | with_reducible exact H | (rw [hy215]; exact H) | exact H
                  have Ny215 := yA hy215
                  clear hy215
                  have H' := yA H
                  clear H
                  have hnb53 := NB185_184.out
                  have hnc53 := NB184_185.out
                  have hcz54_0 : wr.cell? ⟨gb185, 0, none⟩ = some (.slice Ao36 x186000_1.length co36) := (yR BK185.out 0).trans rfl
                  have hcz54_1 : wr.cell? ⟨gb185, 1, none⟩ = some (u186001) := (yR BK185.out 1).trans rfl
                  have hfz54_0 := yS BK185.out 0
                  have hfz54_1 := yS BK185.out 1
                  obtain ⟨Ao55, co55, eo55⟩ := Kd.S_slice HO_186001.out
                  subst eo55
                  obtain ⟨Ao57, co57, eo57⟩ := Kd.R_slice HO_16.out
                  subst eo57
                  go_wp2_with (first | ((with_reducible refine gate_builtin (b := .append) (xs := #[.tmp 120, .tmp 122]) rfl ?_); at_builtin; refine Kd.S_append (Kd.slice 52 k52) (w0 := w) w.heap.size rfl (.tmp 120) (.tmp 122) 23 54 (.slice none 0 0) 24 rfl Tryd.underlying23 info54 rfl (by decide) (by omega) (.slice Ao55 x186001_3.length co55) x186001_3 t204 [.slice Ao57 t204.length co57] (fun _ => True) (fun k_ => some k_ = (.slice Ao57 t204.length co57 : Value).ownBlock) rfl rfl ?aP (fun k_ hk_ => ((Kd.R_mono (ok' := fun k_ => ((fun _ => True)) k_ ∧ some k_ ≠ (.slice Ao55 x186001_3.length co55 : Value).ownBlock) (Kd.R_apart' (HO_16.out) (Kd.S_typed HO_186001.out) (by decide)) (fun k_ hk => ⟨trivial, hk.2⟩))).1 k_ hk_.symm) ?aF ?aO ?aB ?aS ?aL ?_; (case aP => exact Kd.M_row (Kd.R_mono (Kd.R_tight rfl (Kd.R_mono (ok' := fun k_ => ((fun _ => True)) k_ ∧ some k_ ≠ (.slice Ao55 x186001_3.length co55 : Value).ownBlock) (Kd.R_apart' (HO_16.out) (Kd.S_typed HO_186001.out) (by decide)) (fun k_ hk => ⟨trivial, hk.2⟩))) (fun _ h_ => h_))); (case aB => exact (by repeat (first | exact HB.out | apply yE | apply yD | refine yJ ?_ GE184.out | refine yJ ?_ GE185.out))); (case aF => exact (fun _ _ => trivial)); (case aO => exact (by (with_reducible repeat (first | apply Kd.S_alloc | apply Kd.S_drewN | apply Kd.S_drew)); exact Kd.S_mono HO_186001.out (fun k_ hk => ⟨trivial, fun e_ => hk e_⟩))); (case aS => exact (below_size (by repeat (first | exact HB.out | apply yE | apply yD | refine yJ ?_ GE184.out | refine yJ ?_ GE185.out)))); (case aL => have := LMc52.out; omega); intro v216 w56 ho hb hg hat; rw [← Ny215.out] at ho; have n0_ := yA (Kd.R_over' (by first | exact HO_186000.out | exact Kd.R_drew HO_186000.out | exact Kd.R_alloc HO_186000.out _) (Kd.S_typed (by first | exact HO_186001.out | exact Kd.S_drew HO_186001.out | exact Kd.S_alloc HO_186001.out _)) (by decide) hg); have n1_ := yA (blk_grown (by first | exact BK184.out | exact yI BK184.out _) hg (Kd.S_ne HO_186001.out BK184.out (by decide))); have n2_ := yA (blk_grown (by first | exact BK185.out | exact yI BK185.out _) hg (Kd.S_ne HO_186001.out BK185.out (by decide))); have n3_ := yA (hb); have n4_ := yA (ho); clear HO_186000; clear BK184; clear BK185; clear HB; clear HO_186001; clear HO_16; have HO_186000 := n0_; have BK184 := n1_; have BK185 := n2_; have HB := n3_; have HO217 := n4_; clear n0_ n1_ n2_ n3_ n4_; clear ho hb hg hat; obtain ⟨Ao58, co58, eo58⟩ := Kd.S_slice HO217.out; subst eo58; have hcz59_0 : w56.cell? ⟨gb185, 0, none⟩ = some (.slice Ao36 x186000_1.length co36) := (yR BK185.out 0).trans rfl; have hcz59_1 : w56.cell? ⟨gb185, 1, none⟩ = some (.slice Ao55 x186001_3.length co55) := (yR BK185.out 1).trans rfl; have hfz59_0 := yS BK185.out 0; have hfz59_1 := yS BK185.out 1))
                  go_roundg k3
                  case measure => have := HK1.out; have := HJ14.out; have := HK3.out; omega
                  case rel => exact ⟨(true), (t196), ((wrap64 (t187 + 1))), (x186000_1), (y215), (.slice Ao36 x186000_1.length co36), (.slice Ao58 y215.length co58), (by first | rfl | (simp; done) | (simp [*]; done)), (by first | rfl | (simp; done) | (simp [*]; done)), (by first | rfl | (simp; done) | (simp [*]; done)), H', ⟨by have := HK1.out; have := HJ14.out; have := HK3.out; omega⟩, ⟨by (with_reducible repeat (first | apply Kd.R_alloc | apply Kd.R_drewN | apply Kd.R_drew)); exact Kd.R_mono (Kd.R_far (p := ⟨gb185, 1, none⟩) (Kd.R_types HO_186000.out BK185.out (by decide)) (fun _ hk => hk.2) (.slice Ao58 y215.length co58)) (fun _ hk => trivial)⟩, ⟨by (with_reducible repeat (first | apply Kd.S_alloc | apply Kd.S_drewN | apply Kd.S_drew)); exact Kd.S_mono (Kd.S_far (p := ⟨gb185, 1, none⟩) (Kd.S_types HO217.out BK185.out (by decide)) (fun _ hk => hk.2) (.slice Ao58 y215.length co58)) (fun _ hk => trivial)⟩, ⟨by (with_reducible repeat (first | refine yG ?_ _ | refine yH ?_ | refine yI ?_ _)); refine blk_far ?_ NB184_185.out _; (with_reducible repeat (first | refine yG ?_ _ | refine yH ?_ | refine yI ?_ _)); exact BK184.out⟩, ⟨by (with_reducible repeat (first | refine yG ?_ _ | refine yH ?_ | refine yI ?_ _)); refine blk_put (cs := #[.slice Ao36 x186000_1.length co36, .slice Ao55 x186001_3.length co55]) ?_ 1 _ rfl; (with_reducible repeat (first | refine yG ?_ _ | refine yH ?_ | refine yI ?_ _)); exact BK185.out⟩, ⟨by repeat (first | exact HB.out | apply yE | apply yD | refine yJ ?_ GE184.out | refine yJ ?_ GE185.out)⟩⟩
                 ·rw [if_neg c52] at H
                  exact absurd H (by simp)
             ·rw [if_neg c33] at H
              exact absurd H (by simp)
            ·rw [if_neg c31] at H
             exact absurd H (by simp)
       ·rw [if_neg c13] at H
        exact absurd H (by simp)
      ·replace c12 := Bool.eq_false_iff.mpr c12
       subst c12
       have H1 : ((table_head.f t186).bind fun bt190 => (if bt190.2.2 = 0 then (ok_Parse.l0 k1 a0 true x7_1 (wrap64 (t187 + 1)) bt190.1 x186001_1) else (none))) = some (r1, r2, r3, r4) := by rw [if_neg (show ¬ (false = true) by decide)] at H; exact H
       clear H
       have H := H1
       clear H1
       replace H := Option.bind_eq_some_iff.mp H
       obtain ⟨⟨t190, t191, t192⟩, A660, H⟩ := H
       replace H : (if t192 = 0 then (ok_Parse.l0 k1 a0 true x7_1 (wrap64 (t187 + 1)) t190 x186001_1) else (none)) = some (r1, r2, r3, r4) := H
       have A66 := yA A660
       clear A660
       by_cases c67 : t192 = 0
       ·rw [if_pos c67] at H
        have c67b0 : (t192 == 0) = true := beq_iff_eq.mpr c67
        have c67b1 : (t192 != 0) = false := bne_eq_false_iff_eq.mpr c67
        clear c67
        have H' := yA H
        clear H
        go_wp2_with (first | ((with_reducible refine yO (f := 62) rfl ?_); refine goesL_ (some 30) rfl rfl Tryd.func62 (by kernel_rfl) rfl #[.string a0, .int .i64 x8_1] rfl (by (try simp only [List.map_toArray, List.map_cons, List.map_nil]); first | done | rfl | (simp only [List.length_drop, List.length_take]; rfl)) ?_; (with_reducible refine (ok_words.calls k1 a0 x8_1 t186 t187 _ A8.out).mono ?_); rintro e w68 ⟨v188, rfl, ho0, hb⟩; refine ⟨_, rfl, ?_⟩; have n0_ := yA (Kd.R_below (by first | exact HO_186000.out | exact Kd.R_drew HO_186000.out | exact Kd.R_alloc HO_186000.out _) hb); have n1_ := yA (Kd.S_below (by first | exact HO_186001.out | exact Kd.S_drew HO_186001.out | exact Kd.S_alloc HO_186001.out _) hb); have n2_ := yA (Kd.R_lower ho0 (below_size (by repeat (first | exact HB.out | apply yE | apply yD | refine yJ ?_ GE184.out | refine yJ ?_ GE185.out)))); have n3_ := yA (yC (by first | exact BK184.out | exact yI BK184.out _) hb); have n4_ := yA (yC (by first | exact BK185.out | exact yI BK185.out _) hb); have n5_ := yA (yB (by repeat (first | exact HB.out | apply yE | apply yD | refine yJ ?_ GE184.out | refine yJ ?_ GE185.out)) hb); clear HO_186000; clear HO_186001; clear BK184; clear BK185; clear HB; have HO_186000 := n0_; have HO_186001 := n1_; have HO189 := n2_; have BK184 := n3_; have BK185 := n4_; have HB := n5_; clear n0_ n1_ n2_ n3_ n4_ n5_; (try clear hb); (try clear hb2); (try clear hk); (try clear hi); (try clear ho0); obtain ⟨Ao69, co69, eo69⟩ := Kd.R_slice HO189.out; subst eo69) | ((with_reducible refine yO (f := 63) rfl ?_); refine goesL_ (some 44) rfl rfl Tryd.func63 (by kernel_rfl) rfl #[.slice Ao69 t186.length co69] rfl (by (try simp only [List.map_toArray, List.map_cons, List.map_nil]); first | done | rfl | (simp only [List.length_drop, List.length_take]; rfl)) ?_; (with_reducible refine (table_head.calls _ _ t186 t190 t191 t192 _ ?side1 ?side2 A66.out).mono ?_); (case side1 => repeat (first | exact (Kd.R_reads' HO189.out).2.2 | (with_reducible refine Kd.C_alloc ?_ _) | (with_reducible refine Kd.C_drewN ?_ _) | (with_reducible refine Kd.C_drew ?_))); (case side2 => exact (Kd.R_reads' HO189.out).2.1); rintro e w70 ⟨v193, rfl, ho0, hb⟩; refine ⟨_, rfl, ?_⟩; have n0_ := yA (Kd.R_elder' (by first | exact HO_186000.out | exact Kd.R_drew HO_186000.out | exact Kd.R_alloc HO_186000.out _) (Kd.R_base ho0) hb); have n1_ := yA (Kd.S_below (by first | exact HO_186001.out | exact Kd.S_drew HO_186001.out | exact Kd.S_alloc HO_186001.out _) hb); have n2_ := yA (Kd.R_below (by first | exact HO189.out | exact Kd.R_drew HO189.out | exact Kd.R_alloc HO189.out _) hb); have n3_ := yA (Kd.R_lower (Kd.R_new' ho0 (Kd.R_lt (by first | exact HO_186000.out | exact Kd.R_drew HO_186000.out | exact Kd.R_alloc HO_186000.out _))) (below_size (by repeat (first | exact HB.out | apply yE | apply yD | refine yJ ?_ GE184.out | refine yJ ?_ GE185.out)))); have n4_ := yA (yC (by first | exact BK184.out | exact yI BK184.out _) hb); have n5_ := yA (yC (by first | exact BK185.out | exact yI BK185.out _) hb); have n6_ := yA (yB (by repeat (first | exact HB.out | apply yE | apply yD | refine yJ ?_ GE184.out | refine yJ ?_ GE185.out)) hb); clear HO_186000; clear HO_186001; clear HO189; clear BK184; clear BK185; clear HB; have HO_186000 := n0_; have HO_186001 := n1_; have HO189 := n2_; have HO194 := n3_; have BK184 := n4_; have BK185 := n5_; have HB := n6_; clear n0_ n1_ n2_ n3_ n4_ n5_ n6_; (try clear hb); (try clear hb2); (try clear hk); (try clear hi); (try clear ho0); obtain ⟨Ao71, co71, eo71⟩ := Kd.R_slice HO194.out; subst eo71; have hnb72 := NB185_184.out; have hnc72 := NB184_185.out; have hcz73_0 : w70.cell? ⟨gb185, 0, none⟩ = some (u186000) := (yR BK185.out 0).trans rfl; have hcz73_1 : w70.cell? ⟨gb185, 1, none⟩ = some (u186001) := (yR BK185.out 1).trans rfl; have hfz73_0 := yS BK185.out 0; have hfz73_1 := yS BK185.out 1))
        go_roundg k1
        case measure => have := HK1.out; omega
        case rel => exact ⟨(true), (x7_1), (wrap64 (t187 + 1)), (t190), (x186001_1), (.slice Ao71 t190.length co71), (u186001), (by first | rfl | (simp; done) | (simp [*]; done)), (by first | rfl | (simp; done) | (simp [*]; done)), (by first | rfl | (simp; done) | (simp [*]; done)), H', ⟨by have := HK1.out; omega⟩, ⟨by (with_reducible repeat (first | apply Kd.R_alloc | apply Kd.R_drewN | apply Kd.R_drew)); exact Kd.R_mono (Kd.R_far (p := ⟨gb185, 0, none⟩) (Kd.R_types HO194.out BK185.out (by decide)) (fun _ hk => hk.2) (.slice Ao71 t190.length co71)) (fun _ hk => trivial)⟩, ⟨by (with_reducible repeat (first | apply Kd.S_alloc | apply Kd.S_drewN | apply Kd.S_drew)); exact Kd.S_mono (Kd.S_far (p := ⟨gb185, 0, none⟩) (Kd.S_types HO_186001.out BK185.out (by decide)) (fun _ hk => hk.2) (.slice Ao71 t190.length co71)) (fun _ hk => trivial)⟩, ⟨by (with_reducible repeat (first | refine yG ?_ _ | refine yH ?_ | refine yI ?_ _)); refine blk_far ?_ NB184_185.out _; (with_reducible repeat (first | refine yG ?_ _ | refine yH ?_ | refine yI ?_ _)); exact BK184.out⟩, ⟨by (with_reducible repeat (first | refine yG ?_ _ | refine yH ?_ | refine yI ?_ _)); refine blk_put (cs := #[u186000, u186001]) ?_ 0 _ rfl; (with_reducible repeat (first | refine yG ?_ _ | refine yH ?_ | refine yI ?_ _)); exact BK185.out⟩, ⟨by repeat (first | exact HB.out | apply yE | apply yD | refine yJ ?_ GE184.out | refine yJ ?_ GE185.out)⟩⟩
       ·rw [if_neg c67] at H
        exact absurd H (by simp)
    ·rw [if_neg c7] at H
     have c7b0 : decide (x8_1 ≤ (a0.size : Int)) = false := yM c7
     clear c7
     by_cases c79 : x6_1 = true
     ·subst c79
      have H1 : (some (x186000_1, x186001_1, 0, 0)) = some (r1, r2, r3, r4) := by rw [if_pos rfl] at H; exact H
      clear H
      have H := H1
      clear H1
      simp only [Option.some.injEq, Prod.mk.injEq] at H
      obtain ⟨rfl, rfl, rfl, rfl⟩ := H
      have hnb80 := NB185_184.out
      have hnc80 := NB184_185.out
      have hcz81_0 : wr.cell? ⟨gb185, 0, none⟩ = some (u186000) := (yR BK185.out 0).trans rfl
      have hcz81_1 : wr.cell? ⟨gb185, 1, none⟩ = some (u186001) := (yR BK185.out 1).trans rfl
      have hfz81_0 := yS BK185.out 0
      have hfz81_1 := yS BK185.out 1
      obtain ⟨Ao82, co82, eo82⟩ := Kd.R_slice HO_186000.out
      subst eo82
      have hcz83_0 : wr.cell? ⟨gb184, 0, none⟩ = some (.slice none 0 0) := (yR BK184.out 0).trans rfl
      have hcz83_1 : wr.cell? ⟨gb184, 1, none⟩ = some (.slice none 0 0) := (yR BK184.out 1).trans rfl
      have hfz83_0 := yS BK184.out 0
      have hfz83_1 := yS BK184.out 1
      obtain ⟨Ao84, co84, eo84⟩ := Kd.S_slice HO_186001.out
      subst eo84
      go_wp2
      (try rw [Exit.noGoto_ret])
      refine bodyPost_ret (results_ctt rfl _ _ gb184 25 #[.slice Ao82 x186000_1.length co82, .slice Ao84 x186001_1.length co84] (0, 0) _ rfl (by (with_reducible repeat (first | refine yG ?_ _ | refine yH ?_ | refine yI ?_ _)); refine blk_put (cs := #[.slice Ao82 x186000_1.length co82, .slice none 0 0]) ?_ 1 _ rfl; (with_reducible repeat (first | refine yG ?_ _ | refine yH ?_ | refine yI ?_ _)); refine blk_put (cs := #[.slice none 0 0, .slice none 0 0]) ?_ 0 _ rfl; (with_reducible repeat (first | refine yG ?_ _ | refine yH ?_ | refine yI ?_ _)); exact BK184.out) Tryd.underlying25 rfl (by kernel_rfl)) rfl ?_
      exact ⟨_, _, by first | rfl | (simp [errW_none, errW_some] <;> rfl) | (simp [*, errW_none, errW_some] <;> rfl), by (with_reducible repeat (first | apply Kd.R_alloc | apply Kd.R_drewN | apply Kd.R_drew)); exact Kd.R_mono (Kd.R_far (p := ⟨gb184, 1, none⟩) (Kd.R_far (p := ⟨gb184, 0, none⟩) (Kd.R_types HO_186000.out BK184.out (by decide)) (fun _ hk => hk.2) (.slice Ao82 x186000_1.length co82)) (fun _ hk => hk.2) (.slice Ao84 x186001_1.length co84)) (fun _ hk => trivial), by (with_reducible repeat (first | apply Kd.S_alloc | apply Kd.S_drewN | apply Kd.S_drew)); exact Kd.S_mono (Kd.S_far (p := ⟨gb184, 1, none⟩) (Kd.S_far (p := ⟨gb184, 0, none⟩) (Kd.S_types HO_186001.out BK184.out (by decide)) (fun _ hk => hk.2) (.slice Ao82 x186000_1.length co82)) (fun _ hk => hk.2) (.slice Ao84 x186001_1.length co84)) (fun _ hk => trivial), by repeat (first | exact HB.out | apply yE | apply yD | refine yJ ?_ GE184.out | refine yJ ?_ GE185.out)⟩
     ·replace c79 := Bool.eq_false_iff.mpr c79
      subst c79
      rw [if_neg (show ¬ (false = true) by decide)] at H
      exact absurd H (by simp)
end Go.Proofs.YtppojbafagneeaaDoor.PTab
