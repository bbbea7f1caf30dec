/- Own text, for this claim: table.blank, table.words, after the text that the kit's printer writes. -/
import Derived.Test.YtppojbafagneeaaDoorZQPar0
import Derived.WalkMore
import Derived.Deep.DeepMust
import Derived.Outline
import Derived.Deep.RegionWith
namespace Go.Proofs.YtppojbafagneeaaDoor.PTab
open Go.RowKit Go.Proofs.YtppojbafagneeaaDoorW.PrintWords Go.Proofs.YtppojbafagneeaaDoorW.PrintLast Go.Proofs.YtppojbafagneeaaDoorW.PrintMore
attribute [local go_sem] max2_int min2_int max_two min_two max_three min_three max_four min_four
set_option linter.unusedVariables false
set_option linter.unusedSimpArgs false
def table_blank.f (a0 : Int) : Option (Bool) := (if a0 = 32 then (some true) else (if a0 = 9 then (some true) else (some (a0 == 13))))
set_option maxHeartbeats 8000000 in
set_option maxRecDepth 100000 in
theorem table_blank.calls (a0 : Int) (r : Bool) (w : World) (h : table_blank.f a0 = some r) :
  Calls Tryd.prog 88 #[.int .u8 a0] w fun e w' => e = .returned (.bool r) ∧ Drawn0 w w' := by
 have H : (if a0 = 32 then (some true) else (if a0 = 9 then (some true) else (some (a0 == 13)))) = some r := h
 clear h
 by_cases c2 : a0 = 32
 ·rw [if_pos c2] at H
  have c2b0 : (a0 == 32) = true := beq_iff_eq.mpr c2
  have c2b1 : (a0 != 32) = false := bne_eq_false_iff_eq.mpr c2
  clear c2
  obtain rfl := Option.some.inj H
  go_enter Tryd.func88, Tryd.ntmps88
  go_wp2
  go_ret
  exact ⟨by first | rfl | (simp; done) | (simp [*]; done), by repeat (first | exact Drawn0.refl _ | apply Drawn0.step)⟩
 ·rw [if_neg c2] at H
  have c2b0 : (a0 == 32) = false := beq_eq_false_iff_ne.mpr c2
  have c2b1 : (a0 != 32) = true := bne_iff_ne.mpr c2
  by_cases c3 : a0 = 9
  ·rw [if_pos c3] at H
   have c3b0 : (a0 == 9) = true := beq_iff_eq.mpr c3
   have c3b1 : (a0 != 9) = false := bne_eq_false_iff_eq.mpr c3
   clear c3
   obtain rfl := Option.some.inj H
   go_enter Tryd.func88, Tryd.ntmps88
   go_wp2
   go_ret
   exact ⟨by first | rfl | (simp; done) | (simp [*]; done), by repeat (first | exact Drawn0.refl _ | apply Drawn0.step)⟩
  ·rw [if_neg c3] at H
   have c3b0 : (a0 == 9) = false := beq_eq_false_iff_ne.mpr c3
   have c3b1 : (a0 != 9) = true := bne_iff_ne.mpr c3
   obtain rfl := Option.some.inj H
   go_enter Tryd.func88, Tryd.ntmps88
   go_wp2
   go_ret
   exact ⟨by first | rfl | (simp; done) | (simp [*]; done), by repeat (first | exact Drawn0.refl _ | apply Drawn0.step)⟩
mutual
def ok_words.j0 : Nat → ByteArray → Int → Int → Option ((List (S115)) × Int)
 | 0, _, _, _ => none
 | k + 1, x0, x1, x6 => ok_words.l0 k x0 x6 ([] : List (S115)) x1
def ok_words.l0 : Nat → ByteArray → Int → List (S115) → Int → Option ((List (S115)) × Int)
 | 0, _, _, _, _ => none
 | k + 1, x0, x6, x8, x9 => (if x9 < x6 then (if 0 ≤ x9 then (if x9 < (x0.size : Int) then (if (bt x0 x9) = 35 then (none) else ((table_blank.f (bt x0 x9)).bind fun t130 => (if t130 = true then (ok_words.l0 k x0 x6 x8 (wrap64 (x9 + 1))) else (ok_words.l1 k x0 x6 x8 x9 x9)))) else (none)) else (none)) else (some (x8, x6)))
def ok_words.l1 : Nat → ByteArray → Int → List (S115) → Int → Int → Option ((List (S115)) × Int)
 | 0, _, _, _, _, _ => none
 | k + 1, x0, x6, x8, x9, x10 => (if x10 < x6 then (if 0 ≤ x10 then (if x10 < (x0.size : Int) then ((table_blank.f (bt x0 x10)).bind fun t131 => (if t131 = true then (if 0 ≤ x9 then (if x9 ≤ x10 then (if x10 ≤ (x0.size : Int) then (if x8.length < 5864062014805 then (ok_words.l0 k x0 x6 (x8 ++ [(⟨x0.extract (x9 : Int).toNat (x10 : Int).toNat, x9⟩ : S115)]) x10) else (none)) else (none)) else (none)) else (none)) else (if (bt x0 x10) = 35 then (none) else (ok_words.l1 k x0 x6 x8 x9 (wrap64 (x10 + 1)))))) else (none)) else (none)) else (if 0 ≤ x9 then (if x9 ≤ x10 then (if x10 ≤ (x0.size : Int) then (if x8.length < 5864062014805 then (ok_words.l0 k x0 x6 (x8 ++ [(⟨x0.extract (x9 : Int).toNat (x10 : Int).toNat, x9⟩ : S115)]) x10) else (none)) else (none)) else (none)) else (none)))
end
def ok_words.f (k : Nat) (a0 : ByteArray) (a1 : Int) : Option ((List (S115)) × Int) := (if 0 ≤ a1 then (if a1 ≤ (a0.size : Int) then ((strings_IndexByte.f (a0.extract (a1 : Int).toNat a0.size) 10).bind fun t129 => (if t129 ≥ 0 then (ok_words.j0 k a0 a1 (wrap64 (a1 + t129))) else (ok_words.j0 k a0 a1 (a0.size : Int)))) else (none)) else (none))
set_option maxHeartbeats 8000000 in
set_option maxRecDepth 100000 in
theorem ok_words.calls (k : Nat) (a0 : ByteArray) (a1 : Int) (r1 : List (S115)) (r2 : Int) (w : World) (h : ok_words.f k a0 a1 = some (r1, r2)) :
  Calls Tryd.prog 62 #[.string a0, .int .i64 a1] w fun e w' => ∃ v0_ : Value, e = .returned (.tuple #[v0_, .int .i64 r2]) ∧ Kd.R k115 115 w' w.heap.size (fun _ => True) v0_ r1 ∧ Below w.heap.size w w' := by
 have hu115 := Tryd.underlying115
 have HB := yA (Below.refl w.heap.size w)
 have H : (if 0 ≤ a1 then (if a1 ≤ (a0.size : Int) then ((strings_IndexByte.f (a0.extract (a1 : Int).toNat a0.size) 10).bind fun t129 => (if t129 ≥ 0 then (ok_words.j0 k a0 a1 (wrap64 (a1 + t129))) else (ok_words.j0 k a0 a1 (a0.size : Int)))) else (none)) else (none)) = some (r1, r2) := h
 clear h
 by_cases c3 : 0 ≤ a1
 ·rw [if_pos c3] at H
  have c3b0 := eq_true c3
  have c3b1 : decide (0 ≤ a1) = true := yL c3
  clear c3
  by_cases c4 : a1 ≤ (a0.size : Int)
  ·rw [if_pos c4] at H
   have c4b0 := eq_true c4
   have c4b1 : decide (a1 ≤ (a0.size : Int)) = true := yL c4
   clear c4
   replace H := Option.bind_eq_some_iff.mp H
   obtain ⟨t129, A50, H⟩ := H
   replace H : (if t129 ≥ 0 then (ok_words.j0 k a0 a1 (wrap64 (a1 + t129))) else (ok_words.j0 k a0 a1 (a0.size : Int))) = some (r1, r2) := H
   have A5 := yA A50
   clear A50
   have HC6 := yA H
   clear H
   go_enter Tryd.func62, Tryd.ntmps62
   go_wp2
   go_step3
   go_upto_if 18 with (first | ((with_reducible refine yO (f := 87) rfl ?_); refine goesL_ (some 16) rfl rfl Tryd.func87 (by kernel_rfl) rfl #[.string (a0.extract (a1 : Int).toNat a0.size), .int .u8 10] rfl (by (try simp only [List.map_toArray, List.map_cons, List.map_nil]); first | done | rfl | (simp only [List.length_drop, List.length_take]; rfl)) ?_; (with_reducible refine (strings_IndexByte.calls (a0.extract (a1 : Int).toNat a0.size) 10 t129 _ A5.out).mono ?_); rintro e w' ⟨rfl, ⟨nd, rfl⟩⟩; refine ⟨_, rfl, ?_⟩))
   (try simp only [Act.put, lA, lB, lC])
   go_cut [6] (fun v6 wc => ∃ (kq : Nat) (x6_5 : Int), v6 = .int .i64 x6_5 ∧ Aside0 (ok_words.j0 kq a0 a1 x6_5 = some (r1, r2)) ∧ Aside0 (kq ≤ k) ∧ Aside0 (Below w.heap.size w wc))
   case first =>
    have H := HC6.out
    clear HC6
    by_cases c7 : t129 ≥ 0
    ·rw [if_pos c7] at H
     have c7b0 : decide (0 ≤ t129) = true := yL c7
     clear c7
     (first | rw [c7b0] | (simp only [i64_w, i32_w]; rw [c7b0]) | skip)
     have H' := yA H
     clear H
     go_wp2
     go_meet
     case rel => exact ⟨_, (wrap64 (a1 + t129)), (by first | rfl | (simp; done) | (simp [*]; done)), H', ⟨by first | omega | exact Nat.le_refl _⟩, ⟨by repeat (first | (with_reducible first | exact HB.out | apply yE | apply yF | apply yD) | exact HB.out)⟩⟩
    ·rw [if_neg c7] at H
     have c7b0 : decide (0 ≤ t129) = false := yM c7
     clear c7
     (first | rw [c7b0] | (simp only [i64_w, i32_w]; rw [c7b0]) | skip)
     have H' := yA H
     clear H
     go_wp2
     go_meet
     case rel => exact ⟨_, ((a0.size : Int)), (by first | rfl | (simp; done) | (simp [*]; done)), H', ⟨by first | omega | exact Nat.le_refl _⟩, ⟨by repeat (first | (with_reducible first | exact HB.out | apply yE | apply yF | apply yD) | exact HB.out)⟩⟩
   case rest =>
    clear HC6; try clear p2; try clear c3; try clear c3b0; try clear c3b1; try clear c4; try clear c4b0; try clear c4b1; try clear c6; try clear p6; try clear c7; try clear c7b0
    obtain ⟨kq, x6_5, rfl, HA, HJ5, HB⟩ := hcut
    cases kq with
    | zero => exact absurd HA.out (by simp [ok_words.j0])
    | succ kj5 =>
     have H := HA.out
     clear HA
     simp only [ok_words.j0] at H
     have H' := yA H
     clear H
     go_wp2
     go_step3
     go_wp2
     go_loopg [8, 9] kj5 (fun kq v8 v9 w' => ∃ (x8_2 : List (S115)) (x9_2 : Int), v9 = .int .i64 x9_2 ∧ Aside0 (ok_words.l0 kq a0 x6_5 x8_2 x9_2 = some (r1, r2)) ∧ Aside0 (kq ≤ kj5) ∧ Aside0 (Kd.R k115 115 w' w.heap.size (fun _ => True) v8 x8_2) ∧ Aside0 (Below w.heap.size w w'))
     case atStart => exact ⟨(([] : List (S115))), (a1), (by first | rfl | (simp; done) | (simp [*]; done)), H', ⟨Nat.le_refl _⟩, ⟨by first | exact Kd.R_nil _ _ _ _ _ | exact Kd.N_nil _ _ _ _ _ | exact Kd.V_nil _ _ _ _ _ | exact Kd.Q_nil _ _ _ _ _ | exact Kd.S_nil _ _ _ _ _⟩, ⟨by repeat (first | (with_reducible first | exact HB.out | apply yE | apply yF | apply yD) | exact HB.out)⟩⟩
     case round =>
      clear H'
      try clear p2; try clear c3; try clear c3b0; try clear c3b1; try clear c4; try clear c4b0; try clear c4b1; try clear c6; try clear p6; try clear c7; try clear c7b0; try clear p2; try clear p6
      obtain ⟨x8_2, x9_2, rfl, HA, HK2, HO_8, HB⟩ := hrel
      cases gk with
      | zero => exact absurd HA.out (by simp [ok_words.l0])
      | succ k2 =>
       have H := HA.out
       clear HA
       simp only [ok_words.l0] at H
       by_cases c8 : x9_2 < x6_5
       ·rw [if_pos c8] at H
        have c8b0 : decide (x9_2 < x6_5) = true := yL c8
        clear c8
        by_cases c9 : 0 ≤ x9_2
        ·rw [if_pos c9] at H
         have c9b0 : decide (0 ≤ x9_2) = true := yL c9
         clear c9
         by_cases c10 : x9_2 < (a0.size : Int)
         ·rw [if_pos c10] at H
          have c10b0 : decide (x9_2 < (a0.size : Int)) = true := yL c10
          clear c10
          by_cases c12 : (bt a0 x9_2) = 35
          ·rw [if_pos c12] at H
           exact absurd H (by simp)
          ·rw [if_neg c12] at H
           have c12b0 : ((bt a0 x9_2) == 35) = false := beq_eq_false_iff_ne.mpr c12
           have c12b1 : ((bt a0 x9_2) != 35) = true := bne_iff_ne.mpr c12
           replace H := Option.bind_eq_some_iff.mp H
           obtain ⟨t130, A140, H⟩ := H
           replace H : (if t130 = true then (ok_words.l0 k2 a0 x6_5 x8_2 (wrap64 (x9_2 + 1))) else (ok_words.l1 k2 a0 x6_5 x8_2 x9_2 x9_2)) = some (r1, r2) := H
           have A14 := yA A140
           clear A140
           by_cases c15 : t130 = true
           ·subst c15
            have H1 : (ok_words.l0 k2 a0 x6_5 x8_2 (wrap64 (x9_2 + 1))) = some (r1, r2) := by rw [if_pos rfl] at H; exact H
            clear H
            have H := H1
            clear H1
            have H' := yA H
            clear H
            have p11 : 0 ≤ (x9_2 : Int) := yN (by first | (with_reducible assumption) | assumption)
            have q11 : x9_2 < (a0.size : Int) := yN (by first | (with_reducible assumption) | assumption)
            have hx11 := bt_at a0 x9_2
            replace p11 := eq_true p11
            replace q11 := eq_true q11
            have p13 : 0 ≤ (x9_2 : Int) := yN (by first | (with_reducible assumption) | assumption)
            have q13 : x9_2 < (a0.size : Int) := yN (by first | (with_reducible assumption) | assumption)
            have hx13 := bt_at a0 x9_2
            replace p13 := eq_true p13
            replace q13 := eq_true q13
            go_wp2_with (first | ((with_reducible refine yO (f := 88) rfl ?_); refine goesL_ (some 35) rfl rfl Tryd.func88 (by kernel_rfl) rfl #[.int .u8 (bt a0 x9_2)] rfl (by (try simp only [List.map_toArray, List.map_cons, List.map_nil]); first | done | rfl | (simp only [List.length_drop, List.length_take]; rfl)) ?_; (with_reducible refine (table_blank.calls (bt a0 x9_2) true _ A14.out).mono ?_); rintro e w' ⟨rfl, ⟨nd, rfl⟩⟩; refine ⟨_, rfl, ?_⟩))
            go_roundg k2
            case measure => have := HJ5.out; have := HK2.out; omega
            case rel => exact ⟨(x8_2), (wrap64 (x9_2 + 1)), (by first | rfl | (simp; done) | (simp [*]; done)), H', ⟨by have := HJ5.out; have := HK2.out; omega⟩, ⟨by (with_reducible repeat (first | apply Kd.R_alloc | apply Kd.R_drewN | apply Kd.R_drew)); exact HO_8.out⟩, ⟨by repeat (first | (with_reducible first | exact HB.out | apply yE | apply yF | apply yD) | exact HB.out)⟩⟩
           ·replace c15 := Bool.eq_false_iff.mpr c15
            subst c15
            have H1 : (ok_words.l1 k2 a0 x6_5 x8_2 x9_2 x9_2) = some (r1, r2) := by rw [if_neg (show ¬ (false = true) by decide)] at H; exact H
            clear H
            have H := H1
            clear H1
            have H' := yA H
            clear H
            have p11 : 0 ≤ (x9_2 : Int) := yN (by first | (with_reducible assumption) | assumption)
            have q11 : x9_2 < (a0.size : Int) := yN (by first | (with_reducible assumption) | assumption)
            have hx11 := bt_at a0 x9_2
            replace p11 := eq_true p11
            replace q11 := eq_true q11
            have p13 : 0 ≤ (x9_2 : Int) := yN (by first | (with_reducible assumption) | assumption)
            have q13 : x9_2 < (a0.size : Int) := yN (by first | (with_reducible assumption) | assumption)
            have hx13 := bt_at a0 x9_2
            replace p13 := eq_true p13
            replace q13 := eq_true q13
            go_wp2_with (first | ((with_reducible refine yO (f := 88) rfl ?_); refine goesL_ (some 35) rfl rfl Tryd.func88 (by kernel_rfl) rfl #[.int .u8 (bt a0 x9_2)] rfl (by (try simp only [List.map_toArray, List.map_cons, List.map_nil]); first | done | rfl | (simp only [List.length_drop, List.length_take]; rfl)) ?_; (with_reducible refine (table_blank.calls (bt a0 x9_2) false _ A14.out).mono ?_); rintro e w' ⟨rfl, ⟨nd, rfl⟩⟩; refine ⟨_, rfl, ?_⟩))
            go_loopg [10] k2 (fun kq v10 w' => ∃ (x10_3 : Int), v10 = .int .i64 x10_3 ∧ Aside0 (ok_words.l1 kq a0 x6_5 x8_2 x9_2 x10_3 = some (r1, r2)) ∧ Aside0 (kq ≤ k2) ∧ Aside0 (Kd.R k115 115 w' w.heap.size (fun _ => True) u8 x8_2) ∧ Aside0 (Below w.heap.size w w'))
            case atStart => exact ⟨(x9_2), (by first | rfl | (simp; done) | (simp [*]; done)), H', ⟨Nat.le_refl _⟩, ⟨by (with_reducible repeat (first | apply Kd.R_alloc | apply Kd.R_drewN | apply Kd.R_drew)); exact HO_8.out⟩, ⟨by repeat (first | (with_reducible first | exact HB.out | apply yE | apply yF | apply yD) | exact HB.out)⟩⟩
            case round =>
             clear H'
             try clear c1; try clear p1; try clear q1; try clear hx1; try clear p2; try clear c3; try clear c3b0; try clear c3b1; try clear c4; try clear c4b0; try clear c4b1; try clear c6; try clear p6; try clear c7; try clear c7b0; try clear c8; try clear c8b0; try clear c9; try clear c9b0; try clear c10; try clear c10b0; try clear p11; try clear q11; try clear hx11; try clear c12; try clear c12b0; try clear c12b1; try clear p13; try clear q13; try clear hx13; try clear c15; try clear p11; try clear p13; try clear p2; try clear p6; try clear q11; try clear q13
             obtain ⟨x10_3, rfl, HA, HK3, HO_8, HB⟩ := hrel
             cases gk with
             | zero => exact absurd HA.out (by simp [ok_words.l1])
             | succ k3 =>
              have H := HA.out
              clear HA
              simp only [ok_words.l1] at H
              by_cases c16 : x10_3 < x6_5
              ·rw [if_pos c16] at H
               have c16b0 : decide (x10_3 < x6_5) = true := yL c16
               clear c16
               by_cases c17 : 0 ≤ x10_3
               ·rw [if_pos c17] at H
                have c17b0 : decide (0 ≤ x10_3) = true := yL c17
                clear c17
                by_cases c18 : x10_3 < (a0.size : Int)
                ·rw [if_pos c18] at H
                 have c18b0 : decide (x10_3 < (a0.size : Int)) = true := yL c18
                 clear c18
                 replace H := Option.bind_eq_some_iff.mp H
                 obtain ⟨t131, A200, H⟩ := H
                 replace H : (if t131 = true then (if 0 ≤ x9_2 then (if x9_2 ≤ x10_3 then (if x10_3 ≤ (a0.size : Int) then (if x8_2.length < 5864062014805 then (ok_words.l0 k3 a0 x6_5 (x8_2 ++ [(⟨a0.extract (x9_2 : Int).toNat (x10_3 : Int).toNat, x9_2⟩ : S115)]) x10_3) else (none)) else (none)) else (none)) else (none)) else (if (bt a0 x10_3) = 35 then (none) else (ok_words.l1 k3 a0 x6_5 x8_2 x9_2 (wrap64 (x10_3 + 1))))) = some (r1, r2) := H
                 have A20 := yA A200
                 clear A200
                 by_cases c21 : t131 = true
                 ·subst c21
                  have H1 : (if 0 ≤ x9_2 then (if x9_2 ≤ x10_3 then (if x10_3 ≤ (a0.size : Int) then (if x8_2.length < 5864062014805 then (ok_words.l0 k3 a0 x6_5 (x8_2 ++ [(⟨a0.extract (x9_2 : Int).toNat (x10_3 : Int).toNat, x9_2⟩ : S115)]) x10_3) else (none)) else (none)) else (none)) else (none)) = some (r1, r2) := by rw [if_pos rfl] at H; exact H
                  clear H
                  have H := H1
                  clear H1
                  by_cases c22 : 0 ≤ x9_2
                  ·rw [if_pos c22] at H
                   have c22b0 := eq_true c22
                   have c22b1 : decide (0 ≤ x9_2) = true := yL c22
                   clear c22
                   by_cases c23 : x9_2 ≤ x10_3
                   ·rw [if_pos c23] at H
                    have c23b0 := eq_true c23
                    have c23b1 : decide (x9_2 ≤ x10_3) = true := yL c23
                    clear c23
                    by_cases c24 : x10_3 ≤ (a0.size : Int)
                    ·rw [if_pos c24] at H
                     have c24b0 := eq_true c24
                     have c24b1 : decide (x10_3 ≤ (a0.size : Int)) = true := yL c24
                     clear c24
                     by_cases c25 : x8_2.length < 5864062014805
                     ·rw [if_pos c25] at H
                      have LMc25 := yA c25
                      clear c25
                      obtain ⟨y132, hy132⟩ : ∃ y_ : List (S115), y_ = (x8_2 ++ [(⟨a0.extract (x9_2 : Int).toNat (x10_3 : Int).toNat, x9_2⟩ : S115)]) := ⟨_, rfl⟩
                      replace H : (ok_words.l0 k3 a0 x6_5 y132 x10_3) = some (r1, r2) := by first | (rw [hy132]; with_reducible exact H) | (have H2_ := (Option.bind_some _ _).symm.trans H; rw [hy132]; with_reducible exact H2_) | (have H2_ := (Option.bind_some _ _).symm.trans H; with_reducible exact H2_) | with_reducible exact H | (rw [hy132]; exact H) | exact H
                      have Ny132 := yA hy132
                      clear hy132
                      have H' := yA H
                      clear H
                      have p19 : 0 ≤ (x10_3 : Int) := yN (by first | (with_reducible assumption) | assumption)
                      have q19 : x10_3 < (a0.size : Int) := yN (by first | (with_reducible assumption) | assumption)
                      have hx19 := bt_at a0 x10_3
                      replace p19 := eq_true p19
                      replace q19 := eq_true q19
                      go_wp2_with (first | (go_at_call 88; (with_reducible refine (table_blank.calls (bt a0 x10_3) true _ A20.out).mono ?_); rintro e w' ⟨rfl, ⟨nd, rfl⟩⟩) | ((with_reducible refine gate_builtin (b := .append) (xs := #[.tmp 57, .tmp 64]) rfl ?_); at_builtin; refine Kd.R_append k115 (w0 := w) w.heap.size rfl (.tmp 57) (.tmp 64) 108 115 (.agg #[(.string ⟨#[]⟩), (.int .i64 0)]) 24 rfl Tryd.underlying108 info115 rfl (by decide) (by omega) u8 x8_2 (⟨a0.extract (x9_2 : Int).toNat (x10_3 : Int).toNat, x9_2⟩ : S115) [.string (a0.extract (x9_2 : Int).toNat (x10_3 : Int).toNat), .int .i64 x9_2] (fun _ => True) (fun _ => False) rfl rfl ?aP (fun _ hk => hk.elim) ?aF ?aO ?aB ?aS ?aL ?_; (case aP => exact k115_mkM _ _ _ (⟨a0.extract (x9_2 : Int).toNat (x10_3 : Int).toNat, x9_2⟩ : S115)); (case aB => exact (by repeat (first | (with_reducible first | exact HB.out | apply yE | apply yF | apply yD) | exact HB.out))); (case aF => exact (fun _ _ => trivial)); (case aO => exact (by (with_reducible repeat (first | apply Kd.R_alloc | apply Kd.R_drewN | apply Kd.R_drew)); exact HO_8.out)); (case aS => exact (below_size (by repeat (first | (with_reducible first | exact HB.out | apply yE | apply yF | apply yD) | exact HB.out)))); (case aL => have := LMc25.out; omega); intro v133 w26 ho hb hg hat; rw [← Ny132.out] at ho; have n0_ := yA (hb); have n1_ := yA (ho); clear HB; clear HO_8; have HB := n0_; have HO134 := n1_; clear n0_ n1_; clear ho hb hg hat))
                      go_roundg k3
                      case measure => have := HJ5.out; have := HK2.out; have := HK3.out; omega
                      case rel => exact ⟨(y132), (x10_3), (by first | rfl | (simp; done) | (simp [*]; done)), H', ⟨by have := HJ5.out; have := HK2.out; have := HK3.out; omega⟩, ⟨by (with_reducible repeat (first | apply Kd.R_alloc | apply Kd.R_drewN | apply Kd.R_drew)); exact HO134.out⟩, ⟨by repeat (first | (with_reducible first | exact HB.out | apply yE | apply yF | apply yD) | exact HB.out)⟩⟩
                     ·rw [if_neg c25] at H
                      exact absurd H (by simp)
                    ·rw [if_neg c24] at H
                     exact absurd H (by simp)
                   ·rw [if_neg c23] at H
                    exact absurd H (by simp)
                  ·rw [if_neg c22] at H
                   exact absurd H (by simp)
                 ·replace c21 := Bool.eq_false_iff.mpr c21
                  subst c21
                  have H1 : (if (bt a0 x10_3) = 35 then (none) else (ok_words.l1 k3 a0 x6_5 x8_2 x9_2 (wrap64 (x10_3 + 1)))) = some (r1, r2) := by rw [if_neg (show ¬ (false = true) by decide)] at H; exact H
                  clear H
                  have H := H1
                  clear H1
                  by_cases c28 : (bt a0 x10_3) = 35
                  ·rw [if_pos c28] at H
                   exact absurd H (by simp)
                  ·rw [if_neg c28] at H
                   have c28b0 : ((bt a0 x10_3) == 35) = false := beq_eq_false_iff_ne.mpr c28
                   have c28b1 : ((bt a0 x10_3) != 35) = true := bne_iff_ne.mpr c28
                   have H' := yA H
                   clear H
                   have p19 : 0 ≤ (x10_3 : Int) := yN (by first | (with_reducible assumption) | assumption)
                   have q19 : x10_3 < (a0.size : Int) := yN (by first | (with_reducible assumption) | assumption)
                   have hx19 := bt_at a0 x10_3
                   replace p19 := eq_true p19
                   replace q19 := eq_true q19
                   go_wp2_with (first | (go_at_call 88; (with_reducible refine (table_blank.calls (bt a0 x10_3) false _ A20.out).mono ?_); rintro e w' ⟨rfl, ⟨nd, rfl⟩⟩; have p27 : 0 ≤ (x10_3 : Int) := yN (by first | (with_reducible assumption) | assumption); have q27 : x10_3 < (a0.size : Int) := yN (by first | (with_reducible assumption) | assumption); have hx27 := bt_at a0 x10_3; replace p27 := eq_true p27; replace q27 := eq_true q27))
                   go_roundg k3
                   case measure => have := HJ5.out; have := HK2.out; have := HK3.out; omega
                   case rel => exact ⟨(wrap64 (x10_3 + 1)), (by first | rfl | (simp; done) | (simp [*]; done)), H', ⟨by have := HJ5.out; have := HK2.out; have := HK3.out; omega⟩, ⟨by (with_reducible repeat (first | apply Kd.R_alloc | apply Kd.R_drewN | apply Kd.R_drew)); exact HO_8.out⟩, ⟨by repeat (first | (with_reducible first | exact HB.out | apply yE | apply yF | apply yD) | exact HB.out)⟩⟩
                ·rw [if_neg c18] at H
                 exact absurd H (by simp)
               ·rw [if_neg c17] at H
                exact absurd H (by simp)
              ·rw [if_neg c16] at H
               have c16b0 : decide (x10_3 < x6_5) = false := yM c16
               clear c16
               by_cases c34 : 0 ≤ x9_2
               ·rw [if_pos c34] at H
                have c34b0 := eq_true c34
                have c34b1 : decide (0 ≤ x9_2) = true := yL c34
                clear c34
                by_cases c35 : x9_2 ≤ x10_3
                ·rw [if_pos c35] at H
                 have c35b0 := eq_true c35
                 have c35b1 : decide (x9_2 ≤ x10_3) = true := yL c35
                 clear c35
                 by_cases c36 : x10_3 ≤ (a0.size : Int)
                 ·rw [if_pos c36] at H
                  have c36b0 := eq_true c36
                  have c36b1 : decide (x10_3 ≤ (a0.size : Int)) = true := yL c36
                  clear c36
                  by_cases c37 : x8_2.length < 5864062014805
                  ·rw [if_pos c37] at H
                   have LMc37 := yA c37
                   clear c37
                   obtain ⟨y138, hy138⟩ : ∃ y_ : List (S115), y_ = (x8_2 ++ [(⟨a0.extract (x9_2 : Int).toNat (x10_3 : Int).toNat, x9_2⟩ : S115)]) := ⟨_, rfl⟩
                   replace H : (ok_words.l0 k3 a0 x6_5 y138 x10_3) = some (r1, r2) := by first | (rw [hy138]; with_reducible exact H) | (have H2_ := (Option.bind_some _ _).symm.trans H; rw [hy138]; with_reducible exact H2_) | (have H2_ := (Option.bind_some _ _).symm.trans H; with_reducible exact H2_) | with_reducible exact H | (rw [hy138]; exact H) | exact H
                   have Ny138 := yA hy138
                   clear hy138
                   have H' := yA H
                   clear H
                   go_wp2_with (first | ((with_reducible refine gate_builtin (b := .append) (xs := #[.tmp 57, .tmp 64]) rfl ?_); at_builtin; refine Kd.R_append k115 (w0 := w) w.heap.size rfl (.tmp 57) (.tmp 64) 108 115 (.agg #[(.string ⟨#[]⟩), (.int .i64 0)]) 24 rfl Tryd.underlying108 info115 rfl (by decide) (by omega) u8 x8_2 (⟨a0.extract (x9_2 : Int).toNat (x10_3 : Int).toNat, x9_2⟩ : S115) [.string (a0.extract (x9_2 : Int).toNat (x10_3 : Int).toNat), .int .i64 x9_2] (fun _ => True) (fun _ => False) rfl rfl ?aP (fun _ hk => hk.elim) ?aF ?aO ?aB ?aS ?aL ?_; (case aP => exact k115_mkM _ _ _ (⟨a0.extract (x9_2 : Int).toNat (x10_3 : Int).toNat, x9_2⟩ : S115)); (case aB => exact (by repeat (first | (with_reducible first | exact HB.out | apply yE | apply yF | apply yD) | exact HB.out))); (case aF => exact (fun _ _ => trivial)); (case aO => exact (by (with_reducible repeat (first | apply Kd.R_alloc | apply Kd.R_drewN | apply Kd.R_drew)); exact HO_8.out)); (case aS => exact (below_size (by repeat (first | (with_reducible first | exact HB.out | apply yE | apply yF | apply yD) | exact HB.out)))); (case aL => have := LMc37.out; omega); intro v139 w38 ho hb hg hat; rw [← Ny138.out] at ho; have n0_ := yA (hb); have n1_ := yA (ho); clear HB; clear HO_8; have HB := n0_; have HO140 := n1_; clear n0_ n1_; clear ho hb hg hat))
                   go_roundg k3
                   case measure => have := HJ5.out; have := HK2.out; have := HK3.out; omega
                   case rel => exact ⟨(y138), (x10_3), (by first | rfl | (simp; done) | (simp [*]; done)), H', ⟨by have := HJ5.out; have := HK2.out; have := HK3.out; omega⟩, ⟨by (with_reducible repeat (first | apply Kd.R_alloc | apply Kd.R_drewN | apply Kd.R_drew)); exact HO140.out⟩, ⟨by repeat (first | (with_reducible first | exact HB.out | apply yE | apply yF | apply yD) | exact HB.out)⟩⟩
                  ·rw [if_neg c37] at H
                   exact absurd H (by simp)
                 ·rw [if_neg c36] at H
                  exact absurd H (by simp)
                ·rw [if_neg c35] at H
                 exact absurd H (by simp)
               ·rw [if_neg c34] at H
                exact absurd H (by simp)
         ·rw [if_neg c10] at H
          exact absurd H (by simp)
        ·rw [if_neg c9] at H
         exact absurd H (by simp)
       ·rw [if_neg c8] at H
        have c8b0 : decide (x9_2 < x6_5) = false := yM c8
        clear c8
        simp only [Option.some.injEq, Prod.mk.injEq] at H
        obtain ⟨rfl, rfl⟩ := H
        go_wp2
        (try rw [Exit.noGoto_ret])
        go_ret2
        exact ⟨_, by first | rfl | (simp [errW_none, errW_some] <;> rfl) | (simp [*, errW_none, errW_some] <;> rfl), by (with_reducible repeat (first | apply Kd.R_alloc | apply Kd.R_drewN | apply Kd.R_drew)); exact HO_8.out, by repeat (first | (with_reducible first | exact HB.out | apply yE | apply yF | apply yD) | exact HB.out)⟩
  ·rw [if_neg c4] at H
   exact absurd H (by simp)
 ·rw [if_neg c3] at H
  exact absurd H (by simp)
end Go.Proofs.YtppojbafagneeaaDoor.PTab
