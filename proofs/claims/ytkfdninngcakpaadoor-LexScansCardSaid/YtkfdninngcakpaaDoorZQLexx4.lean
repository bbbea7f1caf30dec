/- Own text, for this claim: lex.Scan, after the text that the kit's printer writes. -/
import Derived.Test.YtkfdninngcakpaaDoorZQLexx3
import Derived.WalkMore
import Derived.Deep.DeepMust
import Derived.Outline
import Derived.Deep.RegionWith
namespace Go.Proofs.YtkfdninngcakpaaDoor.PLex
open Go.RowKit Go.Proofs.YtkfdninngcakpaaDoorW.PrintWords Go.Proofs.YtkfdninngcakpaaDoorW.PrintLast Go.Proofs.YtkfdninngcakpaaDoorW.PrintMore
attribute [local go_sem] max2_int min2_int max_two min_two max_three min_three max_four min_four
set_option linter.unusedVariables false
set_option linter.unusedSimpArgs false
mutual
def lex_Scan.l0 : Nat → ByteArray → List (S32) → Int → Option ((List (S32)) × Int × Int)
 | 0, _, _, _ => none
 | k + 1, x0, x5, x6 => if x6 < (x0.size : Int) then (if 0 ≤ x6 then (if (bt x0 x6) = 32 then (lex_Scan.j1 k x0 x5 x6 (bt x0 x6) ((bt x0 x6) == 32)) else (if (bt x0 x6) = 9 then (lex_Scan.j1 k x0 x5 x6 (bt x0 x6) ((bt x0 x6) == 9)) else (if (bt x0 x6) = 10 then (lex_Scan.j1 k x0 x5 x6 (bt x0 x6) ((bt x0 x6) == 10)) else (lex_Scan.j1 k x0 x5 x6 (bt x0 x6) ((bt x0 x6) == 13))))) else (none)) else (some (x5, 0, 0))
def lex_Scan.j1 : Nat → ByteArray → List (S32) → Int → Int → Bool → Option ((List (S32)) × Int × Int)
 | 0, _, _, _, _, _ => none
 | k + 1, x0, x5, x6, x19, x20 => if x20 = true then (lex_Scan.l0 k x0 x5 (wrap64 (x6 + 1))) else (if x19 = 35 then (lex_Scan.l1 k x0 x5 x6) else (if 0 ≤ x6 then (if x6 ≤ (x0.size : Int) then ((lex_token.f k (x0.extract (x6 : Int).toNat x0.size)).bind fun bt198 => (if bt198.2.2.2.2.2.2.2.2.2.2 = 0 then (if x5.length < 1759218604441 then (lex_Scan.l0 k x0 (x5 ++ [(⟨bt198.1, bt198.2.1, x6, bt198.2.2.2.1, (⟨bt198.2.2.2.2.1, bt198.2.2.2.2.2.1, bt198.2.2.2.2.2.2.1⟩ : S28), (⟨bt198.2.2.2.2.2.2.2.1, bt198.2.2.2.2.2.2.2.2.1⟩ : S30)⟩ : S32)]) (wrap64 (x6 + (bt198.2.1.size : Int)))) else (none)) else (some (x5, wrap64 (x6 + bt198.2.2.2.2.2.2.2.2.2.1), bt198.2.2.2.2.2.2.2.2.2.2)))) else (none)) else (none)))
def lex_Scan.l1 : Nat → ByteArray → List (S32) → Int → Option ((List (S32)) × Int × Int)
 | 0, _, _, _ => none
 | k + 1, x0, x5, x6 => if x6 < (x0.size : Int) then (if 0 ≤ x6 then (if (bt x0 x6) = 10 then (lex_Scan.l0 k x0 x5 x6) else (lex_Scan.l1 k x0 x5 (wrap64 (x6 + 1)))) else (none)) else (lex_Scan.l0 k x0 x5 x6)
end
def lex_Scan.f (k : Nat) (a0 : ByteArray) : Option ((List (S32)) × Int × Int) := if (a0.size : Int) > 65536 then (some (([] : List (S32)), 0, 6)) else (lex_Scan.l0 k a0 ([] : List (S32)) 0)
set_option maxHeartbeats 8000000 in
set_option maxRecDepth 100000 in
theorem lex_Scan.calls (k : Nat) (a0 : ByteArray) (r1 : List (S32)) (r2 : Int) (r3 : Int) (w : World) (h : lex_Scan.f k a0 = some (r1, r2, r3)) (hG : Pure.Gl w) :
  Calls Tryd.prog 10 #[.string a0] w fun e w' => ∃ v0_ : Value, e = .returned (.tuple #[v0_, .int .i64 r2, .int .i64 r3]) ∧ Kd.R k32 32 w' w.heap.size (fun _ => True) v0_ r1 ∧ Below w.heap.size w w' := by
 have HG := yA hG
 clear hG
 have hu32 := Tryd.underlying32
 have HB := yA (Below.refl w.heap.size w)
 have H : (if (a0.size : Int) > 65536 then (some (([] : List (S32)), 0, 6)) else (lex_Scan.l0 k a0 ([] : List (S32)) 0)) = some (r1, r2, r3) := h
 clear h
 by_cases c2 : (a0.size : Int) > 65536
 ·rw [if_pos c2] at H
  have c2b0 : decide (65536 < (a0.size : Int)) = true := yL c2
  have c2b1 : decide (65536 < a0.size) = true := yL (by omega)
  clear c2
  simp only [Option.some.injEq, Prod.mk.injEq] at H
  obtain ⟨rfl, rfl, rfl⟩ := H
  go_enter Tryd.func10, Tryd.ntmps10
  go_wp2
  go_step3
  go_wp2
  (try rw [Exit.noGoto_ret])
  go_ret3
  exact ⟨_, by first | rfl | (simp [errW_none, errW_some] <;> rfl) | (simp [*, errW_none, errW_some] <;> rfl), by first | exact Kd.R_nil _ _ _ _ _ | exact Kd.N_nil _ _ _ _ _ | exact Kd.V_nil _ _ _ _ _ | exact Kd.Q_nil _ _ _ _ _ | exact Kd.S_nil _ _ _ _ _, by repeat (first | (with_reducible first | exact HB.out | apply yE | apply yF | apply yD) | exact HB.out)⟩
 ·rw [if_neg c2] at H
  have c2b0 : decide (65536 < (a0.size : Int)) = false := yM c2
  have c2b1 : decide (65536 < a0.size) = false := yM (by omega)
  clear c2
  have H' := yA H
  clear H
  go_enter Tryd.func10, Tryd.ntmps10
  go_wp2
  go_step3
  go_wp2
  go_step3
  go_wp2
  go_loopg [5, 6] k (fun kq v5 v6 w' => ∃ (x5_1 : List (S32)) (x6_1 : Int), v6 = .int .i64 x6_1 ∧ Aside0 (lex_Scan.l0 kq a0 x5_1 x6_1 = some (r1, r2, r3)) ∧ Aside0 (kq ≤ k) ∧ Aside0 (Kd.R k32 32 w' w.heap.size (fun _ => True) v5 x5_1) ∧ Aside0 (Below w.heap.size w w'))
  case atStart => exact ⟨(([] : List (S32))), (0), (by first | rfl | (simp; done) | (simp [*]; done)), H', ⟨Nat.le_refl _⟩, ⟨by first | exact Kd.R_nil _ _ _ _ _ | exact Kd.N_nil _ _ _ _ _ | exact Kd.V_nil _ _ _ _ _ | exact Kd.Q_nil _ _ _ _ _ | exact Kd.S_nil _ _ _ _ _⟩, ⟨by repeat (first | (with_reducible first | exact HB.out | apply yE | apply yF | apply yD) | exact HB.out)⟩⟩
  case round =>
   clear H'
   try clear c1
   try clear c2
   try clear c2b0
   try clear c2b1
   try clear p2
   obtain ⟨x5_1, x6_1, rfl, HA, HK1, HO_5, HB⟩ := hrel
   cases gk with
   | zero => exact absurd HA.out (by simp [lex_Scan.l0])
   | succ k1 =>
    have H := HA.out
    clear HA
    simp only [lex_Scan.l0] at H
    by_cases c3 : x6_1 < (a0.size : Int)
    ·rw [if_pos c3] at H
     have c3b0 : decide (x6_1 < (a0.size : Int)) = true := yL c3
     clear c3
     by_cases c4 : 0 ≤ x6_1
     ·rw [if_pos c4] at H
      have c4b0 : decide (0 ≤ x6_1) = true := yL c4
      clear c4
      have HC6 := yA H
      clear H
      have p5 : 0 ≤ (x6_1 : Int) := yN (by first | (with_reducible assumption) | assumption)
      have q5 : x6_1 < (a0.size : Int) := yN (by first | (with_reducible assumption) | assumption)
      have hx5 := bt_at a0 x6_1
      replace p5 := eq_true p5
      replace q5 := eq_true q5
      go_upto_if 20 with (fail)
      go_cut [20] (fun v20 wc => ∃ (kq : Nat) (x20_5 : Bool), v20 = .bool x20_5 ∧ Aside0 (lex_Scan.j1 kq a0 x5_1 x6_1 (bt a0 x6_1) x20_5 = some (r1, r2, r3)) ∧ Aside0 (kq ≤ k1) ∧ Aside0 (Kd.R k32 32 wc w.heap.size (fun _ => True) u5 x5_1) ∧ Aside0 (Below w.heap.size w wc))
      case first =>
       have H := HC6.out
       clear HC6
       by_cases c7 : (bt a0 x6_1) = 32
       ·rw [if_pos c7] at H
        have c7b0 : ((bt a0 x6_1) == 32) = true := beq_iff_eq.mpr c7
        have c7b1 : ((bt a0 x6_1) != 32) = false := bne_eq_false_iff_eq.mpr c7
        clear c7
        (first | rw [c7b0] | (simp only [i64_w, i32_w]; rw [c7b0]) | skip)
        have H' := yA H
        clear H
        go_wp2
        go_meet
        case rel => exact ⟨_, (((bt a0 x6_1) == 32)), (by first | rfl | (simp; done) | (simp [*]; done)), H', ⟨by have := HK1.out; first | omega | exact Nat.le_refl _⟩, ⟨by (with_reducible repeat (first | apply Kd.R_alloc | apply Kd.R_drewN | apply Kd.R_drew)); exact HO_5.out⟩, ⟨by repeat (first | (with_reducible first | exact HB.out | apply yE | apply yF | apply yD) | exact HB.out)⟩⟩
       ·rw [if_neg c7] at H
        have c7b0 : ((bt a0 x6_1) == 32) = false := beq_eq_false_iff_ne.mpr c7
        have c7b1 : ((bt a0 x6_1) != 32) = true := bne_iff_ne.mpr c7
        (first | rw [c7b0] | (simp only [i64_w, i32_w]; rw [c7b0]) | skip)
        by_cases c8 : (bt a0 x6_1) = 9
        ·rw [if_pos c8] at H
         have c8b0 : ((bt a0 x6_1) == 9) = true := beq_iff_eq.mpr c8
         have c8b1 : ((bt a0 x6_1) != 9) = false := bne_eq_false_iff_eq.mpr c8
         clear c8
         have H' := yA H
         clear H
         go_wp2
         go_meet
         case rel => exact ⟨_, (((bt a0 x6_1) == 9)), (by first | rfl | (simp; done) | (simp [*]; done)), H', ⟨by have := HK1.out; first | omega | exact Nat.le_refl _⟩, ⟨by (with_reducible repeat (first | apply Kd.R_alloc | apply Kd.R_drewN | apply Kd.R_drew)); exact HO_5.out⟩, ⟨by repeat (first | (with_reducible first | exact HB.out | apply yE | apply yF | apply yD) | exact HB.out)⟩⟩
        ·rw [if_neg c8] at H
         have c8b0 : ((bt a0 x6_1) == 9) = false := beq_eq_false_iff_ne.mpr c8
         have c8b1 : ((bt a0 x6_1) != 9) = true := bne_iff_ne.mpr c8
         by_cases c9 : (bt a0 x6_1) = 10
         ·rw [if_pos c9] at H
          have c9b0 : ((bt a0 x6_1) == 10) = true := beq_iff_eq.mpr c9
          have c9b1 : ((bt a0 x6_1) != 10) = false := bne_eq_false_iff_eq.mpr c9
          clear c9
          have H' := yA H
          clear H
          go_wp2
          go_meet
          case rel => exact ⟨_, (((bt a0 x6_1) == 10)), (by first | rfl | (simp; done) | (simp [*]; done)), H', ⟨by have := HK1.out; first | omega | exact Nat.le_refl _⟩, ⟨by (with_reducible repeat (first | apply Kd.R_alloc | apply Kd.R_drewN | apply Kd.R_drew)); exact HO_5.out⟩, ⟨by repeat (first | (with_reducible first | exact HB.out | apply yE | apply yF | apply yD) | exact HB.out)⟩⟩
         ·rw [if_neg c9] at H
          have c9b0 : ((bt a0 x6_1) == 10) = false := beq_eq_false_iff_ne.mpr c9
          have c9b1 : ((bt a0 x6_1) != 10) = true := bne_iff_ne.mpr c9
          have H' := yA H
          clear H
          go_wp2
          go_meet
          case rel => exact ⟨_, (((bt a0 x6_1) == 13)), (by first | rfl | (simp; done) | (simp [*]; done)), H', ⟨by have := HK1.out; first | omega | exact Nat.le_refl _⟩, ⟨by (with_reducible repeat (first | apply Kd.R_alloc | apply Kd.R_drewN | apply Kd.R_drew)); exact HO_5.out⟩, ⟨by repeat (first | (with_reducible first | exact HB.out | apply yE | apply yF | apply yD) | exact HB.out)⟩⟩
      case rest =>
       clear HC6
       try clear c1
       try clear c2
       try clear c2b0
       try clear c2b1
       try clear p2
       try clear c3
       try clear c3b0
       try clear c4
       try clear c4b0
       try clear p5
       try clear q5
       try clear hx5
       try clear c7
       try clear c7b0
       try clear c7b1
       try clear c8
       try clear c8b0
       try clear c8b1
       try clear c9
       try clear c9b0
       try clear c9b1
       try clear p2
       try clear p5
       try clear q5
       obtain ⟨kq, x20_5, rfl, HA, HJ5, HO_5, HB⟩ := hcut
       cases kq with
       | zero => exact absurd HA.out (by simp [lex_Scan.j1])
       | succ kj5 =>
        have H := HA.out
        clear HA
        simp only [lex_Scan.j1] at H
        by_cases c10 : x20_5 = true
        ·subst c10
         have H1 : (lex_Scan.l0 kj5 a0 x5_1 (wrap64 (x6_1 + 1))) = some (r1, r2, r3) := by rw [if_pos rfl] at H; exact H
         clear H
         have H := H1
         clear H1
         have H' := yA H
         clear H
         go_wp2
         go_roundg kj5
         case measure => have := HK1.out; have := HJ5.out; omega
         case rel => exact ⟨(x5_1), (wrap64 (x6_1 + 1)), (by first | rfl | (simp; done) | (simp [*]; done)), H', ⟨by have := HK1.out; have := HJ5.out; omega⟩, ⟨by (with_reducible repeat (first | apply Kd.R_alloc | apply Kd.R_drewN | apply Kd.R_drew)); exact HO_5.out⟩, ⟨by repeat (first | (with_reducible first | exact HB.out | apply yE | apply yF | apply yD) | exact HB.out)⟩⟩
        ·replace c10 := Bool.eq_false_iff.mpr c10
         subst c10
         have H1 : (if (bt a0 x6_1) = 35 then (lex_Scan.l1 kj5 a0 x5_1 x6_1) else (if 0 ≤ x6_1 then (if x6_1 ≤ (a0.size : Int) then ((lex_token.f kj5 (a0.extract (x6_1 : Int).toNat a0.size)).bind fun bt198 => (if bt198.2.2.2.2.2.2.2.2.2.2 = 0 then (if x5_1.length < 1759218604441 then (lex_Scan.l0 kj5 a0 (x5_1 ++ [(⟨bt198.1, bt198.2.1, x6_1, bt198.2.2.2.1, (⟨bt198.2.2.2.2.1, bt198.2.2.2.2.2.1, bt198.2.2.2.2.2.2.1⟩ : S28), (⟨bt198.2.2.2.2.2.2.2.1, bt198.2.2.2.2.2.2.2.2.1⟩ : S30)⟩ : S32)]) (wrap64 (x6_1 + (bt198.2.1.size : Int)))) else (none)) else (some (x5_1, wrap64 (x6_1 + bt198.2.2.2.2.2.2.2.2.2.1), bt198.2.2.2.2.2.2.2.2.2.2)))) else (none)) else (none))) = some (r1, r2, r3) := by rw [if_neg (show ¬ (false = true) by decide)] at H; exact H
         clear H
         have H := H1
         clear H1
         by_cases c11 : (bt a0 x6_1) = 35
         ·rw [if_pos c11] at H
          have c11b0 : ((bt a0 x6_1) == 35) = true := beq_iff_eq.mpr c11
          have c11b1 : ((bt a0 x6_1) != 35) = false := bne_eq_false_iff_eq.mpr c11
          clear c11
          have H' := yA H
          clear H
          go_wp2
          go_loopg [6] kj5 (fun kq v6 w' => ∃ (x6_3 : Int), v6 = .int .i64 x6_3 ∧ Aside0 (lex_Scan.l1 kq a0 x5_1 x6_3 = some (r1, r2, r3)) ∧ Aside0 (kq ≤ kj5) ∧ Aside0 (Kd.R k32 32 w' w.heap.size (fun _ => True) u5 x5_1) ∧ Aside0 (Below w.heap.size w w'))
          case atStart => exact ⟨(x6_1), (by first | rfl | (simp; done) | (simp [*]; done)), H', ⟨Nat.le_refl _⟩, ⟨by (with_reducible repeat (first | apply Kd.R_alloc | apply Kd.R_drewN | apply Kd.R_drew)); exact HO_5.out⟩, ⟨by repeat (first | (with_reducible first | exact HB.out | apply yE | apply yF | apply yD) | exact HB.out)⟩⟩
          case round =>
           clear H'
           try clear c1
           try clear c2
           try clear c2b0
           try clear c2b1
           try clear p2
           try clear c3
           try clear c3b0
           try clear c4
           try clear c4b0
           try clear p5
           try clear q5
           try clear hx5
           try clear p6
           try clear c7
           try clear c7b0
           try clear c7b1
           try clear c8
           try clear c8b0
           try clear c8b1
           try clear c9
           try clear c9b0
           try clear c9b1
           try clear c10
           try clear c11
           try clear c11b0
           try clear c11b1
           try clear p2
           try clear p5
           try clear q5
           obtain ⟨x6_3, rfl, HA, HK3, HO_5, HB⟩ := hrel
           cases gk with
           | zero => exact absurd HA.out (by simp [lex_Scan.l1])
           | succ k3 =>
            have H := HA.out
            clear HA
            simp only [lex_Scan.l1] at H
            by_cases c12 : x6_3 < (a0.size : Int)
            ·rw [if_pos c12] at H
             have c12b0 : decide (x6_3 < (a0.size : Int)) = true := yL c12
             clear c12
             by_cases c13 : 0 ≤ x6_3
             ·rw [if_pos c13] at H
              have c13b0 : decide (0 ≤ x6_3) = true := yL c13
              clear c13
              by_cases c15 : (bt a0 x6_3) = 10
              ·rw [if_pos c15] at H
               have c15b0 : ((bt a0 x6_3) == 10) = true := beq_iff_eq.mpr c15
               have c15b1 : ((bt a0 x6_3) != 10) = false := bne_eq_false_iff_eq.mpr c15
               clear c15
               have H' := yA H
               clear H
               have p14 : 0 ≤ (x6_3 : Int) := yN (by first | (with_reducible assumption) | assumption)
               have q14 : x6_3 < (a0.size : Int) := yN (by first | (with_reducible assumption) | assumption)
               have hx14 := bt_at a0 x6_3
               replace p14 := eq_true p14
               replace q14 := eq_true q14
               go_wp2
               go_roundg k3
               case measure => have := HK1.out; have := HJ5.out; have := HK3.out; omega
               case rel => exact ⟨(x5_1), (x6_3), (by first | rfl | (simp; done) | (simp [*]; done)), H', ⟨by have := HK1.out; have := HJ5.out; have := HK3.out; omega⟩, ⟨by (with_reducible repeat (first | apply Kd.R_alloc | apply Kd.R_drewN | apply Kd.R_drew)); exact HO_5.out⟩, ⟨by repeat (first | (with_reducible first | exact HB.out | apply yE | apply yF | apply yD) | exact HB.out)⟩⟩
              ·rw [if_neg c15] at H
               have c15b0 : ((bt a0 x6_3) == 10) = false := beq_eq_false_iff_ne.mpr c15
               have c15b1 : ((bt a0 x6_3) != 10) = true := bne_iff_ne.mpr c15
               have H' := yA H
               clear H
               have p14 : 0 ≤ (x6_3 : Int) := yN (by first | (with_reducible assumption) | assumption)
               have q14 : x6_3 < (a0.size : Int) := yN (by first | (with_reducible assumption) | assumption)
               have hx14 := bt_at a0 x6_3
               replace p14 := eq_true p14
               replace q14 := eq_true q14
               go_wp2
               go_roundg k3
               case measure => have := HK1.out; have := HJ5.out; have := HK3.out; omega
               case rel => exact ⟨(wrap64 (x6_3 + 1)), (by first | rfl | (simp; done) | (simp [*]; done)), H', ⟨by have := HK1.out; have := HJ5.out; have := HK3.out; omega⟩, ⟨by (with_reducible repeat (first | apply Kd.R_alloc | apply Kd.R_drewN | apply Kd.R_drew)); exact HO_5.out⟩, ⟨by repeat (first | (with_reducible first | exact HB.out | apply yE | apply yF | apply yD) | exact HB.out)⟩⟩
             ·rw [if_neg c13] at H
              exact absurd H (by simp)
            ·rw [if_neg c12] at H
             have c12b0 : decide (x6_3 < (a0.size : Int)) = false := yM c12
             clear c12
             have H' := yA H
             clear H
             go_wp2
             go_roundg k3
             case measure => have := HK1.out; have := HJ5.out; have := HK3.out; omega
             case rel => exact ⟨(x5_1), (x6_3), (by first | rfl | (simp; done) | (simp [*]; done)), H', ⟨by have := HK1.out; have := HJ5.out; have := HK3.out; omega⟩, ⟨by (with_reducible repeat (first | apply Kd.R_alloc | apply Kd.R_drewN | apply Kd.R_drew)); exact HO_5.out⟩, ⟨by repeat (first | (with_reducible first | exact HB.out | apply yE | apply yF | apply yD) | exact HB.out)⟩⟩
         ·rw [if_neg c11] at H
          have c11b0 : ((bt a0 x6_1) == 35) = false := beq_eq_false_iff_ne.mpr c11
          have c11b1 : ((bt a0 x6_1) != 35) = true := bne_iff_ne.mpr c11
          by_cases c16 : 0 ≤ x6_1
          ·rw [if_pos c16] at H
           have c16b0 := eq_true c16
           have c16b1 : decide (0 ≤ x6_1) = true := yL c16
           clear c16
           by_cases c17 : x6_1 ≤ (a0.size : Int)
           ·rw [if_pos c17] at H
            have c17b0 := eq_true c17
            have c17b1 : decide (x6_1 ≤ (a0.size : Int)) = true := yL c17
            clear c17
            replace H := Option.bind_eq_some_iff.mp H
            obtain ⟨⟨t198, t199, t200, t201, t202, t203, t204, t205, t206, t207, t208⟩, A180, H⟩ := H
            replace H : (if t208 = 0 then (if x5_1.length < 1759218604441 then (lex_Scan.l0 kj5 a0 (x5_1 ++ [(⟨t198, t199, x6_1, t201, (⟨t202, t203, t204⟩ : S28), (⟨t205, t206⟩ : S30)⟩ : S32)]) (wrap64 (x6_1 + (t199.size : Int)))) else (none)) else (some (x5_1, wrap64 (x6_1 + t207), t208))) = some (r1, r2, r3) := H
            have A18 := yA A180
            clear A180
            by_cases c19 : t208 = 0
            ·rw [if_pos c19] at H
             have c19b0 : (t208 == 0) = true := beq_iff_eq.mpr c19
             have c19b1 : (t208 != 0) = false := bne_eq_false_iff_eq.mpr c19
             clear c19
             by_cases c20 : x5_1.length < 1759218604441
             ·rw [if_pos c20] at H
              have LMc20 := yA c20
              clear c20
              obtain ⟨y210, hy210⟩ : ∃ y_ : List (S32), y_ = (x5_1 ++ [(⟨t198, t199, x6_1, t201, (⟨t202, t203, t204⟩ : S28), (⟨t205, t206⟩ : S30)⟩ : S32)]) := ⟨_, rfl⟩
              replace H : (lex_Scan.l0 kj5 a0 y210 (wrap64 (x6_1 + (t199.size : Int)))) = some (r1, r2, r3) := by first | (rw [hy210]; with_reducible exact H) | (have H2_ := (Option.bind_some _ _).symm.trans H; rw [hy210]; with_reducible exact H2_) | (have H2_ := (Option.bind_some _ _).symm.trans H; with_reducible exact H2_) | with_reducible exact H | (rw [hy210]; exact H) | exact H
              have Ny210 := yA hy210
              clear hy210
              have H' := yA H
              clear H
              go_upto_if 50 with (first | ((with_reducible refine yO (f := 21) rfl ?_); refine goesL_ (some 45) rfl rfl Tryd.func21 (by kernel_rfl) rfl #[.string (a0.extract (x6_1 : Int).toNat a0.size)] rfl (by (try simp only [List.map_toArray, List.map_cons, List.map_nil]); first | done | rfl | (simp only [List.length_drop, List.length_take]; rfl)) ?_; (with_reducible refine (lex_token.calls kj5 (a0.extract (x6_1 : Int).toNat a0.size) t198 t199 t200 t201 t202 t203 t204 t205 t206 t207 t208 _ A18.out (Pure.Gl.below HG.out (by repeat (first | (with_reducible first | exact HB.out | apply yE | apply yF | apply yD | (refine yJ ?_ (by first | exact GE209.out)) ) | exact HB.out)))).mono ?_); rintro e w21 ⟨rfl, hb⟩; refine ⟨_, rfl, ?_⟩; have n0_ := yA (Kd.R_below (by (with_reducible repeat (first | apply Kd.R_alloc | apply Kd.R_drewN | apply Kd.R_drew)); exact HO_5.out) hb); have n1_ := yA (yB (by repeat (first | (with_reducible first | exact HB.out | apply yE | apply yF | apply yD) | exact HB.out)) hb); clear HO_5; clear HB; have HO_5 := n0_; have HB := n1_; clear n0_ n1_; (try clear hb); (try clear hb2); (try clear hk); (try clear hi)) | ((with_reducible refine yP (N := 7) rfl ?_); refine yQ ?hg (N := 7) ?hd (cs := #[.int .i64 0, .string (⟨#[]⟩ : ByteArray), .int .i64 0, .int .i64 0, .int .i64 0, .int .i64 0, .int .i64 0, .int .i64 0, .int .i64 0]) (t := 32) ?hr ?_; (case hd => rfl); (case hg => rfl); (case hr => first | (go_simp; done) | (go_simp; rfl)); intro gb209 hg w22 hbox hb; have n0_ := yA (Kd.R_below (Kd.R_elderB (by (with_reducible repeat (first | apply Kd.R_alloc | apply Kd.R_drewN | apply Kd.R_drew)); exact HO_5.out) gb209 (Nat.le_of_eq hg.symm)) hb); have n1_ := yA (yB (by repeat (first | (with_reducible first | exact HB.out | apply yE | apply yF | apply yD) | exact HB.out)) hb); have n2_ := yA (hbox); have n3_ := yA ((by rw [hg]; exact (below_size (by repeat (first | (with_reducible first | exact HB.out | apply yE | apply yF | apply yD) | exact HB.out))) : w.heap.size ≤ gb209)); have n4_ := yA ((by rw [hg]; exact (below_size (by repeat (first | (with_reducible first | exact HB.out | apply yE | apply yF | apply yD) | exact HB.out))) : w.heap.size ≤ gb209)); clear HO_5; clear HB; have HO_5 := n0_; have HB := n1_; have BK209 := n2_; have GW209 := n3_; have GE209 := n4_; clear n0_ n1_ n2_ n3_ n4_; clear hb hbox hg; have hcz23_0 : w22.cell? ⟨gb209, 0, none⟩ = some (.int .i64 0) := (yR BK209.out 0).trans rfl; have hcz23_1 : w22.cell? ⟨gb209, 1, none⟩ = some (.string (⟨#[]⟩ : ByteArray)) := (yR BK209.out 1).trans rfl; have hcz23_2 : w22.cell? ⟨gb209, 2, none⟩ = some (.int .i64 0) := (yR BK209.out 2).trans rfl; have hcz23_3 : w22.cell? ⟨gb209, 3, none⟩ = some (.int .i64 0) := (yR BK209.out 3).trans rfl; have hcz23_4 : w22.cell? ⟨gb209, 4, none⟩ = some (.int .i64 0) := (yR BK209.out 4).trans rfl; have hcz23_5 : w22.cell? ⟨gb209, 5, none⟩ = some (.int .i64 0) := (yR BK209.out 5).trans rfl; have hcz23_6 : w22.cell? ⟨gb209, 6, none⟩ = some (.int .i64 0) := (yR BK209.out 6).trans rfl; have hcz23_7 : w22.cell? ⟨gb209, 7, none⟩ = some (.int .i64 0) := (yR BK209.out 7).trans rfl; have hcz23_8 : w22.cell? ⟨gb209, 8, none⟩ = some (.int .i64 0) := (yR BK209.out 8).trans rfl; have hfz23_0 := yS BK209.out 0; have hfz23_1 := yS BK209.out 1; have hfz23_2 := yS BK209.out 2; have hfz23_3 := yS BK209.out 3; have hfz23_4 := yS BK209.out 4; have hfz23_5 := yS BK209.out 5; have hfz23_6 := yS BK209.out 6; have hfz23_7 := yS BK209.out 7; have hfz23_8 := yS BK209.out 8))
              have n0_ : Aside0 ((((((((((w22.setCell ⟨gb209, 0, none⟩ (.int .i64 t198)).setCell ⟨gb209, 1, none⟩ (.string t199)).setCell ⟨gb209, 2, none⟩ (.int .i64 t200)).setCell ⟨gb209, 3, none⟩ (.int .i64 t201)).setCell ⟨gb209, 4, none⟩ (.int .i64 t202)).setCell ⟨gb209, 5, none⟩ (.int .i64 t203)).setCell ⟨gb209, 6, none⟩ (.int .i64 t204)).setCell ⟨gb209, 7, none⟩ (.int .i64 t205)).setCell ⟨gb209, 8, none⟩ (.int .i64 t206)).heap[gb209]? = some (.cells #[.int .i64 t198, .string t199, .int .i64 t200, .int .i64 t201, .int .i64 t202, .int .i64 t203, .int .i64 t204, .int .i64 t205, .int .i64 t206] 32 (0, 0))) := ⟨by (with_reducible repeat (first | refine yG ?_ _ | refine yH ?_ | refine yI ?_ _)); refine blk_put (cs := #[.int .i64 t198, .string t199, .int .i64 t200, .int .i64 t201, .int .i64 t202, .int .i64 t203, .int .i64 t204, .int .i64 t205, .int .i64 0]) ?_ 8 _ rfl; (with_reducible repeat (first | refine yG ?_ _ | refine yH ?_ | refine yI ?_ _)); refine blk_put (cs := #[.int .i64 t198, .string t199, .int .i64 t200, .int .i64 t201, .int .i64 t202, .int .i64 t203, .int .i64 t204, .int .i64 0, .int .i64 0]) ?_ 7 _ rfl; (with_reducible repeat (first | refine yG ?_ _ | refine yH ?_ | refine yI ?_ _)); refine blk_put (cs := #[.int .i64 t198, .string t199, .int .i64 t200, .int .i64 t201, .int .i64 t202, .int .i64 t203, .int .i64 0, .int .i64 0, .int .i64 0]) ?_ 6 _ rfl; (with_reducible repeat (first | refine yG ?_ _ | refine yH ?_ | refine yI ?_ _)); refine blk_put (cs := #[.int .i64 t198, .string t199, .int .i64 t200, .int .i64 t201, .int .i64 t202, .int .i64 0, .int .i64 0, .int .i64 0, .int .i64 0]) ?_ 5 _ rfl; (with_reducible repeat (first | refine yG ?_ _ | refine yH ?_ | refine yI ?_ _)); refine blk_put (cs := #[.int .i64 t198, .string t199, .int .i64 t200, .int .i64 t201, .int .i64 0, .int .i64 0, .int .i64 0, .int .i64 0, .int .i64 0]) ?_ 4 _ rfl; (with_reducible repeat (first | refine yG ?_ _ | refine yH ?_ | refine yI ?_ _)); refine blk_put (cs := #[.int .i64 t198, .string t199, .int .i64 t200, .int .i64 0, .int .i64 0, .int .i64 0, .int .i64 0, .int .i64 0, .int .i64 0]) ?_ 3 _ rfl; (with_reducible repeat (first | refine yG ?_ _ | refine yH ?_ | refine yI ?_ _)); refine blk_put (cs := #[.int .i64 t198, .string t199, .int .i64 0, .int .i64 0, .int .i64 0, .int .i64 0, .int .i64 0, .int .i64 0, .int .i64 0]) ?_ 2 _ rfl; (with_reducible repeat (first | refine yG ?_ _ | refine yH ?_ | refine yI ?_ _)); refine blk_put (cs := #[.int .i64 t198, .string (⟨#[]⟩ : ByteArray), .int .i64 0, .int .i64 0, .int .i64 0, .int .i64 0, .int .i64 0, .int .i64 0, .int .i64 0]) ?_ 1 _ rfl; (with_reducible repeat (first | refine yG ?_ _ | refine yH ?_ | refine yI ?_ _)); refine blk_put (cs := #[.int .i64 0, .string (⟨#[]⟩ : ByteArray), .int .i64 0, .int .i64 0, .int .i64 0, .int .i64 0, .int .i64 0, .int .i64 0, .int .i64 0]) ?_ 0 _ rfl; (with_reducible repeat (first | refine yG ?_ _ | refine yH ?_ | refine yI ?_ _)); exact BK209.out⟩
              have n1_ : Aside0 (Below w.heap.size w (((((((((w22.setCell ⟨gb209, 0, none⟩ (.int .i64 t198)).setCell ⟨gb209, 1, none⟩ (.string t199)).setCell ⟨gb209, 2, none⟩ (.int .i64 t200)).setCell ⟨gb209, 3, none⟩ (.int .i64 t201)).setCell ⟨gb209, 4, none⟩ (.int .i64 t202)).setCell ⟨gb209, 5, none⟩ (.int .i64 t203)).setCell ⟨gb209, 6, none⟩ (.int .i64 t204)).setCell ⟨gb209, 7, none⟩ (.int .i64 t205)).setCell ⟨gb209, 8, none⟩ (.int .i64 t206))) := ⟨by repeat (first | (with_reducible first | exact HB.out | apply yE | apply yF | apply yD | refine yJ ?_ GE209.out) | exact HB.out)⟩
              have n2_ := yA (Kd.R_far (p := ⟨gb209, 8, none⟩) (Kd.R_far (p := ⟨gb209, 7, none⟩) (Kd.R_far (p := ⟨gb209, 6, none⟩) (Kd.R_far (p := ⟨gb209, 5, none⟩) (Kd.R_far (p := ⟨gb209, 4, none⟩) (Kd.R_far (p := ⟨gb209, 3, none⟩) (Kd.R_far (p := ⟨gb209, 2, none⟩) (Kd.R_far (p := ⟨gb209, 1, none⟩) (Kd.R_far (p := ⟨gb209, 0, none⟩) HO_5.out (fun _ hk => hk.2) (.int .i64 t198)) (fun _ hk => hk.2) (.string t199)) (fun _ hk => hk.2) (.int .i64 t200)) (fun _ hk => hk.2) (.int .i64 t201)) (fun _ hk => hk.2) (.int .i64 t202)) (fun _ hk => hk.2) (.int .i64 t203)) (fun _ hk => hk.2) (.int .i64 t204)) (fun _ hk => hk.2) (.int .i64 t205)) (fun _ hk => hk.2) (.int .i64 t206))
              clear hcz23_0 hfz23_0 hcz23_1 hfz23_1 hcz23_2 hfz23_2 hcz23_3 hfz23_3 hcz23_4 hfz23_4 hcz23_5 hfz23_5 hcz23_6 hfz23_6 hcz23_7 hfz23_7 hcz23_8 hfz23_8
              clear BK209 HB HO_5
              generalize (((((((((w22.setCell ⟨gb209, 0, none⟩ (.int .i64 t198)).setCell ⟨gb209, 1, none⟩ (.string t199)).setCell ⟨gb209, 2, none⟩ (.int .i64 t200)).setCell ⟨gb209, 3, none⟩ (.int .i64 t201)).setCell ⟨gb209, 4, none⟩ (.int .i64 t202)).setCell ⟨gb209, 5, none⟩ (.int .i64 t203)).setCell ⟨gb209, 6, none⟩ (.int .i64 t204)).setCell ⟨gb209, 7, none⟩ (.int .i64 t205)).setCell ⟨gb209, 8, none⟩ (.int .i64 t206)) = wA at n0_ n1_ n2_ ⊢
              have BK209 := n0_
              have HB := n1_
              have HO_5 := n2_
              clear n0_ n1_ n2_
              have hczA_0 : wA.cell? ⟨gb209, 0, none⟩ = some (.int .i64 t198) := (yR BK209.out 0).trans rfl
              have hczA_1 : wA.cell? ⟨gb209, 1, none⟩ = some (.string t199) := (yR BK209.out 1).trans rfl
              have hczA_2 : wA.cell? ⟨gb209, 2, none⟩ = some (.int .i64 t200) := (yR BK209.out 2).trans rfl
              have hczA_3 : wA.cell? ⟨gb209, 3, none⟩ = some (.int .i64 t201) := (yR BK209.out 3).trans rfl
              have hczA_4 : wA.cell? ⟨gb209, 4, none⟩ = some (.int .i64 t202) := (yR BK209.out 4).trans rfl
              have hczA_5 : wA.cell? ⟨gb209, 5, none⟩ = some (.int .i64 t203) := (yR BK209.out 5).trans rfl
              have hczA_6 : wA.cell? ⟨gb209, 6, none⟩ = some (.int .i64 t204) := (yR BK209.out 6).trans rfl
              have hczA_7 : wA.cell? ⟨gb209, 7, none⟩ = some (.int .i64 t205) := (yR BK209.out 7).trans rfl
              have hczA_8 : wA.cell? ⟨gb209, 8, none⟩ = some (.int .i64 t206) := (yR BK209.out 8).trans rfl
              have hfzA_0 := yS BK209.out 0
              have hfzA_1 := yS BK209.out 1
              have hfzA_2 := yS BK209.out 2
              have hfzA_3 := yS BK209.out 3
              have hfzA_4 := yS BK209.out 4
              have hfzA_5 := yS BK209.out 5
              have hfzA_6 := yS BK209.out 6
              have hfzA_7 := yS BK209.out 7
              have hfzA_8 := yS BK209.out 8
              go_wp2_with (first | ((with_reducible refine gate_builtin (b := .append) (xs := #[.tmp 58, .tmp 60]) rfl ?_); at_builtin; refine Kd.R_append k32 (w0 := w) w.heap.size rfl (.tmp 58) (.tmp 60) 22 32 (.agg #[(.int .i64 0), (.string ⟨#[]⟩), (.int .i64 0), (.int .i64 0), (.int .i64 0), (.int .i64 0), (.int .i64 0), (.int .i64 0), (.int .i64 0)]) 80 rfl Tryd.underlying22 info32 rfl (by decide) (by omega) u5 x5_1 (⟨t198, t199, x6_1, t201, (⟨t202, t203, t204⟩ : S28), (⟨t205, t206⟩ : S30)⟩ : S32) [.int .i64 t198, .string t199, .int .i64 x6_1, .int .i64 t201, .int .i64 t202, .int .i64 t203, .int .i64 t204, .int .i64 t205, .int .i64 t206] (fun k_ => k_ ≠ gb209) (fun _ => False) rfl (by first | (go_simp; done) | (go_simp; rfl)) ?aP (fun _ hk => hk.elim) ?aF ?aO ?aB ?aS ?aL ?_; (case aP => exact k32_mkM _ _ _ (⟨t198, t199, x6_1, t201, (⟨t202, t203, t204⟩ : S28), (⟨t205, t206⟩ : S30)⟩ : S32)); (case aB => exact (by repeat (first | (with_reducible first | exact HB.out | apply yE | apply yF | apply yD | refine yJ ?_ GE209.out) | exact HB.out))); (case aF => exact (fun k_ hk => Kd.freshB (g := gb209) (o := .cells #[.int .i64 t198, .string t199, .int .i64 x6_1, .int .i64 t201, .int .i64 t202, .int .i64 t203, .int .i64 t204, .int .i64 t205, .int .i64 t206] 32 (0, 0)) (by (with_reducible repeat (first | refine yG ?_ _ | refine yH ?_ | refine yI ?_ _)); refine blk_put (cs := #[.int .i64 t198, .string t199, .int .i64 t200, .int .i64 t201, .int .i64 t202, .int .i64 t203, .int .i64 t204, .int .i64 t205, .int .i64 t206]) ?_ 2 _ rfl; (with_reducible repeat (first | refine yG ?_ _ | refine yH ?_ | refine yI ?_ _));  exact BK209.out) k_ hk)); (case aO => exact (by (with_reducible repeat (first | apply Kd.R_alloc | apply Kd.R_drewN | apply Kd.R_drew)); exact Kd.R_mono (Kd.R_far (p := ⟨gb209, 2, none⟩) (Kd.R_mono HO_5.out (fun k_ hk => (⟨hk, hk.2⟩ : _ ∧ k_ ≠ gb209))) (fun _ hk => hk.2) (.int .i64 x6_1)) (fun _ hk => hk.1.2))); (case aS => exact (below_size (by repeat (first | (with_reducible first | exact HB.out | apply yE | apply yF | apply yD | refine yJ ?_ GE209.out) | exact HB.out)))); (case aL => have := LMc20.out; omega); intro v211 w24 ho hb hg hat; rw [← Ny210.out] at ho; have n0_ := yA (blk_grown (g := gb209) (o := .cells #[.int .i64 t198, .string t199, .int .i64 x6_1, .int .i64 t201, .int .i64 t202, .int .i64 t203, .int .i64 t204, .int .i64 t205, .int .i64 t206] 32 (0, 0)) (by (with_reducible repeat (first | refine yG ?_ _ | refine yH ?_ | refine yI ?_ _)); refine blk_put (cs := #[.int .i64 t198, .string t199, .int .i64 t200, .int .i64 t201, .int .i64 t202, .int .i64 t203, .int .i64 t204, .int .i64 t205, .int .i64 t206]) ?_ 2 _ rfl; (with_reducible repeat (first | refine yG ?_ _ | refine yH ?_ | refine yI ?_ _));  exact BK209.out) hg (Kd.R_away HO_5.out (fun _ hk => hk.2))); have n1_ := yA (hb); have n2_ := yA (ho); clear BK209; clear HB; clear HO_5; have BK209 := n0_; have HB := n1_; have HO212 := n2_; clear n0_ n1_ n2_; clear ho hb hg hat; have hcz25_0 : w24.cell? ⟨gb209, 0, none⟩ = some (.int .i64 t198) := (yR BK209.out 0).trans rfl; have hcz25_1 : w24.cell? ⟨gb209, 1, none⟩ = some (.string t199) := (yR BK209.out 1).trans rfl; have hcz25_2 : w24.cell? ⟨gb209, 2, none⟩ = some (.int .i64 x6_1) := (yR BK209.out 2).trans rfl; have hcz25_3 : w24.cell? ⟨gb209, 3, none⟩ = some (.int .i64 t201) := (yR BK209.out 3).trans rfl; have hcz25_4 : w24.cell? ⟨gb209, 4, none⟩ = some (.int .i64 t202) := (yR BK209.out 4).trans rfl; have hcz25_5 : w24.cell? ⟨gb209, 5, none⟩ = some (.int .i64 t203) := (yR BK209.out 5).trans rfl; have hcz25_6 : w24.cell? ⟨gb209, 6, none⟩ = some (.int .i64 t204) := (yR BK209.out 6).trans rfl; have hcz25_7 : w24.cell? ⟨gb209, 7, none⟩ = some (.int .i64 t205) := (yR BK209.out 7).trans rfl; have hcz25_8 : w24.cell? ⟨gb209, 8, none⟩ = some (.int .i64 t206) := (yR BK209.out 8).trans rfl; have hfz25_0 := yS BK209.out 0; have hfz25_1 := yS BK209.out 1; have hfz25_2 := yS BK209.out 2; have hfz25_3 := yS BK209.out 3; have hfz25_4 := yS BK209.out 4; have hfz25_5 := yS BK209.out 5; have hfz25_6 := yS BK209.out 6; have hfz25_7 := yS BK209.out 7; have hfz25_8 := yS BK209.out 8))
              go_roundg kj5
              case measure => have := HK1.out; have := HJ5.out; omega
              case rel => exact ⟨(y210), (wrap64 (x6_1 + (t199.size : Int))), (by first | rfl | (simp; done) | (simp [*]; done)), H', ⟨by have := HK1.out; have := HJ5.out; omega⟩, ⟨by (with_reducible repeat (first | apply Kd.R_alloc | apply Kd.R_drewN | apply Kd.R_drew)); exact Kd.R_mono HO212.out (fun _ hk => trivial)⟩, ⟨by repeat (first | (with_reducible first | exact HB.out | apply yE | apply yF | apply yD | refine yJ ?_ GE209.out) | exact HB.out)⟩⟩
             ·rw [if_neg c20] at H
              exact absurd H (by simp)
            ·rw [if_neg c19] at H
             have c19b0 : (t208 == 0) = false := beq_eq_false_iff_ne.mpr c19
             have c19b1 : (t208 != 0) = true := bne_iff_ne.mpr c19
             simp only [Option.some.injEq, Prod.mk.injEq] at H
             obtain ⟨rfl, rfl, rfl⟩ := H
             go_wp2_with (first | ((with_reducible refine yO (f := 21) rfl ?_); refine goesL_ (some 45) rfl rfl Tryd.func21 (by kernel_rfl) rfl #[.string (a0.extract (x6_1 : Int).toNat a0.size)] rfl (by (try simp only [List.map_toArray, List.map_cons, List.map_nil]); first | done | rfl | (simp only [List.length_drop, List.length_take]; rfl)) ?_; (with_reducible refine (lex_token.calls kj5 (a0.extract (x6_1 : Int).toNat a0.size) t198 t199 t200 t201 t202 t203 t204 t205 t206 t207 t208 _ A18.out (Pure.Gl.below HG.out (by repeat (first | (with_reducible first | exact HB.out | apply yE | apply yF | apply yD | (refine yJ ?_ (by first | exact GE209.out)) ) | exact HB.out)))).mono ?_); rintro e w26 ⟨rfl, hb⟩; refine ⟨_, rfl, ?_⟩; have n0_ := yA (Kd.R_below (by (with_reducible repeat (first | apply Kd.R_alloc | apply Kd.R_drewN | apply Kd.R_drew)); exact HO_5.out) hb); have n1_ := yA (yB (by repeat (first | (with_reducible first | exact HB.out | apply yE | apply yF | apply yD) | exact HB.out)) hb); clear HO_5; clear HB; have HO_5 := n0_; have HB := n1_; clear n0_ n1_; (try clear hb); (try clear hb2); (try clear hk); (try clear hi)) | ((with_reducible refine yP (N := 7) rfl ?_); refine yQ ?hg (N := 7) ?hd (cs := #[.int .i64 0, .string (⟨#[]⟩ : ByteArray), .int .i64 0, .int .i64 0, .int .i64 0, .int .i64 0, .int .i64 0, .int .i64 0, .int .i64 0]) (t := 32) ?hr ?_; (case hd => rfl); (case hg => rfl); (case hr => first | (go_simp; done) | (go_simp; rfl)); intro gb209 hg w27 hbox hb; have n0_ := yA (Kd.R_below (Kd.R_elderB (by (with_reducible repeat (first | apply Kd.R_alloc | apply Kd.R_drewN | apply Kd.R_drew)); exact HO_5.out) gb209 (Nat.le_of_eq hg.symm)) hb); have n1_ := yA (yB (by repeat (first | (with_reducible first | exact HB.out | apply yE | apply yF | apply yD) | exact HB.out)) hb); have n2_ := yA (hbox); have n3_ := yA ((by rw [hg]; exact (below_size (by repeat (first | (with_reducible first | exact HB.out | apply yE | apply yF | apply yD) | exact HB.out))) : w.heap.size ≤ gb209)); have n4_ := yA ((by rw [hg]; exact (below_size (by repeat (first | (with_reducible first | exact HB.out | apply yE | apply yF | apply yD) | exact HB.out))) : w.heap.size ≤ gb209)); clear HO_5; clear HB; have HO_5 := n0_; have HB := n1_; have BK209 := n2_; have GW209 := n3_; have GE209 := n4_; clear n0_ n1_ n2_ n3_ n4_; clear hb hbox hg; have hcz28_0 : w27.cell? ⟨gb209, 0, none⟩ = some (.int .i64 0) := (yR BK209.out 0).trans rfl; have hcz28_1 : w27.cell? ⟨gb209, 1, none⟩ = some (.string (⟨#[]⟩ : ByteArray)) := (yR BK209.out 1).trans rfl; have hcz28_2 : w27.cell? ⟨gb209, 2, none⟩ = some (.int .i64 0) := (yR BK209.out 2).trans rfl; have hcz28_3 : w27.cell? ⟨gb209, 3, none⟩ = some (.int .i64 0) := (yR BK209.out 3).trans rfl; have hcz28_4 : w27.cell? ⟨gb209, 4, none⟩ = some (.int .i64 0) := (yR BK209.out 4).trans rfl; have hcz28_5 : w27.cell? ⟨gb209, 5, none⟩ = some (.int .i64 0) := (yR BK209.out 5).trans rfl; have hcz28_6 : w27.cell? ⟨gb209, 6, none⟩ = some (.int .i64 0) := (yR BK209.out 6).trans rfl; have hcz28_7 : w27.cell? ⟨gb209, 7, none⟩ = some (.int .i64 0) := (yR BK209.out 7).trans rfl; have hcz28_8 : w27.cell? ⟨gb209, 8, none⟩ = some (.int .i64 0) := (yR BK209.out 8).trans rfl; have hfz28_0 := yS BK209.out 0; have hfz28_1 := yS BK209.out 1; have hfz28_2 := yS BK209.out 2; have hfz28_3 := yS BK209.out 3; have hfz28_4 := yS BK209.out 4; have hfz28_5 := yS BK209.out 5; have hfz28_6 := yS BK209.out 6; have hfz28_7 := yS BK209.out 7; have hfz28_8 := yS BK209.out 8))
             (try rw [Exit.noGoto_ret])
             go_ret3
             exact ⟨_, by first | rfl | (simp [errW_none, errW_some] <;> rfl) | (simp [*, errW_none, errW_some] <;> rfl), by (with_reducible repeat (first | apply Kd.R_alloc | apply Kd.R_drewN | apply Kd.R_drew)); exact Kd.R_mono (Kd.R_far (p := ⟨gb209, 8, none⟩) (Kd.R_far (p := ⟨gb209, 7, none⟩) (Kd.R_far (p := ⟨gb209, 6, none⟩) (Kd.R_far (p := ⟨gb209, 5, none⟩) (Kd.R_far (p := ⟨gb209, 4, none⟩) (Kd.R_far (p := ⟨gb209, 3, none⟩) (Kd.R_far (p := ⟨gb209, 2, none⟩) (Kd.R_far (p := ⟨gb209, 1, none⟩) (Kd.R_far (p := ⟨gb209, 0, none⟩) (Kd.R_mono HO_5.out (fun k_ hk => (⟨hk, hk.2⟩ : _ ∧ k_ ≠ gb209))) (fun _ hk => hk.2) (.int .i64 t198)) (fun _ hk => hk.2) (.string t199)) (fun _ hk => hk.2) (.int .i64 t200)) (fun _ hk => hk.2) (.int .i64 t201)) (fun _ hk => hk.2) (.int .i64 t202)) (fun _ hk => hk.2) (.int .i64 t203)) (fun _ hk => hk.2) (.int .i64 t204)) (fun _ hk => hk.2) (.int .i64 t205)) (fun _ hk => hk.2) (.int .i64 t206)) (fun _ hk => trivial), by repeat (first | (with_reducible first | exact HB.out | apply yE | apply yF | apply yD | refine yJ ?_ GE209.out) | exact HB.out)⟩
           ·rw [if_neg c17] at H
            exact absurd H (by simp)
          ·rw [if_neg c16] at H
           exact absurd H (by simp)
     ·rw [if_neg c4] at H
      exact absurd H (by simp)
    ·rw [if_neg c3] at H
     have c3b0 : decide (x6_1 < (a0.size : Int)) = false := yM c3
     clear c3
     simp only [Option.some.injEq, Prod.mk.injEq] at H
     obtain ⟨rfl, rfl, rfl⟩ := H
     go_wp2
     (try rw [Exit.noGoto_ret])
     go_ret3
     exact ⟨_, by first | rfl | (simp [errW_none, errW_some] <;> rfl) | (simp [*, errW_none, errW_some] <;> rfl), by (with_reducible repeat (first | apply Kd.R_alloc | apply Kd.R_drewN | apply Kd.R_drew)); exact HO_5.out, by repeat (first | (with_reducible first | exact HB.out | apply yE | apply yF | apply yD) | exact HB.out)⟩
attribute [local go_sem high] eqA32
def payofflaw06_sameTokens.l0 : Nat → List (S32) → List (S32) → Int → Option (Bool)
 | 0, _, _, _ => none
 | k + 1, x0, x1, x5 => if x5 < (x0.length : Int) then (if 0 ≤ x5 then (if x5 < (x1.length : Int) then (if (!(((rd_T32 x0 x5).f0) == ((rd_T32 x1 x5).f0)) || (!((((rd_T32 x0 x5).f1).toList) == (((rd_T32 x1 x5).f1).toList)) || (!(((rd_T32 x0 x5).f2) == ((rd_T32 x1 x5).f2)) || (!(((rd_T32 x0 x5).f3) == ((rd_T32 x1 x5).f3)) || ((!(((rd_T32 x0 x5).f4.f0) == ((rd_T32 x1 x5).f4.f0)) || (!(((rd_T32 x0 x5).f4.f1) == ((rd_T32 x1 x5).f4.f1)) || (!(((rd_T32 x0 x5).f4.f2) == ((rd_T32 x1 x5).f4.f2))))) || ((!(((rd_T32 x0 x5).f5.f0) == ((rd_T32 x1 x5).f5.f0)) || (!(((rd_T32 x0 x5).f5.f1) == ((rd_T32 x1 x5).f5.f1)))))))))) = true then (some false) else (payofflaw06_sameTokens.l0 k x0 x1 (wrap64 (x5 + 1)))) else (none)) else (none)) else (some true)
def payofflaw06_sameTokens.f (k : Nat) (l0 : List (S32)) (l1 : List (S32)) : Option (Bool) := if (l0.length : Int) = (l1.length : Int) then (payofflaw06_sameTokens.l0 k l0 l1 0) else (some false)
set_option maxHeartbeats 8000000 in
set_option maxRecDepth 100000 in
theorem payofflaw06_sameTokens.calls (k : Nat) (A0 : Option Addr) (c0 : Nat) (l0 : List (S32)) (A1 : Option Addr) (c1 : Nat) (l1 : List (S32)) (r : Bool) (w : World) (hr0 : Kd.C k32 w A0 l0.length l0) (hc0 : l0.length ≤ c0) (hr1 : Kd.C k32 w A1 l1.length l1) (hc1 : l1.length ≤ c1) (h : payofflaw06_sameTokens.f k l0 l1 = some r) :
  Calls Tryd.prog 12 #[.slice A0 l0.length c0, .slice A1 l1.length c1] w fun e w' => e = .returned (.bool r) ∧ Drawn0 w w' := by
 have hu32 := Tryd.underlying32
 have HR0 := yA hr0
 have HC0 := yA hc0
 clear hr0 hc0
 have HR1 := yA hr1
 have HC1 := yA hc1
 clear hr1 hc1
 have H : (if (l0.length : Int) = (l1.length : Int) then (payofflaw06_sameTokens.l0 k l0 l1 0) else (some false)) = some r := h
 clear h
 by_cases c3 : (l0.length : Int) = (l1.length : Int)
 ·rw [if_pos c3] at H
  have c3b0 : ((l0.length : Int) == (l1.length : Int)) = true := beq_iff_eq.mpr c3
  have c3b1 : ((l0.length : Int) != (l1.length : Int)) = false := bne_eq_false_iff_eq.mpr c3
  have c3b2 : (l0.length == l1.length) = true := by first | simpa using c3 | (simp at c3 ⊢; omega)
  clear c3
  have H' := yA H
  clear H
  go_enter Tryd.func12, Tryd.ntmps12
  go_wp2
  repeat (go_quiet (fail); try go_wp2)
  go_loopg [5] k (fun kq v5 w' => ∃ (x5_1 : Int), v5 = .int .i64 x5_1 ∧ Aside0 (payofflaw06_sameTokens.l0 kq l0 l1 x5_1 = some r) ∧ Aside0 (kq ≤ k) ∧ Drawn0 w w')
  case atStart => exact ⟨(0), (by first | rfl | (simp; done) | (simp [*]; done)), H', ⟨Nat.le_refl _⟩, by repeat (first | exact Drawn0.refl _ | apply Drawn0.step)⟩
  case round =>
   clear H'
   try clear c1
   try clear p2
   try clear c3
   try clear c3b0
   try clear c3b1
   try clear c3b2
   obtain ⟨x5_1, rfl, HA, HK1, ⟨m1, rfl⟩⟩ := hrel
   cases gk with
   | zero => exact absurd HA.out (by simp [payofflaw06_sameTokens.l0])
   | succ k1 =>
    have H := HA.out
    clear HA
    simp only [payofflaw06_sameTokens.l0] at H
    by_cases c4 : x5_1 < (l0.length : Int)
    ·rw [if_pos c4] at H
     have c4b0 : decide (x5_1 < (l0.length : Int)) = true := yL c4
     clear c4
     by_cases c5 : 0 ≤ x5_1
     ·rw [if_pos c5] at H
      have c5b0 : decide (0 ≤ x5_1) = true := yL c5
      clear c5
      by_cases c6 : x5_1 < (l1.length : Int)
      ·rw [if_pos c6] at H
       have c6b0 : decide (x5_1 < (l1.length : Int)) = true := yL c6
       clear c6
       by_cases c7 : (!(((rd_T32 l0 x5_1).f0) == ((rd_T32 l1 x5_1).f0)) || (!((((rd_T32 l0 x5_1).f1).toList) == (((rd_T32 l1 x5_1).f1).toList)) || (!(((rd_T32 l0 x5_1).f2) == ((rd_T32 l1 x5_1).f2)) || (!(((rd_T32 l0 x5_1).f3) == ((rd_T32 l1 x5_1).f3)) || ((!(((rd_T32 l0 x5_1).f4.f0) == ((rd_T32 l1 x5_1).f4.f0)) || (!(((rd_T32 l0 x5_1).f4.f1) == ((rd_T32 l1 x5_1).f4.f1)) || (!(((rd_T32 l0 x5_1).f4.f2) == ((rd_T32 l1 x5_1).f4.f2))))) || ((!(((rd_T32 l0 x5_1).f5.f0) == ((rd_T32 l1 x5_1).f5.f0)) || (!(((rd_T32 l0 x5_1).f5.f1) == ((rd_T32 l1 x5_1).f5.f1)))))))))) = true
       ·rw [if_pos c7] at H
        have c7b0 : (!(((rd_T32 l0 x5_1).f0) == ((rd_T32 l1 x5_1).f0)) || (!((((rd_T32 l0 x5_1).f1).toList) == (((rd_T32 l1 x5_1).f1).toList)) || (!(((rd_T32 l0 x5_1).f2) == ((rd_T32 l1 x5_1).f2)) || (!(((rd_T32 l0 x5_1).f3) == ((rd_T32 l1 x5_1).f3)) || ((!(((rd_T32 l0 x5_1).f4.f0) == ((rd_T32 l1 x5_1).f4.f0)) || (!(((rd_T32 l0 x5_1).f4.f1) == ((rd_T32 l1 x5_1).f4.f1)) || (!(((rd_T32 l0 x5_1).f4.f2) == ((rd_T32 l1 x5_1).f4.f2))))) || ((!(((rd_T32 l0 x5_1).f5.f0) == ((rd_T32 l1 x5_1).f5.f0)) || (!(((rd_T32 l0 x5_1).f5.f1) == ((rd_T32 l1 x5_1).f5.f1)))))))))) = true := c7
        clear c7
        obtain rfl := Option.some.inj H
        have p213 : 0 ≤ (x5_1 : Int) := yN (by first | (with_reducible assumption) | assumption)
        have q213 : x5_1 < (l0.length : Int) := yN (by first | (with_reducible assumption) | assumption)
        obtain ⟨ad213, e213, hx213_0, hx213_1, hx213_2, hx213_3, hx213_4, hx213_5, hx213_6, hx213_7, hx213_8⟩ := at_T32 HR0.out x5_1 p213 q213
        cases e213
        replace p213 := eq_true p213
        replace q213 := eq_true q213
        have p214 : 0 ≤ (x5_1 : Int) := yN (by first | (with_reducible assumption) | assumption)
        have q214 : x5_1 < (l1.length : Int) := yN (by first | (with_reducible assumption) | assumption)
        obtain ⟨ad214, e214, hx214_0, hx214_1, hx214_2, hx214_3, hx214_4, hx214_5, hx214_6, hx214_7, hx214_8⟩ := at_T32 HR1.out x5_1 p214 q214
        cases e214
        replace p214 := eq_true p214
        replace q214 := eq_true q214
        go_wp2
        repeat (go_quiet (fail); try go_wp2)
        go_ret
        exact ⟨by first | rfl | (simp; done) | (simp [*]; done), by repeat (first | exact Drawn0.refl _ | apply Drawn0.step)⟩
       ·rw [if_neg c7] at H
        have c7b0 : (!(((rd_T32 l0 x5_1).f0) == ((rd_T32 l1 x5_1).f0)) || (!((((rd_T32 l0 x5_1).f1).toList) == (((rd_T32 l1 x5_1).f1).toList)) || (!(((rd_T32 l0 x5_1).f2) == ((rd_T32 l1 x5_1).f2)) || (!(((rd_T32 l0 x5_1).f3) == ((rd_T32 l1 x5_1).f3)) || ((!(((rd_T32 l0 x5_1).f4.f0) == ((rd_T32 l1 x5_1).f4.f0)) || (!(((rd_T32 l0 x5_1).f4.f1) == ((rd_T32 l1 x5_1).f4.f1)) || (!(((rd_T32 l0 x5_1).f4.f2) == ((rd_T32 l1 x5_1).f4.f2))))) || ((!(((rd_T32 l0 x5_1).f5.f0) == ((rd_T32 l1 x5_1).f5.f0)) || (!(((rd_T32 l0 x5_1).f5.f1) == ((rd_T32 l1 x5_1).f5.f1)))))))))) = false := by simpa using c7
        clear c7
        have H' := yA H
        clear H
        have p213 : 0 ≤ (x5_1 : Int) := yN (by first | (with_reducible assumption) | assumption)
        have q213 : x5_1 < (l0.length : Int) := yN (by first | (with_reducible assumption) | assumption)
        obtain ⟨ad213, e213, hx213_0, hx213_1, hx213_2, hx213_3, hx213_4, hx213_5, hx213_6, hx213_7, hx213_8⟩ := at_T32 HR0.out x5_1 p213 q213
        cases e213
        replace p213 := eq_true p213
        replace q213 := eq_true q213
        have p214 : 0 ≤ (x5_1 : Int) := yN (by first | (with_reducible assumption) | assumption)
        have q214 : x5_1 < (l1.length : Int) := yN (by first | (with_reducible assumption) | assumption)
        obtain ⟨ad214, e214, hx214_0, hx214_1, hx214_2, hx214_3, hx214_4, hx214_5, hx214_6, hx214_7, hx214_8⟩ := at_T32 HR1.out x5_1 p214 q214
        cases e214
        replace p214 := eq_true p214
        replace q214 := eq_true q214
        go_wp2
        repeat (go_quiet (fail); try go_wp2)
        go_roundg k1
        case measure => have := HK1.out; omega
        case rel => exact ⟨(wrap64 (x5_1 + 1)), (by first | rfl | (simp; done) | (simp [*]; done)), H', ⟨by have := HK1.out; omega⟩, by repeat (first | exact Drawn0.refl _ | apply Drawn0.step)⟩
      ·rw [if_neg c6] at H
       exact absurd H (by simp)
     ·rw [if_neg c5] at H
      exact absurd H (by simp)
    ·rw [if_neg c4] at H
     have c4b0 : decide (x5_1 < (l0.length : Int)) = false := yM c4
     clear c4
     obtain rfl := Option.some.inj H
     go_wp2
     repeat (go_quiet (fail); try go_wp2)
     go_ret
     exact ⟨by first | rfl | (simp; done) | (simp [*]; done), by repeat (first | exact Drawn0.refl _ | apply Drawn0.step)⟩
 ·rw [if_neg c3] at H
  have c3b0 : ((l0.length : Int) == (l1.length : Int)) = false := beq_eq_false_iff_ne.mpr c3
  have c3b1 : ((l0.length : Int) != (l1.length : Int)) = true := bne_iff_ne.mpr c3
  have c3b2 : (l0.length == l1.length) = false := by first | simpa using c3 | (simp at c3 ⊢; omega)
  obtain rfl := Option.some.inj H
  go_enter Tryd.func12, Tryd.ntmps12
  go_wp2
  repeat (go_quiet (fail); try go_wp2)
  go_ret
  exact ⟨by first | rfl | (simp; done) | (simp [*]; done), by repeat (first | exact Drawn0.refl _ | apply Drawn0.step)⟩
end Go.Proofs.YtkfdninngcakpaaDoor.PLex
