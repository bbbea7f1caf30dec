/- Own text, for this claim: table.number, after the text that the kit's printer writes. -/
import Derived.Test.YtppojbafagneeaaDoorZQPar0
import Derived.WalkMore
import Derived.Deep.DeepMust
import Derived.Outline
import Derived.Deep.RegionWith
namespace Go.Proofs.YtppojbafagneeaaDoor.PTab
open Go.RowKit Go.Proofs.YtppojbafagneeaaDoorW.PrintWords Go.Proofs.YtppojbafagneeaaDoorW.PrintLast Go.Proofs.YtppojbafagneeaaDoorW.PrintMore
attribute [local go_sem] max2_int min2_int max_two min_two max_three min_three max_four min_four
set_option linter.unusedVariables false
set_option linter.unusedSimpArgs false
mutual
def ok_number.j0 : Nat → ByteArray → Bool → Option (Int × Bool)
 | 0, _, _ => none
 | k + 1, x0, x13 => (if x13 = true then (none) else (ok_number.l0 k x0 0 (x0.size : Int) 0))
def ok_number.l0 : Nat → ByteArray → Int → Int → Int → Option (Int × Bool)
 | 0, _, _, _, _ => none
 | k + 1, x0, x4, x15, x16 => (if x16 < x15 then (if 0 ≤ x16 then (if x16 < (x0.size : Int) then (if (bt x0 x16) < 48 then (none) else (if (bt x0 x16) > 57 then (none) else (ok_number.l0 k x0 (mn (wrap64 ((wrap64 (10 * x4)) + (((bt x0 x16) - 48) % 256))) 4096) x15 (wrap64 (x16 + 1))))) else (none)) else (none)) else (some (x4, true)))
end
def ok_number.f (k : Nat) (a0 : ByteArray) : Option (Int × Bool) := (if (a0.size : Int) > 1 then (none) else (ok_number.j0 k a0 false))
set_option maxHeartbeats 8000000 in
set_option maxRecDepth 100000 in
theorem ok_number.calls (k : Nat) (a0 : ByteArray) (r1 : Int) (r2 : Bool) (w : World) (h : ok_number.f k a0 = some (r1, r2)) :
  Calls Tryd.prog 64 #[.string a0] w fun e w' => e = .returned (.tuple #[.int .i64 r1, .bool r2]) ∧ Below w.heap.size w w' := by
 have HB := yA (Below.refl w.heap.size w)
 have H : (if (a0.size : Int) > 1 then (none) else (ok_number.j0 k a0 false)) = some (r1, r2) := h
 clear h
 have HC2 := yA H
 clear H
 go_enter Tryd.func64, Tryd.ntmps64
 go_upto_region 1 with (fail)
 go_cut [13] (fun v13 wc => ∃ (kq : Nat) (x13_1 : Bool), v13 = .bool x13_1 ∧ Aside0 (ok_number.j0 kq a0 x13_1 = some (r1, r2)) ∧ Aside0 (kq ≤ k) ∧ Aside0 (Below w.heap.size w wc))
 case first =>
  have H := HC2.out
  clear HC2
  by_cases c3 : (a0.size : Int) > 1
  ·rw [if_pos c3] at H
   exact absurd H (by simp)
  ·rw [if_neg c3] at H
   have c3b0 : decide (1 < (a0.size : Int)) = false := yM c3
   have c3b1 : decide (1 < a0.size) = false := yM (by omega)
   clear c3
   (first | rw [c3b0] | (simp only [i64_w, i32_w]; rw [c3b0]) | skip)
   have H' := yA H
   clear H
   go_wp2
   go_meet
   case rel => exact ⟨_, (false), (by first | rfl | (simp; done) | (simp [*]; done)), H', ⟨by first | omega | exact Nat.le_refl _⟩, ⟨by repeat (first | exact HB.out | apply yE | apply yD)⟩⟩
 case rest =>
  clear HC2; try clear p2; try clear c3; try clear c3b0; try clear c3b1; try clear c4; try clear c4b0; try clear c4b1; try clear p5; try clear q5; try clear hx5; try clear qi5; try clear p5; try clear q5
  obtain ⟨kq, x13_1, rfl, HA, HJ1, HB⟩ := hcut
  cases kq with
  | zero => exact absurd HA.out (by simp [ok_number.j0])
  | succ kj1 =>
   have H := HA.out
   clear HA
   simp only [ok_number.j0] at H
   by_cases c6 : x13_1 = true
   ·subst c6
    rw [if_pos rfl] at H
    exact absurd H (by simp)
   ·replace c6 := Bool.eq_false_iff.mpr c6
    subst c6
    have H1 : (ok_number.l0 kj1 a0 0 (a0.size : Int) 0) = some (r1, r2) := by rw [if_neg (show ¬ (false = true) by decide)] at H; exact H
    clear H
    have H := H1
    clear H1
    have H' := yA H
    clear H
    go_wp2
    go_loopg [4, 16] kj1 (fun kq v4 v16 w' => ∃ (x4_2 : Int) (x16_2 : Int), v4 = .int .i64 x4_2 ∧ v16 = .int .i64 x16_2 ∧ Aside0 (ok_number.l0 kq a0 x4_2 (a0.size : Int) x16_2 = some (r1, r2)) ∧ Aside0 (kq ≤ kj1) ∧ Aside0 (Below w.heap.size w w'))
    case atStart => exact ⟨(0), (0), (by first | rfl | (simp; done) | (simp [*]; done)), (by first | rfl | (simp; done) | (simp [*]; done)), H', ⟨Nat.le_refl _⟩, ⟨by repeat (first | exact HB.out | apply yE | apply yD)⟩⟩
    case round =>
     clear H'
     try clear p2; try clear c3; try clear c3b0; try clear c3b1; try clear c4; try clear c4b0; try clear c4b1; try clear p5; try clear q5; try clear hx5; try clear qi5; try clear c6; try clear p2; try clear p5; try clear q5
     obtain ⟨x4_2, x16_2, rfl, rfl, HA, HK2, HB⟩ := hrel
     cases gk with
     | zero => exact absurd HA.out (by simp [ok_number.l0])
     | succ k2 =>
      have H := HA.out
      clear HA
      simp only [ok_number.l0] at H
      by_cases c7 : x16_2 < (a0.size : Int)
      ·rw [if_pos c7] at H
       have c7b0 : decide (x16_2 < (a0.size : Int)) = true := yL c7
       clear c7
       by_cases c8 : 0 ≤ x16_2
       ·rw [if_pos c8] at H
        have c8b0 : decide (0 ≤ x16_2) = true := yL c8
        clear c8
        by_cases c9 : x16_2 < (a0.size : Int)
        ·rw [if_pos c9] at H
         have c9b0 : decide (x16_2 < (a0.size : Int)) = true := yL c9
         clear c9
         by_cases c11 : (bt a0 x16_2) < 48
         ·rw [if_pos c11] at H
          exact absurd H (by simp)
         ·rw [if_neg c11] at H
          have c11b0 : decide ((bt a0 x16_2) < 48) = false := yM c11
          clear c11
          by_cases c13 : (bt a0 x16_2) > 57
          ·rw [if_pos c13] at H
           exact absurd H (by simp)
          ·rw [if_neg c13] at H
           have c13b0 : decide (57 < (bt a0 x16_2)) = false := yM c13
           clear c13
           obtain ⟨ji15, hji15⟩ : ∃ j_ : Int, (mn (wrap64 ((wrap64 (10 * x4_2)) + (((bt a0 x16_2) - 48) % 256))) 4096) = j_ := ⟨_, rfl⟩
           replace H : (ok_number.l0 k2 a0 ji15 (a0.size : Int) (wrap64 (x16_2 + 1))) = some (r1, r2) := by first | (rw [hji15] at H; exact H) | (simp only [hji15] at H ⊢; exact H)
           have hji15_ : (if 4096 < (wrap64 ((wrap64 (10 * x4_2)) + (((bt a0 x16_2) - 48) % 256))) then 4096 else (wrap64 ((wrap64 (10 * x4_2)) + (((bt a0 x16_2) - 48) % 256)))) = ji15 := hji15
           have H' := yA H
           clear H
           have p10 : 0 ≤ (x16_2 : Int) := yN (by first | (with_reducible assumption) | assumption)
           have q10 : x16_2 < (a0.size : Int) := yN (by first | (with_reducible assumption) | assumption)
           have hx10 := bt_at a0 x16_2
           replace p10 := eq_true p10
           replace q10 := eq_true q10
           have p12 : 0 ≤ (x16_2 : Int) := yN (by first | (with_reducible assumption) | assumption)
           have q12 : x16_2 < (a0.size : Int) := yN (by first | (with_reducible assumption) | assumption)
           have hx12 := bt_at a0 x16_2
           replace p12 := eq_true p12
           replace q12 := eq_true q12
           have p14 : 0 ≤ (x16_2 : Int) := yN (by first | (with_reducible assumption) | assumption)
           have q14 : x16_2 < (a0.size : Int) := yN (by first | (with_reducible assumption) | assumption)
           have hx14 := bt_at a0 x16_2
           replace p14 := eq_true p14
           replace q14 := eq_true q14
           go_wp2
           go_roundg k2
           case measure => have := HJ1.out; have := HK2.out; omega
           case rel => exact ⟨(ji15), (wrap64 (x16_2 + 1)), (by first | rfl | (simp; done) | (simp only [← hji15] <;> (first | rfl | simp)) | (simp [*]; done)), (by first | rfl | (simp; done) | (simp [*]; done)), H', ⟨by have := HJ1.out; have := HK2.out; omega⟩, ⟨by repeat (first | exact HB.out | apply yE | apply yD)⟩⟩
        ·rw [if_neg c9] at H
         exact absurd H (by simp)
       ·rw [if_neg c8] at H
        exact absurd H (by simp)
      ·rw [if_neg c7] at H
       have c7b0 : decide (x16_2 < (a0.size : Int)) = false := yM c7
       clear c7
       simp only [Option.some.injEq, Prod.mk.injEq] at H
       obtain ⟨rfl, rfl⟩ := H
       go_wp2
       go_ret2
       exact ⟨by first | rfl | (simp [errW_none, errW_some] <;> rfl) | (simp [*, errW_none, errW_some] <;> rfl), by repeat (first | exact HB.out | apply yE | apply yD)⟩
end Go.Proofs.YtppojbafagneeaaDoor.PTab
