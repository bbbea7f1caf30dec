/- Own text: num.Text, after the text that the kit's printer writes. -/
import Derived.Test.YtogbeegkhgkdaaaDoorTextOwn
import Derived.WalkMore
import Derived.Deep.DeepMust
import Derived.Outline
import Derived.Deep.RegionWith
namespace Go.Proofs.YtogbeegkhgkdaaaDoor.PText
open Go.RowKit Go.Proofs.YtogbeegkhgkdaaaDoorW.PrintWords Go.Proofs.YtogbeegkhgkdaaaDoorW.PrintLast Go.Proofs.YtogbeegkhgkdaaaDoorW.PrintMore
attribute [local go_sem] max2_int min2_int max_two min_two max_three min_three max_four min_four   -- for this text's walks alone
set_option linter.unusedVariables false
set_option linter.unusedSimpArgs false
/-! ### num_Text: function 6 -/
def num_Text.j0 : Nat → Int → Int → Bool → Option (ByteArray × Int)
  | 0, _, _, _ => none
  | k + 1, x0, x1, x13 => if x13 = true then (some ((⟨#[]⟩ : ByteArray), 1)) else ((strconv_Itoa_10.f x0).bind fun t125 => (if x0 < 0 then (if 1 ≤ (t125.size : Int) then (if x1 > 0 then ((strings_Repeat.f (⟨#[48]⟩ : ByteArray) (mx 0 (wrap64 ((wrap64 (x1 + 1)) - ((t125.extract 1 t125.size).size : Int))))).bind fun t126 => (if t126.size + (t125.extract 1 t125.size).size ≤ 9223372036854775807 then (if 0 ≤ (wrap64 (((t126 ++ (t125.extract 1 t125.size)).size : Int) - x1)) then (if (wrap64 (((t126 ++ (t125.extract 1 t125.size)).size : Int) - x1)) ≤ ((t126 ++ (t125.extract 1 t125.size)).size : Int) then (if ((t126 ++ (t125.extract 1 t125.size)).extract 0 ((wrap64 (((t126 ++ (t125.extract 1 t125.size)).size : Int) - x1)) : Int).toNat).size + 1 ≤ 9223372036854775807 then (if (((t126 ++ (t125.extract 1 t125.size)).extract 0 ((wrap64 (((t126 ++ (t125.extract 1 t125.size)).size : Int) - x1)) : Int).toNat) ++ (⟨#[46]⟩ : ByteArray)).size + ((t126 ++ (t125.extract 1 t125.size)).extract ((wrap64 (((t126 ++ (t125.extract 1 t125.size)).size : Int) - x1)) : Int).toNat (t126 ++ (t125.extract 1 t125.size)).size).size ≤ 9223372036854775807 then (if 1 + ((((t126 ++ (t125.extract 1 t125.size)).extract 0 ((wrap64 (((t126 ++ (t125.extract 1 t125.size)).size : Int) - x1)) : Int).toNat) ++ (⟨#[46]⟩ : ByteArray)) ++ ((t126 ++ (t125.extract 1 t125.size)).extract ((wrap64 (((t126 ++ (t125.extract 1 t125.size)).size : Int) - x1)) : Int).toNat (t126 ++ (t125.extract 1 t125.size)).size)).size ≤ 9223372036854775807 then (some ((⟨#[45]⟩ : ByteArray) ++ ((((t126 ++ (t125.extract 1 t125.size)).extract 0 ((wrap64 (((t126 ++ (t125.extract 1 t125.size)).size : Int) - x1)) : Int).toNat) ++ (⟨#[46]⟩ : ByteArray)) ++ ((t126 ++ (t125.extract 1 t125.size)).extract ((wrap64 (((t126 ++ (t125.extract 1 t125.size)).size : Int) - x1)) : Int).toNat (t126 ++ (t125.extract 1 t125.size)).size)), 0)) else (none)) else (none)) else (none)) else (none)) else (none)) else (none))) else (if 1 + (t125.extract 1 t125.size).size ≤ 9223372036854775807 then (some ((⟨#[45]⟩ : ByteArray) ++ (t125.extract 1 t125.size), 0)) else (none))) else (none)) else (if x1 > 0 then ((strings_Repeat.f (⟨#[48]⟩ : ByteArray) (mx 0 (wrap64 ((wrap64 (x1 + 1)) - (t125.size : Int))))).bind fun t127 => (if t127.size + t125.size ≤ 9223372036854775807 then (if 0 ≤ (wrap64 (((t127 ++ t125).size : Int) - x1)) then (if (wrap64 (((t127 ++ t125).size : Int) - x1)) ≤ ((t127 ++ t125).size : Int) then (if ((t127 ++ t125).extract 0 ((wrap64 (((t127 ++ t125).size : Int) - x1)) : Int).toNat).size + 1 ≤ 9223372036854775807 then (if (((t127 ++ t125).extract 0 ((wrap64 (((t127 ++ t125).size : Int) - x1)) : Int).toNat) ++ (⟨#[46]⟩ : ByteArray)).size + ((t127 ++ t125).extract ((wrap64 (((t127 ++ t125).size : Int) - x1)) : Int).toNat (t127 ++ t125).size).size ≤ 9223372036854775807 then (if 0 + ((((t127 ++ t125).extract 0 ((wrap64 (((t127 ++ t125).size : Int) - x1)) : Int).toNat) ++ (⟨#[46]⟩ : ByteArray)) ++ ((t127 ++ t125).extract ((wrap64 (((t127 ++ t125).size : Int) - x1)) : Int).toNat (t127 ++ t125).size)).size ≤ 9223372036854775807 then (some ((⟨#[]⟩ : ByteArray) ++ ((((t127 ++ t125).extract 0 ((wrap64 (((t127 ++ t125).size : Int) - x1)) : Int).toNat) ++ (⟨#[46]⟩ : ByteArray)) ++ ((t127 ++ t125).extract ((wrap64 (((t127 ++ t125).size : Int) - x1)) : Int).toNat (t127 ++ t125).size)), 0)) else (none)) else (none)) else (none)) else (none)) else (none)) else (none))) else (if 0 + t125.size ≤ 9223372036854775807 then (some ((⟨#[]⟩ : ByteArray) ++ t125, 0)) else (none)))))
def num_Text.f (k : Nat) (a0 : Int) (a1 : Int) : Option (ByteArray × Int) := if a1 < 0 then (num_Text.j0 k a0 a1 true) else (num_Text.j0 k a0 a1 (decide (a1 > 18)))
theorem num_Text.mono_l : ∀ k, (∀ y0 y1 y2, LeO (num_Text.j0 k y0 y1 y2) (num_Text.j0 (k + 1) y0 y1 y2))
  | 0 => fun _ _ _ r h => by simp [num_Text.j0] at h
  | k + 1 => by
    have ih0 := num_Text.mono_l k
    · intro y0 y1 y2
      unfold num_Text.j0
      repeat' first
      | (with_reducible exact ih0 _ _ _)
      | (with_reducible exact LeO.refl _)
      | (with_reducible exact LeO.none _)
      | (with_reducible refine LeO.ite ?_ ?_)
      | (with_reducible refine LeO.bind ?_ (fun _ => ?_))
      | exact ih0 _ _ _
      | exact LeO.none _
      | refine LeO.ite ?_ ?_
      | refine LeO.bind ?_ (fun _ => ?_)
theorem num_Text.mono : ∀ a0 a1 k, LeO (num_Text.f k a0 a1) (num_Text.f (k + 1) a0 a1) := by
  intro a0 a1 k
  have ih0 := num_Text.mono_l k
  unfold num_Text.f
  repeat' first
      | (with_reducible exact ih0 _ _ _)
      | (with_reducible exact LeO.refl _)
      | (with_reducible exact LeO.none _)
      | (with_reducible refine LeO.ite ?_ ?_)
      | (with_reducible refine LeO.bind ?_ (fun _ => ?_))
      | exact ih0 _ _ _
      | exact LeO.none _
      | refine LeO.ite ?_ ?_
      | refine LeO.bind ?_ (fun _ => ?_)
set_option maxHeartbeats 8000000 in
set_option maxRecDepth 100000 in
theorem num_Text.calls (k : Nat) (a0 : Int) (a1 : Int) (r1 : ByteArray) (r2 : Int) (w : World) (h : num_Text.f k a0 a1 = some (r1, r2)) (hG : Pure.Gl w) :
    Calls Tryd.prog 6 #[.int .i64 a0, .int .i64 a1] w fun e w' => e = .returned (.tuple #[.string r1, .int .i64 r2]) ∧ Below w.heap.size w w' := by
  have HG := Aside0.mk hG
  clear hG
  have HB := Aside0.mk (Below.refl w.heap.size w)
  have H : (if a1 < 0 then (num_Text.j0 k a0 a1 true) else (num_Text.j0 k a0 a1 (decide (a1 > 18)))) = some (r1, r2) := h
  clear h
  have HC3 := Aside0.mk H
  clear H
  go_enter Tryd.func6, Tryd.ntmps6
  go_upto_region 1 with (fail)
  repeat (go_quiet (fail); go_upto_region 1 with (fail))
  go_cut [13] (fun v13 wc => ∃ (kq : Nat) (x13_2 : Bool), v13 = .bool x13_2 ∧ Aside0 (num_Text.j0 kq a0 a1 x13_2 = some (r1, r2)) ∧ Aside0 (kq ≤ k) ∧ Aside0 (Below w.heap.size w wc))
  case first =>
    have H := HC3.out
    clear HC3
    by_cases c4 : a1 < 0
    · rw [if_pos c4] at H
      have c4b0 : decide (a1 < 0) = true := decide_eq_true c4
      clear c4
      (first | rw [c4b0] | (simp only [i64_w, i32_w]; rw [c4b0]) | skip)
      have H' := Aside0.mk H
      clear H
      go_wp2
      repeat (go_quiet (fail); try go_wp2)
      go_meet
      case rel => exact ⟨_, (true), (by first | rfl | (simp; done) | (simp [*]; done)), H', ⟨by first | omega | exact Nat.le_refl _⟩, ⟨by repeat (first | (with_reducible first | exact HB.out | apply below_alloc | apply pw_below_drewN | apply below_drew1) | exact HB.out)⟩⟩
    · rw [if_neg c4] at H
      have c4b0 : decide (a1 < 0) = false := decide_eq_false c4
      clear c4
      (first | rw [c4b0] | (simp only [i64_w, i32_w]; rw [c4b0]) | skip)
      have H' := Aside0.mk H
      clear H
      go_wp2
      repeat (go_quiet (fail); try go_wp2)
      go_meet
      case rel => exact ⟨_, (decide (a1 > 18)), (by first | rfl | (simp; done) | (simp [*]; done)), H', ⟨by first | omega | exact Nat.le_refl _⟩, ⟨by repeat (first | (with_reducible first | exact HB.out | apply below_alloc | apply pw_below_drewN | apply below_drew1) | exact HB.out)⟩⟩
  case rest =>
    clear HC3
    try clear p2
    try clear c4
    try clear c4b0
    obtain ⟨kq, x13_2, rfl, HA, HJ2, HB⟩ := hcut
    cases kq with
    | zero => exact absurd HA.out (by simp [num_Text.j0])
    | succ kj2 =>
      have H := HA.out
      clear HA
      simp only [num_Text.j0] at H
      by_cases c5 : x13_2 = true
      · subst c5
        have H1 : (some ((⟨#[]⟩ : ByteArray), 1)) = some (r1, r2) := by rw [if_pos rfl] at H; exact H
        clear H
        have H := H1
        clear H1
        simp only [Option.some.injEq, Prod.mk.injEq] at H
        obtain ⟨rfl, rfl⟩ := H
        go_wp2
        repeat (go_quiet (fail); try go_wp2)
        go_ret2
        exact ⟨by first | rfl | (simp [errW_none, errW_some] <;> rfl) | (simp [*, errW_none, errW_some] <;> rfl), by repeat (first | (with_reducible first | exact HB.out | apply below_alloc | apply pw_below_drewN | apply below_drew1) | exact HB.out)⟩
      · replace c5 := Bool.eq_false_iff.mpr c5
        subst c5
        have H1 : ((strconv_Itoa_10.f a0).bind fun t125 => (if a0 < 0 then (if 1 ≤ (t125.size : Int) then (if a1 > 0 then ((strings_Repeat.f (⟨#[48]⟩ : ByteArray) (mx 0 (wrap64 ((wrap64 (a1 + 1)) - ((t125.extract 1 t125.size).size : Int))))).bind fun t126 => (if t126.size + (t125.extract 1 t125.size).size ≤ 9223372036854775807 then (if 0 ≤ (wrap64 (((t126 ++ (t125.extract 1 t125.size)).size : Int) - a1)) then (if (wrap64 (((t126 ++ (t125.extract 1 t125.size)).size : Int) - a1)) ≤ ((t126 ++ (t125.extract 1 t125.size)).size : Int) then (if ((t126 ++ (t125.extract 1 t125.size)).extract 0 ((wrap64 (((t126 ++ (t125.extract 1 t125.size)).size : Int) - a1)) : Int).toNat).size + 1 ≤ 9223372036854775807 then (if (((t126 ++ (t125.extract 1 t125.size)).extract 0 ((wrap64 (((t126 ++ (t125.extract 1 t125.size)).size : Int) - a1)) : Int).toNat) ++ (⟨#[46]⟩ : ByteArray)).size + ((t126 ++ (t125.extract 1 t125.size)).extract ((wrap64 (((t126 ++ (t125.extract 1 t125.size)).size : Int) - a1)) : Int).toNat (t126 ++ (t125.extract 1 t125.size)).size).size ≤ 9223372036854775807 then (if 1 + ((((t126 ++ (t125.extract 1 t125.size)).extract 0 ((wrap64 (((t126 ++ (t125.extract 1 t125.size)).size : Int) - a1)) : Int).toNat) ++ (⟨#[46]⟩ : ByteArray)) ++ ((t126 ++ (t125.extract 1 t125.size)).extract ((wrap64 (((t126 ++ (t125.extract 1 t125.size)).size : Int) - a1)) : Int).toNat (t126 ++ (t125.extract 1 t125.size)).size)).size ≤ 9223372036854775807 then (some ((⟨#[45]⟩ : ByteArray) ++ ((((t126 ++ (t125.extract 1 t125.size)).extract 0 ((wrap64 (((t126 ++ (t125.extract 1 t125.size)).size : Int) - a1)) : Int).toNat) ++ (⟨#[46]⟩ : ByteArray)) ++ ((t126 ++ (t125.extract 1 t125.size)).extract ((wrap64 (((t126 ++ (t125.extract 1 t125.size)).size : Int) - a1)) : Int).toNat (t126 ++ (t125.extract 1 t125.size)).size)), 0)) else (none)) else (none)) else (none)) else (none)) else (none)) else (none))) else (if 1 + (t125.extract 1 t125.size).size ≤ 9223372036854775807 then (some ((⟨#[45]⟩ : ByteArray) ++ (t125.extract 1 t125.size), 0)) else (none))) else (none)) else (if a1 > 0 then ((strings_Repeat.f (⟨#[48]⟩ : ByteArray) (mx 0 (wrap64 ((wrap64 (a1 + 1)) - (t125.size : Int))))).bind fun t127 => (if t127.size + t125.size ≤ 9223372036854775807 then (if 0 ≤ (wrap64 (((t127 ++ t125).size : Int) - a1)) then (if (wrap64 (((t127 ++ t125).size : Int) - a1)) ≤ ((t127 ++ t125).size : Int) then (if ((t127 ++ t125).extract 0 ((wrap64 (((t127 ++ t125).size : Int) - a1)) : Int).toNat).size + 1 ≤ 9223372036854775807 then (if (((t127 ++ t125).extract 0 ((wrap64 (((t127 ++ t125).size : Int) - a1)) : Int).toNat) ++ (⟨#[46]⟩ : ByteArray)).size + ((t127 ++ t125).extract ((wrap64 (((t127 ++ t125).size : Int) - a1)) : Int).toNat (t127 ++ t125).size).size ≤ 9223372036854775807 then (if 0 + ((((t127 ++ t125).extract 0 ((wrap64 (((t127 ++ t125).size : Int) - a1)) : Int).toNat) ++ (⟨#[46]⟩ : ByteArray)) ++ ((t127 ++ t125).extract ((wrap64 (((t127 ++ t125).size : Int) - a1)) : Int).toNat (t127 ++ t125).size)).size ≤ 9223372036854775807 then (some ((⟨#[]⟩ : ByteArray) ++ ((((t127 ++ t125).extract 0 ((wrap64 (((t127 ++ t125).size : Int) - a1)) : Int).toNat) ++ (⟨#[46]⟩ : ByteArray)) ++ ((t127 ++ t125).extract ((wrap64 (((t127 ++ t125).size : Int) - a1)) : Int).toNat (t127 ++ t125).size)), 0)) else (none)) else (none)) else (none)) else (none)) else (none)) else (none))) else (if 0 + t125.size ≤ 9223372036854775807 then (some ((⟨#[]⟩ : ByteArray) ++ t125, 0)) else (none))))) = some (r1, r2) := by rw [if_neg (show ¬ (false = true) by decide)] at H; exact H
        clear H
        have H := H1
        clear H1
        replace H := Option.bind_eq_some_iff.mp H
        obtain ⟨t125, A60, H⟩ := H
        replace H : (if a0 < 0 then (if 1 ≤ (t125.size : Int) then (if a1 > 0 then ((strings_Repeat.f (⟨#[48]⟩ : ByteArray) (mx 0 (wrap64 ((wrap64 (a1 + 1)) - ((t125.extract 1 t125.size).size : Int))))).bind fun t126 => (if t126.size + (t125.extract 1 t125.size).size ≤ 9223372036854775807 then (if 0 ≤ (wrap64 (((t126 ++ (t125.extract 1 t125.size)).size : Int) - a1)) then (if (wrap64 (((t126 ++ (t125.extract 1 t125.size)).size : Int) - a1)) ≤ ((t126 ++ (t125.extract 1 t125.size)).size : Int) then (if ((t126 ++ (t125.extract 1 t125.size)).extract 0 ((wrap64 (((t126 ++ (t125.extract 1 t125.size)).size : Int) - a1)) : Int).toNat).size + 1 ≤ 9223372036854775807 then (if (((t126 ++ (t125.extract 1 t125.size)).extract 0 ((wrap64 (((t126 ++ (t125.extract 1 t125.size)).size : Int) - a1)) : Int).toNat) ++ (⟨#[46]⟩ : ByteArray)).size + ((t126 ++ (t125.extract 1 t125.size)).extract ((wrap64 (((t126 ++ (t125.extract 1 t125.size)).size : Int) - a1)) : Int).toNat (t126 ++ (t125.extract 1 t125.size)).size).size ≤ 9223372036854775807 then (if 1 + ((((t126 ++ (t125.extract 1 t125.size)).extract 0 ((wrap64 (((t126 ++ (t125.extract 1 t125.size)).size : Int) - a1)) : Int).toNat) ++ (⟨#[46]⟩ : ByteArray)) ++ ((t126 ++ (t125.extract 1 t125.size)).extract ((wrap64 (((t126 ++ (t125.extract 1 t125.size)).size : Int) - a1)) : Int).toNat (t126 ++ (t125.extract 1 t125.size)).size)).size ≤ 9223372036854775807 then (some ((⟨#[45]⟩ : ByteArray) ++ ((((t126 ++ (t125.extract 1 t125.size)).extract 0 ((wrap64 (((t126 ++ (t125.extract 1 t125.size)).size : Int) - a1)) : Int).toNat) ++ (⟨#[46]⟩ : ByteArray)) ++ ((t126 ++ (t125.extract 1 t125.size)).extract ((wrap64 (((t126 ++ (t125.extract 1 t125.size)).size : Int) - a1)) : Int).toNat (t126 ++ (t125.extract 1 t125.size)).size)), 0)) else (none)) else (none)) else (none)) else (none)) else (none)) else (none))) else (if 1 + (t125.extract 1 t125.size).size ≤ 9223372036854775807 then (some ((⟨#[45]⟩ : ByteArray) ++ (t125.extract 1 t125.size), 0)) else (none))) else (none)) else (if a1 > 0 then ((strings_Repeat.f (⟨#[48]⟩ : ByteArray) (mx 0 (wrap64 ((wrap64 (a1 + 1)) - (t125.size : Int))))).bind fun t127 => (if t127.size + t125.size ≤ 9223372036854775807 then (if 0 ≤ (wrap64 (((t127 ++ t125).size : Int) - a1)) then (if (wrap64 (((t127 ++ t125).size : Int) - a1)) ≤ ((t127 ++ t125).size : Int) then (if ((t127 ++ t125).extract 0 ((wrap64 (((t127 ++ t125).size : Int) - a1)) : Int).toNat).size + 1 ≤ 9223372036854775807 then (if (((t127 ++ t125).extract 0 ((wrap64 (((t127 ++ t125).size : Int) - a1)) : Int).toNat) ++ (⟨#[46]⟩ : ByteArray)).size + ((t127 ++ t125).extract ((wrap64 (((t127 ++ t125).size : Int) - a1)) : Int).toNat (t127 ++ t125).size).size ≤ 9223372036854775807 then (if 0 + ((((t127 ++ t125).extract 0 ((wrap64 (((t127 ++ t125).size : Int) - a1)) : Int).toNat) ++ (⟨#[46]⟩ : ByteArray)) ++ ((t127 ++ t125).extract ((wrap64 (((t127 ++ t125).size : Int) - a1)) : Int).toNat (t127 ++ t125).size)).size ≤ 9223372036854775807 then (some ((⟨#[]⟩ : ByteArray) ++ ((((t127 ++ t125).extract 0 ((wrap64 (((t127 ++ t125).size : Int) - a1)) : Int).toNat) ++ (⟨#[46]⟩ : ByteArray)) ++ ((t127 ++ t125).extract ((wrap64 (((t127 ++ t125).size : Int) - a1)) : Int).toNat (t127 ++ t125).size)), 0)) else (none)) else (none)) else (none)) else (none)) else (none)) else (none))) else (if 0 + t125.size ≤ 9223372036854775807 then (some ((⟨#[]⟩ : ByteArray) ++ t125, 0)) else (none)))) = some (r1, r2) := H
        have A6 := Aside0.mk A60
        clear A60
        by_cases c7 : a0 < 0
        · rw [if_pos c7] at H
          have c7b0 : decide (a0 < 0) = true := decide_eq_true c7
          clear c7
          obtain ⟨u125, hu125⟩ : ∃ s_ : ByteArray, (t125.extract 1 t125.size) = s_ := ⟨_, rfl⟩
          (try rw [hu125] at H)
          by_cases c8 : 1 ≤ (t125.size : Int)
          · rw [if_pos c8] at H
            have c8b0 := eq_true c8
            have c8b1 : decide (1 ≤ (t125.size : Int)) = true := decide_eq_true c8
            clear c8
            by_cases c9 : a1 > 0
            · rw [if_pos c9] at H
              have c9b0 : decide (0 < a1) = true := decide_eq_true c9
              clear c9
              obtain ⟨ji10, hji10⟩ : ∃ j_ : Int, (mx 0 (wrap64 ((wrap64 (a1 + 1)) - (u125.size : Int)))) = j_ := ⟨_, rfl⟩
              replace H : ((strings_Repeat.f (⟨#[48]⟩ : ByteArray) (ji10)).bind fun t126 => (if t126.size + u125.size ≤ 9223372036854775807 then (if 0 ≤ (wrap64 (((t126 ++ u125).size : Int) - a1)) then (if (wrap64 (((t126 ++ u125).size : Int) - a1)) ≤ ((t126 ++ u125).size : Int) then (if ((t126 ++ u125).extract 0 ((wrap64 (((t126 ++ u125).size : Int) - a1)) : Int).toNat).size + 1 ≤ 9223372036854775807 then (if (((t126 ++ u125).extract 0 ((wrap64 (((t126 ++ u125).size : Int) - a1)) : Int).toNat) ++ (⟨#[46]⟩ : ByteArray)).size + ((t126 ++ u125).extract ((wrap64 (((t126 ++ u125).size : Int) - a1)) : Int).toNat (t126 ++ u125).size).size ≤ 9223372036854775807 then (if 1 + ((((t126 ++ u125).extract 0 ((wrap64 (((t126 ++ u125).size : Int) - a1)) : Int).toNat) ++ (⟨#[46]⟩ : ByteArray)) ++ ((t126 ++ u125).extract ((wrap64 (((t126 ++ u125).size : Int) - a1)) : Int).toNat (t126 ++ u125).size)).size ≤ 9223372036854775807 then (some ((⟨#[45]⟩ : ByteArray) ++ ((((t126 ++ u125).extract 0 ((wrap64 (((t126 ++ u125).size : Int) - a1)) : Int).toNat) ++ (⟨#[46]⟩ : ByteArray)) ++ ((t126 ++ u125).extract ((wrap64 (((t126 ++ u125).size : Int) - a1)) : Int).toNat (t126 ++ u125).size)), 0)) else (none)) else (none)) else (none)) else (none)) else (none)) else (none))) = some (r1, r2) := by first | (rw [hji10] at H; exact H) | (simp only [hji10] at H ⊢; exact H)
              (try rw [hji10] at A6)
              have hji10_ : (if 0 < (wrap64 ((wrap64 (a1 + 1)) - (u125.size : Int))) then (wrap64 ((wrap64 (a1 + 1)) - (u125.size : Int))) else 0) = ji10 := hji10
              replace H := Option.bind_eq_some_iff.mp H
              obtain ⟨t126, A110, H⟩ := H
              replace H : (if t126.size + u125.size ≤ 9223372036854775807 then (if 0 ≤ (wrap64 (((t126 ++ u125).size : Int) - a1)) then (if (wrap64 (((t126 ++ u125).size : Int) - a1)) ≤ ((t126 ++ u125).size : Int) then (if ((t126 ++ u125).extract 0 ((wrap64 (((t126 ++ u125).size : Int) - a1)) : Int).toNat).size + 1 ≤ 9223372036854775807 then (if (((t126 ++ u125).extract 0 ((wrap64 (((t126 ++ u125).size : Int) - a1)) : Int).toNat) ++ (⟨#[46]⟩ : ByteArray)).size + ((t126 ++ u125).extract ((wrap64 (((t126 ++ u125).size : Int) - a1)) : Int).toNat (t126 ++ u125).size).size ≤ 9223372036854775807 then (if 1 + ((((t126 ++ u125).extract 0 ((wrap64 (((t126 ++ u125).size : Int) - a1)) : Int).toNat) ++ (⟨#[46]⟩ : ByteArray)) ++ ((t126 ++ u125).extract ((wrap64 (((t126 ++ u125).size : Int) - a1)) : Int).toNat (t126 ++ u125).size)).size ≤ 9223372036854775807 then (some ((⟨#[45]⟩ : ByteArray) ++ ((((t126 ++ u125).extract 0 ((wrap64 (((t126 ++ u125).size : Int) - a1)) : Int).toNat) ++ (⟨#[46]⟩ : ByteArray)) ++ ((t126 ++ u125).extract ((wrap64 (((t126 ++ u125).size : Int) - a1)) : Int).toNat (t126 ++ u125).size)), 0)) else (none)) else (none)) else (none)) else (none)) else (none)) else (none)) = some (r1, r2) := H
              have A11 := Aside0.mk A110
              clear A110
              obtain ⟨s126, hs126⟩ : ∃ s_ : ByteArray, (t126 ++ u125) = s_ := ⟨_, rfl⟩
              (try rw [hs126] at H)
              by_cases c12 : t126.size + u125.size ≤ 9223372036854775807
              · rw [if_pos c12] at H
                have c12b0 := eq_true c12
                have c12b1 : decide (t126.size + u125.size ≤ 9223372036854775807) = true := decide_eq_true c12
                try have c12b2 : (9223372036854775807 < t126.size + u125.size) = False := eq_false (Nat.not_lt.2 c12)
                obtain ⟨ji13, hji13⟩ : ∃ j_ : Int, (wrap64 ((s126.size : Int) - a1)) = j_ := ⟨_, rfl⟩
                replace H : (if 0 ≤ (ji13) then (if (ji13) ≤ (s126.size : Int) then (if (s126.extract 0 ((ji13) : Int).toNat).size + 1 ≤ 9223372036854775807 then (if ((s126.extract 0 ((ji13) : Int).toNat) ++ (⟨#[46]⟩ : ByteArray)).size + (s126.extract ((ji13) : Int).toNat s126.size).size ≤ 9223372036854775807 then (if 1 + (((s126.extract 0 ((ji13) : Int).toNat) ++ (⟨#[46]⟩ : ByteArray)) ++ (s126.extract ((ji13) : Int).toNat s126.size)).size ≤ 9223372036854775807 then (some ((⟨#[45]⟩ : ByteArray) ++ (((s126.extract 0 ((ji13) : Int).toNat) ++ (⟨#[46]⟩ : ByteArray)) ++ (s126.extract ((ji13) : Int).toNat s126.size)), 0)) else (none)) else (none)) else (none)) else (none)) else (none)) = some (r1, r2) := by first | (rw [hji13] at H; exact H) | (simp only [hji13] at H ⊢; exact H)
                (try rw [hji13] at A6)
                (try rw [hji13] at A11)
                have hji13w : (IntKind.i64.wrap ((s126.size : Int) - a1)) = ji13 := (i64_w _).trans hji13
                obtain ⟨p13, hp13⟩ : ∃ s_ : ByteArray, (s126.extract 0 ((ji13) : Int).toNat) = s_ := ⟨_, rfl⟩
                (try rw [hp13] at H)
                obtain ⟨q13, hq13⟩ : ∃ s_ : ByteArray, (s126.extract ((ji13) : Int).toNat s126.size) = s_ := ⟨_, rfl⟩
                (try rw [hq13] at H)
                obtain ⟨r13, hr13⟩ : ∃ s_ : ByteArray, (p13 ++ (⟨#[46]⟩ : ByteArray)) = s_ := ⟨_, rfl⟩
                (try rw [hr13] at H)
                obtain ⟨v13, hv13⟩ : ∃ s_ : ByteArray, (r13 ++ q13) = s_ := ⟨_, rfl⟩
                (try rw [hv13] at H)
                by_cases c14 : 0 ≤ (ji13)
                · rw [if_pos c14] at H
                  have c14b0 := eq_true c14
                  have c14b1 : decide (0 ≤ (ji13)) = true := decide_eq_true c14
                  clear c14
                  by_cases c15 : (ji13) ≤ (s126.size : Int)
                  · rw [if_pos c15] at H
                    have c15b0 := eq_true c15
                    have c15b1 : decide ((ji13) ≤ (s126.size : Int)) = true := decide_eq_true c15
                    by_cases c16 : p13.size + 1 ≤ 9223372036854775807
                    · rw [if_pos c16] at H
                      have c16b0 := eq_true c16
                      have c16b1 : decide (p13.size + 1 ≤ 9223372036854775807) = true := decide_eq_true c16
                      try have c16b2 : (9223372036854775807 < p13.size + 1) = False := eq_false (Nat.not_lt.2 c16)
                      have c17b0 := eq_true (of_decide_eq_true (by first | (with_reducible assumption) | assumption) : 0 ≤ (ji13))
                      have c18b0 := eq_true (of_decide_eq_true (by first | (with_reducible assumption) | assumption) : (ji13) ≤ (s126.size : Int))
                      by_cases c19 : r13.size + q13.size ≤ 9223372036854775807
                      · rw [if_pos c19] at H
                        have c19b0 := eq_true c19
                        have c19b1 : decide (r13.size + q13.size ≤ 9223372036854775807) = true := decide_eq_true c19
                        try have c19b2 : (9223372036854775807 < r13.size + q13.size) = False := eq_false (Nat.not_lt.2 c19)
                        by_cases c20 : 1 + v13.size ≤ 9223372036854775807
                        · rw [if_pos c20] at H
                          have c20b0 := eq_true c20
                          have c20b1 : decide (1 + v13.size ≤ 9223372036854775807) = true := decide_eq_true c20
                          try have c20b2 : (9223372036854775807 < 1 + v13.size) = False := eq_false (Nat.not_lt.2 c20)
                          simp only [Option.some.injEq, Prod.mk.injEq] at H
                          obtain ⟨rfl, rfl⟩ := H
                          go_wp2_with (first | (go_at_call 10; (with_reducible refine (strconv_Itoa_10.calls a0 t125 _ A6.out (Pure.Gl.below HG.out (by repeat (first | (with_reducible first | exact HB.out | apply below_alloc | apply pw_below_drewN | apply below_drew1 | (refine below_set ?_ (by first | exact trivial )) ) | exact HB.out)))).mono ?_); rintro e w21 ⟨rfl, hb⟩; have n0_ := Aside0.mk (below_step (by repeat (first | (with_reducible first | exact HB.out | apply below_alloc | apply pw_below_drewN | apply below_drew1) | exact HB.out)) hb); clear HB; have HB := n0_; clear n0_; (try clear hb); (try clear hb2); (try clear hk); (try clear hi)) | (go_at_call 11; (with_reducible refine (strings_Repeat.calls (⟨#[48]⟩ : ByteArray) ji10 t126 _ A11.out).mono ?_); rintro e w22 ⟨rfl, hb⟩; have n0_ := Aside0.mk (below_step (by repeat (first | (with_reducible first | exact HB.out | apply below_alloc | apply pw_below_drewN | apply below_drew1) | exact HB.out)) hb); clear HB; have HB := n0_; clear n0_; (try clear hb); (try clear hb2); (try clear hk); (try clear hi)))
                          repeat (go_quiet (first | (go_at_call 10; (with_reducible refine (strconv_Itoa_10.calls a0 t125 _ A6.out (Pure.Gl.below HG.out (by repeat (first | (with_reducible first | exact HB.out | apply below_alloc | apply pw_below_drewN | apply below_drew1 | (refine below_set ?_ (by first | exact trivial )) ) | exact HB.out)))).mono ?_); rintro e w21 ⟨rfl, hb⟩; have n0_ := Aside0.mk (below_step (by repeat (first | (with_reducible first | exact HB.out | apply below_alloc | apply pw_below_drewN | apply below_drew1) | exact HB.out)) hb); clear HB; have HB := n0_; clear n0_; (try clear hb); (try clear hb2); (try clear hk); (try clear hi)) | (go_at_call 11; (with_reducible refine (strings_Repeat.calls (⟨#[48]⟩ : ByteArray) ji10 t126 _ A11.out).mono ?_); rintro e w22 ⟨rfl, hb⟩; have n0_ := Aside0.mk (below_step (by repeat (first | (with_reducible first | exact HB.out | apply below_alloc | apply pw_below_drewN | apply below_drew1) | exact HB.out)) hb); clear HB; have HB := n0_; clear n0_; (try clear hb); (try clear hb2); (try clear hk); (try clear hi))); try go_wp2_with (first | (go_at_call 10; (with_reducible refine (strconv_Itoa_10.calls a0 t125 _ A6.out (Pure.Gl.below HG.out (by repeat (first | (with_reducible first | exact HB.out | apply below_alloc | apply pw_below_drewN | apply below_drew1 | (refine below_set ?_ (by first | exact trivial )) ) | exact HB.out)))).mono ?_); rintro e w21 ⟨rfl, hb⟩; have n0_ := Aside0.mk (below_step (by repeat (first | (with_reducible first | exact HB.out | apply below_alloc | apply pw_below_drewN | apply below_drew1) | exact HB.out)) hb); clear HB; have HB := n0_; clear n0_; (try clear hb); (try clear hb2); (try clear hk); (try clear hi)) | (go_at_call 11; (with_reducible refine (strings_Repeat.calls (⟨#[48]⟩ : ByteArray) ji10 t126 _ A11.out).mono ?_); rintro e w22 ⟨rfl, hb⟩; have n0_ := Aside0.mk (below_step (by repeat (first | (with_reducible first | exact HB.out | apply below_alloc | apply pw_below_drewN | apply below_drew1) | exact HB.out)) hb); clear HB; have HB := n0_; clear n0_; (try clear hb); (try clear hb2); (try clear hk); (try clear hi))))
                          go_ret2
                          exact ⟨by first | rfl | (simp [errW_none, errW_some] <;> rfl) | (simp only [← hji10, ← hji13]; first | rfl | (simp [errW_none, errW_some] <;> rfl)) | (simp [*, errW_none, errW_some] <;> rfl), by repeat (first | (with_reducible first | exact HB.out | apply below_alloc | apply pw_below_drewN | apply below_drew1) | exact HB.out)⟩
                        · rw [if_neg c20] at H
                          exact absurd H (by simp)
                      · rw [if_neg c19] at H
                        exact absurd H (by simp)
                    · rw [if_neg c16] at H
                      exact absurd H (by simp)
                  · rw [if_neg c15] at H
                    exact absurd H (by simp)
                · rw [if_neg c14] at H
                  exact absurd H (by simp)
              · rw [if_neg c12] at H
                exact absurd H (by simp)
            · rw [if_neg c9] at H
              have c9b0 : decide (0 < a1) = false := decide_eq_false c9
              clear c9
              by_cases c23 : 1 + u125.size ≤ 9223372036854775807
              · rw [if_pos c23] at H
                have c23b0 := eq_true c23
                have c23b1 : decide (1 + u125.size ≤ 9223372036854775807) = true := decide_eq_true c23
                try have c23b2 : (9223372036854775807 < 1 + u125.size) = False := eq_false (Nat.not_lt.2 c23)
                simp only [Option.some.injEq, Prod.mk.injEq] at H
                obtain ⟨rfl, rfl⟩ := H
                go_wp2_with (first | (go_at_call 10; (with_reducible refine (strconv_Itoa_10.calls a0 t125 _ A6.out (Pure.Gl.below HG.out (by repeat (first | (with_reducible first | exact HB.out | apply below_alloc | apply pw_below_drewN | apply below_drew1 | (refine below_set ?_ (by first | exact trivial )) ) | exact HB.out)))).mono ?_); rintro e w24 ⟨rfl, hb⟩; have n0_ := Aside0.mk (below_step (by repeat (first | (with_reducible first | exact HB.out | apply below_alloc | apply pw_below_drewN | apply below_drew1) | exact HB.out)) hb); clear HB; have HB := n0_; clear n0_; (try clear hb); (try clear hb2); (try clear hk); (try clear hi)))
                repeat (go_quiet (first | (go_at_call 10; (with_reducible refine (strconv_Itoa_10.calls a0 t125 _ A6.out (Pure.Gl.below HG.out (by repeat (first | (with_reducible first | exact HB.out | apply below_alloc | apply pw_below_drewN | apply below_drew1 | (refine below_set ?_ (by first | exact trivial )) ) | exact HB.out)))).mono ?_); rintro e w24 ⟨rfl, hb⟩; have n0_ := Aside0.mk (below_step (by repeat (first | (with_reducible first | exact HB.out | apply below_alloc | apply pw_below_drewN | apply below_drew1) | exact HB.out)) hb); clear HB; have HB := n0_; clear n0_; (try clear hb); (try clear hb2); (try clear hk); (try clear hi))); try go_wp2_with (first | (go_at_call 10; (with_reducible refine (strconv_Itoa_10.calls a0 t125 _ A6.out (Pure.Gl.below HG.out (by repeat (first | (with_reducible first | exact HB.out | apply below_alloc | apply pw_below_drewN | apply below_drew1 | (refine below_set ?_ (by first | exact trivial )) ) | exact HB.out)))).mono ?_); rintro e w24 ⟨rfl, hb⟩; have n0_ := Aside0.mk (below_step (by repeat (first | (with_reducible first | exact HB.out | apply below_alloc | apply pw_below_drewN | apply below_drew1) | exact HB.out)) hb); clear HB; have HB := n0_; clear n0_; (try clear hb); (try clear hb2); (try clear hk); (try clear hi))))
                go_ret2
                exact ⟨by first | rfl | (simp [errW_none, errW_some] <;> rfl) | (simp [*, errW_none, errW_some] <;> rfl), by repeat (first | (with_reducible first | exact HB.out | apply below_alloc | apply pw_below_drewN | apply below_drew1) | exact HB.out)⟩
              · rw [if_neg c23] at H
                exact absurd H (by simp)
          · rw [if_neg c8] at H
            exact absurd H (by simp)
        · rw [if_neg c7] at H
          have c7b0 : decide (a0 < 0) = false := decide_eq_false c7
          clear c7
          by_cases c25 : a1 > 0
          · rw [if_pos c25] at H
            have c25b0 : decide (0 < a1) = true := decide_eq_true c25
            clear c25
            obtain ⟨ji26, hji26⟩ : ∃ j_ : Int, (mx 0 (wrap64 ((wrap64 (a1 + 1)) - (t125.size : Int)))) = j_ := ⟨_, rfl⟩
            replace H : ((strings_Repeat.f (⟨#[48]⟩ : ByteArray) (ji26)).bind fun t127 => (if t127.size + t125.size ≤ 9223372036854775807 then (if 0 ≤ (wrap64 (((t127 ++ t125).size : Int) - a1)) then (if (wrap64 (((t127 ++ t125).size : Int) - a1)) ≤ ((t127 ++ t125).size : Int) then (if ((t127 ++ t125).extract 0 ((wrap64 (((t127 ++ t125).size : Int) - a1)) : Int).toNat).size + 1 ≤ 9223372036854775807 then (if (((t127 ++ t125).extract 0 ((wrap64 (((t127 ++ t125).size : Int) - a1)) : Int).toNat) ++ (⟨#[46]⟩ : ByteArray)).size + ((t127 ++ t125).extract ((wrap64 (((t127 ++ t125).size : Int) - a1)) : Int).toNat (t127 ++ t125).size).size ≤ 9223372036854775807 then (if 0 + ((((t127 ++ t125).extract 0 ((wrap64 (((t127 ++ t125).size : Int) - a1)) : Int).toNat) ++ (⟨#[46]⟩ : ByteArray)) ++ ((t127 ++ t125).extract ((wrap64 (((t127 ++ t125).size : Int) - a1)) : Int).toNat (t127 ++ t125).size)).size ≤ 9223372036854775807 then (some ((⟨#[]⟩ : ByteArray) ++ ((((t127 ++ t125).extract 0 ((wrap64 (((t127 ++ t125).size : Int) - a1)) : Int).toNat) ++ (⟨#[46]⟩ : ByteArray)) ++ ((t127 ++ t125).extract ((wrap64 (((t127 ++ t125).size : Int) - a1)) : Int).toNat (t127 ++ t125).size)), 0)) else (none)) else (none)) else (none)) else (none)) else (none)) else (none))) = some (r1, r2) := by first | (rw [hji26] at H; exact H) | (simp only [hji26] at H ⊢; exact H)
            (try rw [hji26] at A6)
            have hji26_ : (if 0 < (wrap64 ((wrap64 (a1 + 1)) - (t125.size : Int))) then (wrap64 ((wrap64 (a1 + 1)) - (t125.size : Int))) else 0) = ji26 := hji26
            replace H := Option.bind_eq_some_iff.mp H
            obtain ⟨t127, A270, H⟩ := H
            replace H : (if t127.size + t125.size ≤ 9223372036854775807 then (if 0 ≤ (wrap64 (((t127 ++ t125).size : Int) - a1)) then (if (wrap64 (((t127 ++ t125).size : Int) - a1)) ≤ ((t127 ++ t125).size : Int) then (if ((t127 ++ t125).extract 0 ((wrap64 (((t127 ++ t125).size : Int) - a1)) : Int).toNat).size + 1 ≤ 9223372036854775807 then (if (((t127 ++ t125).extract 0 ((wrap64 (((t127 ++ t125).size : Int) - a1)) : Int).toNat) ++ (⟨#[46]⟩ : ByteArray)).size + ((t127 ++ t125).extract ((wrap64 (((t127 ++ t125).size : Int) - a1)) : Int).toNat (t127 ++ t125).size).size ≤ 9223372036854775807 then (if 0 + ((((t127 ++ t125).extract 0 ((wrap64 (((t127 ++ t125).size : Int) - a1)) : Int).toNat) ++ (⟨#[46]⟩ : ByteArray)) ++ ((t127 ++ t125).extract ((wrap64 (((t127 ++ t125).size : Int) - a1)) : Int).toNat (t127 ++ t125).size)).size ≤ 9223372036854775807 then (some ((⟨#[]⟩ : ByteArray) ++ ((((t127 ++ t125).extract 0 ((wrap64 (((t127 ++ t125).size : Int) - a1)) : Int).toNat) ++ (⟨#[46]⟩ : ByteArray)) ++ ((t127 ++ t125).extract ((wrap64 (((t127 ++ t125).size : Int) - a1)) : Int).toNat (t127 ++ t125).size)), 0)) else (none)) else (none)) else (none)) else (none)) else (none)) else (none)) = some (r1, r2) := H
            have A27 := Aside0.mk A270
            clear A270
            obtain ⟨s127, hs127⟩ : ∃ s_ : ByteArray, (t127 ++ t125) = s_ := ⟨_, rfl⟩
            (try rw [hs127] at H)
            by_cases c28 : t127.size + t125.size ≤ 9223372036854775807
            · rw [if_pos c28] at H
              have c28b0 := eq_true c28
              have c28b1 : decide (t127.size + t125.size ≤ 9223372036854775807) = true := decide_eq_true c28
              try have c28b2 : (9223372036854775807 < t127.size + t125.size) = False := eq_false (Nat.not_lt.2 c28)
              obtain ⟨ji29, hji29⟩ : ∃ j_ : Int, (wrap64 ((s127.size : Int) - a1)) = j_ := ⟨_, rfl⟩
              replace H : (if 0 ≤ (ji29) then (if (ji29) ≤ (s127.size : Int) then (if (s127.extract 0 ((ji29) : Int).toNat).size + 1 ≤ 9223372036854775807 then (if ((s127.extract 0 ((ji29) : Int).toNat) ++ (⟨#[46]⟩ : ByteArray)).size + (s127.extract ((ji29) : Int).toNat s127.size).size ≤ 9223372036854775807 then (if 0 + (((s127.extract 0 ((ji29) : Int).toNat) ++ (⟨#[46]⟩ : ByteArray)) ++ (s127.extract ((ji29) : Int).toNat s127.size)).size ≤ 9223372036854775807 then (some ((⟨#[]⟩ : ByteArray) ++ (((s127.extract 0 ((ji29) : Int).toNat) ++ (⟨#[46]⟩ : ByteArray)) ++ (s127.extract ((ji29) : Int).toNat s127.size)), 0)) else (none)) else (none)) else (none)) else (none)) else (none)) = some (r1, r2) := by first | (rw [hji29] at H; exact H) | (simp only [hji29] at H ⊢; exact H)
              (try rw [hji29] at A6)
              (try rw [hji29] at A27)
              have hji29w : (IntKind.i64.wrap ((s127.size : Int) - a1)) = ji29 := (i64_w _).trans hji29
              obtain ⟨p29, hp29⟩ : ∃ s_ : ByteArray, (s127.extract 0 ((ji29) : Int).toNat) = s_ := ⟨_, rfl⟩
              (try rw [hp29] at H)
              obtain ⟨q29, hq29⟩ : ∃ s_ : ByteArray, (s127.extract ((ji29) : Int).toNat s127.size) = s_ := ⟨_, rfl⟩
              (try rw [hq29] at H)
              obtain ⟨r29, hr29⟩ : ∃ s_ : ByteArray, (p29 ++ (⟨#[46]⟩ : ByteArray)) = s_ := ⟨_, rfl⟩
              (try rw [hr29] at H)
              obtain ⟨v29, hv29⟩ : ∃ s_ : ByteArray, (r29 ++ q29) = s_ := ⟨_, rfl⟩
              (try rw [hv29] at H)
              by_cases c30 : 0 ≤ (ji29)
              · rw [if_pos c30] at H
                have c30b0 := eq_true c30
                have c30b1 : decide (0 ≤ (ji29)) = true := decide_eq_true c30
                clear c30
                by_cases c31 : (ji29) ≤ (s127.size : Int)
                · rw [if_pos c31] at H
                  have c31b0 := eq_true c31
                  have c31b1 : decide ((ji29) ≤ (s127.size : Int)) = true := decide_eq_true c31
                  by_cases c32 : p29.size + 1 ≤ 9223372036854775807
                  · rw [if_pos c32] at H
                    have c32b0 := eq_true c32
                    have c32b1 : decide (p29.size + 1 ≤ 9223372036854775807) = true := decide_eq_true c32
                    try have c32b2 : (9223372036854775807 < p29.size + 1) = False := eq_false (Nat.not_lt.2 c32)
                    have c33b0 := eq_true (of_decide_eq_true (by first | (with_reducible assumption) | assumption) : 0 ≤ (ji29))
                    have c34b0 := eq_true (of_decide_eq_true (by first | (with_reducible assumption) | assumption) : (ji29) ≤ (s127.size : Int))
                    by_cases c35 : r29.size + q29.size ≤ 9223372036854775807
                    · rw [if_pos c35] at H
                      have c35b0 := eq_true c35
                      have c35b1 : decide (r29.size + q29.size ≤ 9223372036854775807) = true := decide_eq_true c35
                      try have c35b2 : (9223372036854775807 < r29.size + q29.size) = False := eq_false (Nat.not_lt.2 c35)
                      by_cases c36 : 0 + v29.size ≤ 9223372036854775807
                      · rw [if_pos c36] at H
                        have c36b0 := eq_true c36
                        have c36b1 : decide (0 + v29.size ≤ 9223372036854775807) = true := decide_eq_true c36
                        try have c36b2 : (9223372036854775807 < 0 + v29.size) = False := eq_false (Nat.not_lt.2 c36)
                        simp only [Option.some.injEq, Prod.mk.injEq] at H
                        obtain ⟨rfl, rfl⟩ := H
                        go_wp2_with (first | (go_at_call 10; (with_reducible refine (strconv_Itoa_10.calls a0 t125 _ A6.out (Pure.Gl.below HG.out (by repeat (first | (with_reducible first | exact HB.out | apply below_alloc | apply pw_below_drewN | apply below_drew1 | (refine below_set ?_ (by first | exact trivial )) ) | exact HB.out)))).mono ?_); rintro e w37 ⟨rfl, hb⟩; have n0_ := Aside0.mk (below_step (by repeat (first | (with_reducible first | exact HB.out | apply below_alloc | apply pw_below_drewN | apply below_drew1) | exact HB.out)) hb); clear HB; have HB := n0_; clear n0_; (try clear hb); (try clear hb2); (try clear hk); (try clear hi)) | (go_at_call 11; (with_reducible refine (strings_Repeat.calls (⟨#[48]⟩ : ByteArray) ji26 t127 _ A27.out).mono ?_); rintro e w38 ⟨rfl, hb⟩; have n0_ := Aside0.mk (below_step (by repeat (first | (with_reducible first | exact HB.out | apply below_alloc | apply pw_below_drewN | apply below_drew1) | exact HB.out)) hb); clear HB; have HB := n0_; clear n0_; (try clear hb); (try clear hb2); (try clear hk); (try clear hi)))
                        repeat (go_quiet (first | (go_at_call 10; (with_reducible refine (strconv_Itoa_10.calls a0 t125 _ A6.out (Pure.Gl.below HG.out (by repeat (first | (with_reducible first | exact HB.out | apply below_alloc | apply pw_below_drewN | apply below_drew1 | (refine below_set ?_ (by first | exact trivial )) ) | exact HB.out)))).mono ?_); rintro e w37 ⟨rfl, hb⟩; have n0_ := Aside0.mk (below_step (by repeat (first | (with_reducible first | exact HB.out | apply below_alloc | apply pw_below_drewN | apply below_drew1) | exact HB.out)) hb); clear HB; have HB := n0_; clear n0_; (try clear hb); (try clear hb2); (try clear hk); (try clear hi)) | (go_at_call 11; (with_reducible refine (strings_Repeat.calls (⟨#[48]⟩ : ByteArray) ji26 t127 _ A27.out).mono ?_); rintro e w38 ⟨rfl, hb⟩; have n0_ := Aside0.mk (below_step (by repeat (first | (with_reducible first | exact HB.out | apply below_alloc | apply pw_below_drewN | apply below_drew1) | exact HB.out)) hb); clear HB; have HB := n0_; clear n0_; (try clear hb); (try clear hb2); (try clear hk); (try clear hi))); try go_wp2_with (first | (go_at_call 10; (with_reducible refine (strconv_Itoa_10.calls a0 t125 _ A6.out (Pure.Gl.below HG.out (by repeat (first | (with_reducible first | exact HB.out | apply below_alloc | apply pw_below_drewN | apply below_drew1 | (refine below_set ?_ (by first | exact trivial )) ) | exact HB.out)))).mono ?_); rintro e w37 ⟨rfl, hb⟩; have n0_ := Aside0.mk (below_step (by repeat (first | (with_reducible first | exact HB.out | apply below_alloc | apply pw_below_drewN | apply below_drew1) | exact HB.out)) hb); clear HB; have HB := n0_; clear n0_; (try clear hb); (try clear hb2); (try clear hk); (try clear hi)) | (go_at_call 11; (with_reducible refine (strings_Repeat.calls (⟨#[48]⟩ : ByteArray) ji26 t127 _ A27.out).mono ?_); rintro e w38 ⟨rfl, hb⟩; have n0_ := Aside0.mk (below_step (by repeat (first | (with_reducible first | exact HB.out | apply below_alloc | apply pw_below_drewN | apply below_drew1) | exact HB.out)) hb); clear HB; have HB := n0_; clear n0_; (try clear hb); (try clear hb2); (try clear hk); (try clear hi))))
                        go_ret2
                        exact ⟨by first | rfl | (simp [errW_none, errW_some] <;> rfl) | (simp only [← hji26, ← hji29]; first | rfl | (simp [errW_none, errW_some] <;> rfl)) | (simp [*, errW_none, errW_some] <;> rfl), by repeat (first | (with_reducible first | exact HB.out | apply below_alloc | apply pw_below_drewN | apply below_drew1) | exact HB.out)⟩
                      · rw [if_neg c36] at H
                        exact absurd H (by simp)
                    · rw [if_neg c35] at H
                      exact absurd H (by simp)
                  · rw [if_neg c32] at H
                    exact absurd H (by simp)
                · rw [if_neg c31] at H
                  exact absurd H (by simp)
              · rw [if_neg c30] at H
                exact absurd H (by simp)
            · rw [if_neg c28] at H
              exact absurd H (by simp)
          · rw [if_neg c25] at H
            have c25b0 : decide (0 < a1) = false := decide_eq_false c25
            clear c25
            by_cases c39 : 0 + t125.size ≤ 9223372036854775807
            · rw [if_pos c39] at H
              have c39b0 := eq_true c39
              have c39b1 : decide (0 + t125.size ≤ 9223372036854775807) = true := decide_eq_true c39
              try have c39b2 : (9223372036854775807 < 0 + t125.size) = False := eq_false (Nat.not_lt.2 c39)
              simp only [Option.some.injEq, Prod.mk.injEq] at H
              obtain ⟨rfl, rfl⟩ := H
              go_wp2_with (first | (go_at_call 10; (with_reducible refine (strconv_Itoa_10.calls a0 t125 _ A6.out (Pure.Gl.below HG.out (by repeat (first | (with_reducible first | exact HB.out | apply below_alloc | apply pw_below_drewN | apply below_drew1 | (refine below_set ?_ (by first | exact trivial )) ) | exact HB.out)))).mono ?_); rintro e w40 ⟨rfl, hb⟩; have n0_ := Aside0.mk (below_step (by repeat (first | (with_reducible first | exact HB.out | apply below_alloc | apply pw_below_drewN | apply below_drew1) | exact HB.out)) hb); clear HB; have HB := n0_; clear n0_; (try clear hb); (try clear hb2); (try clear hk); (try clear hi)))
              repeat (go_quiet (first | (go_at_call 10; (with_reducible refine (strconv_Itoa_10.calls a0 t125 _ A6.out (Pure.Gl.below HG.out (by repeat (first | (with_reducible first | exact HB.out | apply below_alloc | apply pw_below_drewN | apply below_drew1 | (refine below_set ?_ (by first | exact trivial )) ) | exact HB.out)))).mono ?_); rintro e w40 ⟨rfl, hb⟩; have n0_ := Aside0.mk (below_step (by repeat (first | (with_reducible first | exact HB.out | apply below_alloc | apply pw_below_drewN | apply below_drew1) | exact HB.out)) hb); clear HB; have HB := n0_; clear n0_; (try clear hb); (try clear hb2); (try clear hk); (try clear hi))); try go_wp2_with (first | (go_at_call 10; (with_reducible refine (strconv_Itoa_10.calls a0 t125 _ A6.out (Pure.Gl.below HG.out (by repeat (first | (with_reducible first | exact HB.out | apply below_alloc | apply pw_below_drewN | apply below_drew1 | (refine below_set ?_ (by first | exact trivial )) ) | exact HB.out)))).mono ?_); rintro e w40 ⟨rfl, hb⟩; have n0_ := Aside0.mk (below_step (by repeat (first | (with_reducible first | exact HB.out | apply below_alloc | apply pw_below_drewN | apply below_drew1) | exact HB.out)) hb); clear HB; have HB := n0_; clear n0_; (try clear hb); (try clear hb2); (try clear hk); (try clear hi))))
              go_ret2
              exact ⟨by first | rfl | (simp [errW_none, errW_some] <;> rfl) | (simp [*, errW_none, errW_some] <;> rfl), by repeat (first | (with_reducible first | exact HB.out | apply below_alloc | apply pw_below_drewN | apply below_drew1) | exact HB.out)⟩
            · rw [if_neg c39] at H
              exact absurd H (by simp)

end Go.Proofs.YtogbeegkhgkdaaaDoor.PText
