/- Own text: functions of law LexNames, after the text that the kit's printer writes. -/
import Derived.Test.YtkfdninngcakpaaDoorQLexx4
import Derived.Test.YtkfdninngcakpaaDoorLexKeys
import Derived.WalkMore
import Derived.Deep.DeepMust
import Derived.Outline
import Derived.Deep.RegionWith
namespace Go.Proofs.YtkfdninngcakpaaDoor.PLex
open Go.RowKit Go.Proofs.YtkfdninngcakpaaDoorW.PrintWords Go.Proofs.YtkfdninngcakpaaDoorW.PrintLast Go.Proofs.YtkfdninngcakpaaDoorW.PrintMore
attribute [local go_sem] max2_int min2_int max_two min_two max_three min_three max_four min_four   -- for this text's walks alone
set_option linter.unusedVariables false
set_option linter.unusedSimpArgs false
attribute [local go_sem high] eqA32
/-! ### lex_Currency: function 17 -/
def lex_Currency.f (a0 : ByteArray) : Option (Bool) := if (a0.size : Int) = 3 then (if 0 < (a0.size : Int) then ((lex_big.f (bt a0 0)).bind fun t222 => (if t222 = true then (if 1 < (a0.size : Int) then ((lex_big.f (bt a0 1)).bind fun t223 => (if t223 = true then (if 2 < (a0.size : Int) then ((lex_big.f (bt a0 2)).bind fun t224 => (some t224)) else (none)) else (some false))) else (none)) else (some false))) else (none)) else (some false)
set_option maxHeartbeats 8000000 in
set_option maxRecDepth 100000 in
theorem lex_Currency.calls (a0 : ByteArray) (r : Bool) (w : World) (h : lex_Currency.f a0 = some r) :
    Calls Tryd.prog 17 #[.string a0] w fun e w' => e = .returned (.bool r) ∧ Drawn0 w w' := by
  have H : (if (a0.size : Int) = 3 then (if 0 < (a0.size : Int) then ((lex_big.f (bt a0 0)).bind fun t222 => (if t222 = true then (if 1 < (a0.size : Int) then ((lex_big.f (bt a0 1)).bind fun t223 => (if t223 = true then (if 2 < (a0.size : Int) then ((lex_big.f (bt a0 2)).bind fun t224 => (some t224)) else (none)) else (some false))) else (none)) else (some false))) else (none)) else (some false)) = some r := h
  clear h
  by_cases c2 : (a0.size : Int) = 3
  · rw [if_pos c2] at H
    have c2b0 : ((a0.size : Int) == 3) = true := beq_iff_eq.mpr c2
    have c2b1 : ((a0.size : Int) != 3) = false := bne_eq_false_iff_eq.mpr c2
    clear c2
    by_cases c3 : 0 < (a0.size : Int)
    · rw [if_pos c3] at H
      have c3b0 : decide (0 < (a0.size : Int)) = true := decide_eq_true c3
      have c3b1 : decide (0 < a0.size) = true := decide_eq_true (by omega)
      clear c3
      replace H := Option.bind_eq_some_iff.mp H
      obtain ⟨t222, A50, H⟩ := H
      replace H : (if t222 = true then (if 1 < (a0.size : Int) then ((lex_big.f (bt a0 1)).bind fun t223 => (if t223 = true then (if 2 < (a0.size : Int) then ((lex_big.f (bt a0 2)).bind fun t224 => (some t224)) else (none)) else (some false))) else (none)) else (some false)) = some r := H
      have A5 := Aside0.mk A50
      clear A50
      by_cases c6 : t222 = true
      · subst c6
        have H1 : (if 1 < (a0.size : Int) then ((lex_big.f (bt a0 1)).bind fun t223 => (if t223 = true then (if 2 < (a0.size : Int) then ((lex_big.f (bt a0 2)).bind fun t224 => (some t224)) else (none)) else (some false))) else (none)) = some r := by rw [if_pos rfl] at H; exact H
        clear H
        have H := H1
        clear H1
        by_cases c7 : 1 < (a0.size : Int)
        · rw [if_pos c7] at H
          have c7b0 : decide (1 < (a0.size : Int)) = true := decide_eq_true c7
          have c7b1 : decide (1 < a0.size) = true := decide_eq_true (by omega)
          clear c7
          replace H := Option.bind_eq_some_iff.mp H
          obtain ⟨t223, A90, H⟩ := H
          replace H : (if t223 = true then (if 2 < (a0.size : Int) then ((lex_big.f (bt a0 2)).bind fun t224 => (some t224)) else (none)) else (some false)) = some r := H
          have A9 := Aside0.mk A90
          clear A90
          by_cases c10 : t223 = true
          · subst c10
            have H1 : (if 2 < (a0.size : Int) then ((lex_big.f (bt a0 2)).bind fun t224 => (some t224)) else (none)) = some r := by rw [if_pos rfl] at H; exact H
            clear H
            have H := H1
            clear H1
            by_cases c11 : 2 < (a0.size : Int)
            · rw [if_pos c11] at H
              have c11b0 : decide (2 < (a0.size : Int)) = true := decide_eq_true c11
              have c11b1 : decide (2 < a0.size) = true := decide_eq_true (by omega)
              clear c11
              replace H := Option.bind_eq_some_iff.mp H
              obtain ⟨t224, A130, H⟩ := H
              replace H : (some t224) = some r := H
              have A13 := Aside0.mk A130
              clear A130
              obtain rfl := Option.some.inj H
              have p4 : 0 ≤ (0 : Int) := (by omega)
              have q4 : 0 < a0.size := (by have : (0 : Int) < (a0.size : Int) := of_decide_eq_true (by first | (with_reducible assumption) | assumption); omega)
              have hx4 : ∀ h : 0 < a0.size, ((a0[0]'h).toNat : Int) = bt a0 0 := bt_at a0 0
              clear p4
              have qi4 : (0 < (a0.size : Int)) = True := eq_true (of_decide_eq_true (by first | (with_reducible assumption) | assumption))
              replace q4 := eq_true q4
              go_enter Tryd.func17, Tryd.ntmps17
              go_wp2_with (first | (go_at_call 27; (with_reducible refine (lex_big.calls (bt a0 0) true _ A5.out).mono ?_); rintro e w' ⟨rfl, ⟨nd, rfl⟩⟩; have p8 : 0 ≤ (1 : Int) := (by omega); have q8 : 1 < a0.size := (by have : (1 : Int) < (a0.size : Int) := of_decide_eq_true (by first | (with_reducible assumption) | assumption); omega); have hx8 : ∀ h : 1 < a0.size, ((a0[1]'h).toNat : Int) = bt a0 1 := bt_at a0 1; clear p8; have qi8 : (1 < (a0.size : Int)) = True := eq_true (of_decide_eq_true (by first | (with_reducible assumption) | assumption)); replace q8 := eq_true q8) | (go_at_call 27; (with_reducible refine (lex_big.calls (bt a0 1) true _ A9.out).mono ?_); rintro e w' ⟨rfl, ⟨nd, rfl⟩⟩; have p12 : 0 ≤ (2 : Int) := (by omega); have q12 : 2 < a0.size := (by have : (2 : Int) < (a0.size : Int) := of_decide_eq_true (by first | (with_reducible assumption) | assumption); omega); have hx12 : ∀ h : 2 < a0.size, ((a0[2]'h).toNat : Int) = bt a0 2 := bt_at a0 2; clear p12; have qi12 : (2 < (a0.size : Int)) = True := eq_true (of_decide_eq_true (by first | (with_reducible assumption) | assumption)); replace q12 := eq_true q12) | (go_at_call 27; (with_reducible refine (lex_big.calls (bt a0 2) t224 _ A13.out).mono ?_); rintro e w' ⟨rfl, ⟨nd, rfl⟩⟩))
              go_ret
              exact ⟨by first | rfl | (simp; done) | (simp [*]; done), by repeat (first | exact Drawn0.refl _ | apply Drawn0.step)⟩
            · rw [if_neg c11] at H
              exact absurd H (by simp)
          · replace c10 := Bool.eq_false_iff.mpr c10
            subst c10
            have H1 : (some false) = some r := by rw [if_neg (show ¬ (false = true) by decide)] at H; exact H
            clear H
            have H := H1
            clear H1
            obtain rfl := Option.some.inj H
            have p4 : 0 ≤ (0 : Int) := (by omega)
            have q4 : 0 < a0.size := (by have : (0 : Int) < (a0.size : Int) := of_decide_eq_true (by first | (with_reducible assumption) | assumption); omega)
            have hx4 : ∀ h : 0 < a0.size, ((a0[0]'h).toNat : Int) = bt a0 0 := bt_at a0 0
            clear p4
            have qi4 : (0 < (a0.size : Int)) = True := eq_true (of_decide_eq_true (by first | (with_reducible assumption) | assumption))
            replace q4 := eq_true q4
            go_enter Tryd.func17, Tryd.ntmps17
            go_wp2_with (first | (go_at_call 27; (with_reducible refine (lex_big.calls (bt a0 0) true _ A5.out).mono ?_); rintro e w' ⟨rfl, ⟨nd, rfl⟩⟩; have p8 : 0 ≤ (1 : Int) := (by omega); have q8 : 1 < a0.size := (by have : (1 : Int) < (a0.size : Int) := of_decide_eq_true (by first | (with_reducible assumption) | assumption); omega); have hx8 : ∀ h : 1 < a0.size, ((a0[1]'h).toNat : Int) = bt a0 1 := bt_at a0 1; clear p8; have qi8 : (1 < (a0.size : Int)) = True := eq_true (of_decide_eq_true (by first | (with_reducible assumption) | assumption)); replace q8 := eq_true q8) | (go_at_call 27; (with_reducible refine (lex_big.calls (bt a0 1) false _ A9.out).mono ?_); rintro e w' ⟨rfl, ⟨nd, rfl⟩⟩))
            go_ret
            exact ⟨by first | rfl | (simp; done) | (simp [*]; done), by repeat (first | exact Drawn0.refl _ | apply Drawn0.step)⟩
        · rw [if_neg c7] at H
          exact absurd H (by simp)
      · replace c6 := Bool.eq_false_iff.mpr c6
        subst c6
        have H1 : (some false) = some r := by rw [if_neg (show ¬ (false = true) by decide)] at H; exact H
        clear H
        have H := H1
        clear H1
        obtain rfl := Option.some.inj H
        have p4 : 0 ≤ (0 : Int) := (by omega)
        have q4 : 0 < a0.size := (by have : (0 : Int) < (a0.size : Int) := of_decide_eq_true (by first | (with_reducible assumption) | assumption); omega)
        have hx4 : ∀ h : 0 < a0.size, ((a0[0]'h).toNat : Int) = bt a0 0 := bt_at a0 0
        clear p4
        have qi4 : (0 < (a0.size : Int)) = True := eq_true (of_decide_eq_true (by first | (with_reducible assumption) | assumption))
        replace q4 := eq_true q4
        go_enter Tryd.func17, Tryd.ntmps17
        go_wp2_with (first | (go_at_call 27; (with_reducible refine (lex_big.calls (bt a0 0) false _ A5.out).mono ?_); rintro e w' ⟨rfl, ⟨nd, rfl⟩⟩))
        go_ret
        exact ⟨by first | rfl | (simp; done) | (simp [*]; done), by repeat (first | exact Drawn0.refl _ | apply Drawn0.step)⟩
    · rw [if_neg c3] at H
      exact absurd H (by simp)
  · rw [if_neg c2] at H
    have c2b0 : ((a0.size : Int) == 3) = false := beq_eq_false_iff_ne.mpr c2
    have c2b1 : ((a0.size : Int) != 3) = true := bne_iff_ne.mpr c2
    obtain rfl := Option.some.inj H
    go_enter Tryd.func17, Tryd.ntmps17
    go_wp2
    go_ret
    exact ⟨by first | rfl | (simp; done) | (simp [*]; done), by repeat (first | exact Drawn0.refl _ | apply Drawn0.step)⟩

/-! ### payofflaw06_LexNames: function 7 -/
mutual
def payofflaw06_LexNames.j0 : Nat → ByteArray → Bool → Option (Bool)
  | 0, _, _ => none
  | k + 1, x0, x27 => if x27 = true then (none) else ((lex_Scan.f k x0).bind fun bt229 => (if bt229.2.2 = 0 then (if (bt229.1.length : Int) = 1 then (if 0 < (bt229.1.length : Int) then (payofflaw06_LexNames.j1 k x0 bt229.1 (((rd_T32 bt229.1 0).f1).toList == x0.toList)) else (none)) else (payofflaw06_LexNames.j1 k x0 bt229.1 false)) else (payofflaw06_LexNames.j1 k x0 bt229.1 false)))
def payofflaw06_LexNames.j1 : Nat → ByteArray → List (S32) → Bool → Option (Bool)
  | 0, _, _, _ => none
  | k + 1, x0, x4, x7 => (lex_Keyword.f x0).bind fun t235 => ((lex_Small.f x0).bind fun t236 => (if t236 = true then (payofflaw06_LexNames.j2 k x0 x4 x7 t235 true) else (payofflaw06_LexNames.j2 k x0 x4 x7 t235 t235)))
def payofflaw06_LexNames.j2 : Nat → ByteArray → List (S32) → Bool → Bool → Bool → Option (Bool)
  | 0, _, _, _, _, _ => none
  | k + 1, x0, x4, x7, x8, x9 => (lex_Capital.f x0).bind fun t237 => ((lex_Currency.f x0).bind fun t238 => (if x7 = true then (if 0 < (x4.length : Int) then (if (x9 != (((rd_T32 x4 0).f0) == 1)) = true then (payofflaw06_LexNames.j3 k x0 x8 t237 t238 true) else (payofflaw06_LexNames.j3 k x0 x8 t237 t238 (t237 != (((rd_T32 x4 0).f0) == 2)))) else (none)) else (if (x9 != false) = true then (payofflaw06_LexNames.j3 k x0 x8 t237 t238 true) else (payofflaw06_LexNames.j3 k x0 x8 t237 t238 (t237 != false)))))
def payofflaw06_LexNames.j3 : Nat → ByteArray → Bool → Bool → Bool → Bool → Option (Bool)
  | 0, _, _, _, _, _ => none
  | k + 1, x0, x8, x10, x11, x81 => if x81 = true then (none) else ((lex_Small.f x0).bind fun t241 => (if t241 = true then (payofflaw06_LexNames.j4 k x0 x10 x11 x8) else (payofflaw06_LexNames.j4 k x0 x10 x11 false)))
def payofflaw06_LexNames.j4 : Nat → ByteArray → Bool → Bool → Bool → Option (Bool)
  | 0, _, _, _, _ => none
  | k + 1, x0, x10, x11, x12 => if x12 = true then (payofflaw06_LexNames.j5 k x0 x10 x11 true) else (if x11 = true then (if x10 = true then (payofflaw06_LexNames.j5 k x0 x10 x11 ((x0.size : Int) != 3)) else (payofflaw06_LexNames.j5 k x0 x10 x11 true)) else (payofflaw06_LexNames.j5 k x0 x10 x11 false))
def payofflaw06_LexNames.j5 : Nat → ByteArray → Bool → Bool → Bool → Option (Bool)
  | 0, _, _, _, _ => none
  | k + 1, x0, x10, x11, x99 => if x99 = true then (none) else (if x10 = true then (if (x0.size : Int) = 3 then (if x11 = true then (some true) else (if 1 < (x0.size : Int) then (if (bt x0 1) < 65 then (some true) else (if (bt x0 1) = 95 then (some true) else (if 2 < (x0.size : Int) then (if (bt x0 2) < 65 then (some true) else (some ((bt x0 2) == 95))) else (none)))) else (none))) else (some true)) else (some true))
end
def payofflaw06_LexNames.f (k : Nat) (a0 : ByteArray) : Option (Bool) := (payofflaw06_takes.f k).bind fun t225 => (if t225 = true then ((lex_Small.f (⟨#[97]⟩ : ByteArray)).bind fun t226 => (if t226 = true then ((lex_Capital.f (⟨#[69, 85, 82]⟩ : ByteArray)).bind fun t227 => (if t227 = true then ((lex_Currency.f (⟨#[69, 85, 82]⟩ : ByteArray)).bind fun t228 => (payofflaw06_LexNames.j0 k a0 (!t228))) else (payofflaw06_LexNames.j0 k a0 true))) else (payofflaw06_LexNames.j0 k a0 true))) else (payofflaw06_LexNames.j0 k a0 true))
set_option maxHeartbeats 8000000 in
set_option maxRecDepth 100000 in
theorem payofflaw06_LexNames.calls (k : Nat) (a0 : ByteArray) (r : Bool) (w : World) (h : payofflaw06_LexNames.f k a0 = some r) (hG : Pure.Gl w) :
    Calls Tryd.prog 7 #[.string a0] w fun e w' => e = .returned (.bool r) ∧ Below w.heap.size w w' := by
  have HG := Aside0.mk hG
  clear hG
  have HB := Aside0.mk (Below.refl w.heap.size w)
  have H : ((payofflaw06_takes.f k).bind fun t225 => (if t225 = true then ((lex_Small.f (⟨#[97]⟩ : ByteArray)).bind fun t226 => (if t226 = true then ((lex_Capital.f (⟨#[69, 85, 82]⟩ : ByteArray)).bind fun t227 => (if t227 = true then ((lex_Currency.f (⟨#[69, 85, 82]⟩ : ByteArray)).bind fun t228 => (payofflaw06_LexNames.j0 k a0 (!t228))) else (payofflaw06_LexNames.j0 k a0 true))) else (payofflaw06_LexNames.j0 k a0 true))) else (payofflaw06_LexNames.j0 k a0 true))) = some r := h
  clear h
  replace H := Option.bind_eq_some_iff.mp H
  obtain ⟨t225, A20, H⟩ := H
  replace H : (if t225 = true then ((lex_Small.f (⟨#[97]⟩ : ByteArray)).bind fun t226 => (if t226 = true then ((lex_Capital.f (⟨#[69, 85, 82]⟩ : ByteArray)).bind fun t227 => (if t227 = true then ((lex_Currency.f (⟨#[69, 85, 82]⟩ : ByteArray)).bind fun t228 => (payofflaw06_LexNames.j0 k a0 (!t228))) else (payofflaw06_LexNames.j0 k a0 true))) else (payofflaw06_LexNames.j0 k a0 true))) else (payofflaw06_LexNames.j0 k a0 true)) = some r := H
  have A2 := Aside0.mk A20
  clear A20
  have HC3 := Aside0.mk H
  clear H
  go_enter Tryd.func7, Tryd.ntmps7
  go_upto_region 2 with (first | ((with_reducible refine gate_callee (f := 13) rfl ?_); refine goesL_ (some 13) rfl rfl Tryd.func13 (by kernel_rfl) rfl #[] rfl (by (try simp only [List.map_toArray, List.map_cons, List.map_nil]); first | done | rfl | (simp only [List.length_drop, List.length_take]; rfl)) ?_; (with_reducible refine (payofflaw06_takes.calls k  t225 _ A2.out (Pure.Gl.below HG.out (by repeat (first | (with_reducible first | exact HB.out | apply below_alloc | apply pw_below_drewN | apply below_drew1 | (refine below_set ?_ (by first | exact trivial )) ) | exact HB.out)))).mono ?_); rintro e w4 ⟨rfl, hb⟩; refine ⟨_, rfl, ?_⟩; have n0_ := Aside0.mk (below_step (by repeat (first | (with_reducible first | exact HB.out | apply below_alloc | apply pw_below_drewN | apply below_drew1) | exact HB.out)) hb); clear HB; have HB := n0_; clear n0_; (try clear hb); (try clear hb2); (try clear hk); (try clear hi)))
  (try simp only [Act.put, List.setIfInBounds_toArray, List.set_cons_zero, List.set_cons_succ])
  go_cut [27] (fun v27 wc => ∃ (kq : Nat) (x27_2 : Bool), v27 = .bool x27_2 ∧ Aside0 (payofflaw06_LexNames.j0 kq a0 x27_2 = some r) ∧ Aside0 (kq ≤ k) ∧ Aside0 (Below w.heap.size w wc))
  case first =>
    have H := HC3.out
    clear HC3
    by_cases c5 : t225 = true
    · subst c5
      have H1 : ((lex_Small.f (⟨#[97]⟩ : ByteArray)).bind fun t226 => (if t226 = true then ((lex_Capital.f (⟨#[69, 85, 82]⟩ : ByteArray)).bind fun t227 => (if t227 = true then ((lex_Currency.f (⟨#[69, 85, 82]⟩ : ByteArray)).bind fun t228 => (payofflaw06_LexNames.j0 k a0 (!t228))) else (payofflaw06_LexNames.j0 k a0 true))) else (payofflaw06_LexNames.j0 k a0 true))) = some r := by rw [if_pos rfl] at H; exact H
      clear H
      have H := H1
      clear H1
      replace H := Option.bind_eq_some_iff.mp H
      obtain ⟨t226, A60, H⟩ := H
      replace H : (if t226 = true then ((lex_Capital.f (⟨#[69, 85, 82]⟩ : ByteArray)).bind fun t227 => (if t227 = true then ((lex_Currency.f (⟨#[69, 85, 82]⟩ : ByteArray)).bind fun t228 => (payofflaw06_LexNames.j0 k a0 (!t228))) else (payofflaw06_LexNames.j0 k a0 true))) else (payofflaw06_LexNames.j0 k a0 true)) = some r := H
      have A6 := Aside0.mk A60
      clear A60
      by_cases c7 : t226 = true
      · subst c7
        have H1 : ((lex_Capital.f (⟨#[69, 85, 82]⟩ : ByteArray)).bind fun t227 => (if t227 = true then ((lex_Currency.f (⟨#[69, 85, 82]⟩ : ByteArray)).bind fun t228 => (payofflaw06_LexNames.j0 k a0 (!t228))) else (payofflaw06_LexNames.j0 k a0 true))) = some r := by rw [if_pos rfl] at H; exact H
        clear H
        have H := H1
        clear H1
        replace H := Option.bind_eq_some_iff.mp H
        obtain ⟨t227, A80, H⟩ := H
        replace H : (if t227 = true then ((lex_Currency.f (⟨#[69, 85, 82]⟩ : ByteArray)).bind fun t228 => (payofflaw06_LexNames.j0 k a0 (!t228))) else (payofflaw06_LexNames.j0 k a0 true)) = some r := H
        have A8 := Aside0.mk A80
        clear A80
        by_cases c9 : t227 = true
        · subst c9
          have H1 : ((lex_Currency.f (⟨#[69, 85, 82]⟩ : ByteArray)).bind fun t228 => (payofflaw06_LexNames.j0 k a0 (!t228))) = some r := by rw [if_pos rfl] at H; exact H
          clear H
          have H := H1
          clear H1
          replace H := Option.bind_eq_some_iff.mp H
          obtain ⟨t228, A100, H⟩ := H
          replace H : (payofflaw06_LexNames.j0 k a0 (!t228)) = some r := H
          have A10 := Aside0.mk A100
          clear A100
          have H' := Aside0.mk H
          clear H
          go_wp2_with (first | (go_at_call 15; (with_reducible refine (lex_Small.calls (⟨#[97]⟩ : ByteArray) true _ A6.out).mono ?_); rintro e w11 ⟨rfl, hb⟩; have n0_ := Aside0.mk (below_step (by repeat (first | (with_reducible first | exact HB.out | apply below_alloc | apply pw_below_drewN | apply below_drew1) | exact HB.out)) hb); clear HB; have HB := n0_; clear n0_; (try clear hb); (try clear hb2); (try clear hk); (try clear hi)) | (go_at_call 16; (with_reducible refine (lex_Capital.calls (⟨#[69, 85, 82]⟩ : ByteArray) true _ A8.out).mono ?_); rintro e w12 ⟨rfl, hb⟩; have n0_ := Aside0.mk (below_step (by repeat (first | (with_reducible first | exact HB.out | apply below_alloc | apply pw_below_drewN | apply below_drew1) | exact HB.out)) hb); clear HB; have HB := n0_; clear n0_; (try clear hb); (try clear hb2); (try clear hk); (try clear hi)) | (go_at_call 17; (with_reducible refine (lex_Currency.calls (⟨#[69, 85, 82]⟩ : ByteArray) t228 _ A10.out).mono ?_); rintro e w' ⟨rfl, ⟨nd, rfl⟩⟩))
          go_meet
          case rel => exact ⟨_, (!t228), (by first | rfl | (simp; done) | (simp [*]; done)), H', ⟨by first | omega | exact Nat.le_refl _⟩, ⟨by repeat (first | (with_reducible first | exact HB.out | apply below_alloc | apply pw_below_drewN | apply below_drew1) | exact HB.out)⟩⟩
        · replace c9 := Bool.eq_false_iff.mpr c9
          subst c9
          have H1 : (payofflaw06_LexNames.j0 k a0 true) = some r := by rw [if_neg (show ¬ (false = true) by decide)] at H; exact H
          clear H
          have H := H1
          clear H1
          have H' := Aside0.mk H
          clear H
          go_wp2_with (first | (go_at_call 15; (with_reducible refine (lex_Small.calls (⟨#[97]⟩ : ByteArray) true _ A6.out).mono ?_); rintro e w13 ⟨rfl, hb⟩; have n0_ := Aside0.mk (below_step (by repeat (first | (with_reducible first | exact HB.out | apply below_alloc | apply pw_below_drewN | apply below_drew1) | exact HB.out)) hb); clear HB; have HB := n0_; clear n0_; (try clear hb); (try clear hb2); (try clear hk); (try clear hi)) | (go_at_call 16; (with_reducible refine (lex_Capital.calls (⟨#[69, 85, 82]⟩ : ByteArray) false _ A8.out).mono ?_); rintro e w14 ⟨rfl, hb⟩; have n0_ := Aside0.mk (below_step (by repeat (first | (with_reducible first | exact HB.out | apply below_alloc | apply pw_below_drewN | apply below_drew1) | exact HB.out)) hb); clear HB; have HB := n0_; clear n0_; (try clear hb); (try clear hb2); (try clear hk); (try clear hi)))
          go_meet
          case rel => exact ⟨_, (true), (by first | rfl | (simp; done) | (simp [*]; done)), H', ⟨by first | omega | exact Nat.le_refl _⟩, ⟨by repeat (first | (with_reducible first | exact HB.out | apply below_alloc | apply pw_below_drewN | apply below_drew1) | exact HB.out)⟩⟩
      · replace c7 := Bool.eq_false_iff.mpr c7
        subst c7
        have H1 : (payofflaw06_LexNames.j0 k a0 true) = some r := by rw [if_neg (show ¬ (false = true) by decide)] at H; exact H
        clear H
        have H := H1
        clear H1
        have H' := Aside0.mk H
        clear H
        go_wp2_with (first | (go_at_call 15; (with_reducible refine (lex_Small.calls (⟨#[97]⟩ : ByteArray) false _ A6.out).mono ?_); rintro e w15 ⟨rfl, hb⟩; have n0_ := Aside0.mk (below_step (by repeat (first | (with_reducible first | exact HB.out | apply below_alloc | apply pw_below_drewN | apply below_drew1) | exact HB.out)) hb); clear HB; have HB := n0_; clear n0_; (try clear hb); (try clear hb2); (try clear hk); (try clear hi)))
        go_meet
        case rel => exact ⟨_, (true), (by first | rfl | (simp; done) | (simp [*]; done)), H', ⟨by first | omega | exact Nat.le_refl _⟩, ⟨by repeat (first | (with_reducible first | exact HB.out | apply below_alloc | apply pw_below_drewN | apply below_drew1) | exact HB.out)⟩⟩
    · replace c5 := Bool.eq_false_iff.mpr c5
      subst c5
      have H1 : (payofflaw06_LexNames.j0 k a0 true) = some r := by rw [if_neg (show ¬ (false = true) by decide)] at H; exact H
      clear H
      have H := H1
      clear H1
      have H' := Aside0.mk H
      clear H
      go_wp2
      go_meet
      case rel => exact ⟨_, (true), (by first | rfl | (simp; done) | (simp [*]; done)), H', ⟨by first | omega | exact Nat.le_refl _⟩, ⟨by repeat (first | (with_reducible first | exact HB.out | apply below_alloc | apply pw_below_drewN | apply below_drew1) | exact HB.out)⟩⟩
  case rest =>
    clear HC3; try clear c1; try clear p2; try clear c5; try clear c7; try clear c9; try clear c13
    obtain ⟨kq, x27_2, rfl, HA, HJ2, HB⟩ := hcut
    cases kq with
    | zero => exact absurd HA.out (by simp [payofflaw06_LexNames.j0])
    | succ kj2 =>
      have H := HA.out
      clear HA
      simp only [payofflaw06_LexNames.j0] at H
      by_cases c16 : x27_2 = true
      · subst c16
        have H1 : (none) = some r := by rw [if_pos rfl] at H; exact H
        clear H
        have H := H1
        clear H1
        exact absurd H (by simp)
      · replace c16 := Bool.eq_false_iff.mpr c16
        subst c16
        have H1 : ((lex_Scan.f kj2 a0).bind fun bt229 => (if bt229.2.2 = 0 then (if (bt229.1.length : Int) = 1 then (if 0 < (bt229.1.length : Int) then (payofflaw06_LexNames.j1 kj2 a0 bt229.1 (((rd_T32 bt229.1 0).f1).toList == a0.toList)) else (none)) else (payofflaw06_LexNames.j1 kj2 a0 bt229.1 false)) else (payofflaw06_LexNames.j1 kj2 a0 bt229.1 false))) = some r := by rw [if_neg (show ¬ (false = true) by decide)] at H; exact H
        clear H
        have H := H1
        clear H1
        replace H := Option.bind_eq_some_iff.mp H
        obtain ⟨⟨t229, t230, t231⟩, A170, H⟩ := H
        replace H : (if t231 = 0 then (if (t229.length : Int) = 1 then (if 0 < (t229.length : Int) then (payofflaw06_LexNames.j1 kj2 a0 t229 (((rd_T32 t229 0).f1).toList == a0.toList)) else (none)) else (payofflaw06_LexNames.j1 kj2 a0 t229 false)) else (payofflaw06_LexNames.j1 kj2 a0 t229 false)) = some r := H
        have A17 := Aside0.mk A170
        clear A170
        have HC18 := Aside0.mk H
        clear H
        go_upto_region 5 with (first | ((with_reducible refine gate_callee (f := 10) rfl ?_); refine goesL_ (some 30) rfl rfl Tryd.func10 (by kernel_rfl) rfl #[.string a0] rfl (by (try simp only [List.map_toArray, List.map_cons, List.map_nil]); first | done | rfl | (simp only [List.length_drop, List.length_take]; rfl)) ?_; (with_reducible refine (lex_Scan.calls kj2 a0 t229 t230 t231 _ A17.out (Pure.Gl.below HG.out (by repeat (first | (with_reducible first | exact HB.out | apply below_alloc | apply pw_below_drewN | apply below_drew1 | (refine below_set ?_ (by first | exact trivial )) ) | exact HB.out)))).mono ?_); rintro e w19 ⟨v232, rfl, ho0, hb⟩; refine ⟨_, rfl, ?_⟩; have n0_ := Aside0.mk (Kd.R_lower ho0 (below_size (by repeat (first | (with_reducible first | exact HB.out | apply below_alloc | apply pw_below_drewN | apply below_drew1) | exact HB.out)))); have n1_ := Aside0.mk (below_step (by repeat (first | (with_reducible first | exact HB.out | apply below_alloc | apply pw_below_drewN | apply below_drew1) | exact HB.out)) hb); clear HB; have HO233 := n0_; have HB := n1_; clear n0_ n1_; (try clear hb); (try clear hb2); (try clear hk); (try clear hi); (try clear ho0)))
        (try simp only [Act.put, List.setIfInBounds_toArray, List.set_cons_zero, List.set_cons_succ])
        go_cut [7] (fun v7 wc => ∃ (kq : Nat) (x7_17 : Bool), v7 = .bool x7_17 ∧ Aside0 (payofflaw06_LexNames.j1 kq a0 t229 x7_17 = some r) ∧ Aside0 (kq ≤ kj2) ∧ Aside0 (Kd.R k32 32 wc w.heap.size (fun _ => True) v232 t229) ∧ Aside0 (Below w.heap.size w wc))
        case first =>
          have H := HC18.out
          clear HC18
          by_cases c20 : t231 = 0
          · rw [if_pos c20] at H
            have c20b0 : (t231 == 0) = true := beq_iff_eq.mpr c20
            have c20b1 : (t231 != 0) = false := bne_eq_false_iff_eq.mpr c20
            clear c20
            (first | rw [c20b0] | (simp only [i64_w, i32_w]; rw [c20b0]) | skip)
            by_cases c21 : (t229.length : Int) = 1
            · rw [if_pos c21] at H
              have c21b0 : ((t229.length : Int) == 1) = true := beq_iff_eq.mpr c21
              have c21b1 : ((t229.length : Int) != 1) = false := bne_eq_false_iff_eq.mpr c21
              clear c21
              by_cases c22 : 0 < (t229.length : Int)
              · rw [if_pos c22] at H
                have c22b0 : decide (0 < (t229.length : Int)) = true := decide_eq_true c22
                have c22b1 : decide (0 < t229.length) = true := decide_eq_true (by omega)
                have c22b9 : (0 < t229.length) = True := eq_true (by omega)
                clear c22
                have H' := Aside0.mk H
                clear H
                obtain ⟨Ao23, co23, eo23⟩ := Kd.R_slice HO233.out
                subst eo23
                have p234 : 0 ≤ (0 : Int) := (by omega)
                have q234 : 0 < (t229.length : Int) := of_decide_eq_true (by first | (with_reducible assumption) | assumption)
                obtain ⟨ad234, e234, hx234_0, hx234_1, hx234_2, hx234_3, hx234_4, hx234_5, hx234_6, hx234_7, hx234_8⟩ := at_T32 (Kd.R_reads' HO233.out).2.2 0 p234 q234
                cases e234
                have qi234 : (0 < t229.length) = True := eq_true (by omega)
                (try rw [show ((0 : Int)).toNat = 0 from rfl] at hx234_0)
                (try rw [show 0 * 9 = 0 from rfl] at hx234_0)
                (try rw [Addr.add_zero'] at hx234_0)
                (try rw [show ((0 : Int)).toNat = 0 from rfl] at hx234_1)
                (try rw [show 0 * 9 = 0 from rfl] at hx234_1)
                (try rw [Addr.add_zero'] at hx234_1)
                (try rw [show ((0 : Int)).toNat = 0 from rfl] at hx234_2)
                (try rw [show 0 * 9 = 0 from rfl] at hx234_2)
                (try rw [Addr.add_zero'] at hx234_2)
                (try rw [show ((0 : Int)).toNat = 0 from rfl] at hx234_3)
                (try rw [show 0 * 9 = 0 from rfl] at hx234_3)
                (try rw [Addr.add_zero'] at hx234_3)
                (try rw [show ((0 : Int)).toNat = 0 from rfl] at hx234_4)
                (try rw [show 0 * 9 = 0 from rfl] at hx234_4)
                (try rw [Addr.add_zero'] at hx234_4)
                (try rw [show ((0 : Int)).toNat = 0 from rfl] at hx234_5)
                (try rw [show 0 * 9 = 0 from rfl] at hx234_5)
                (try rw [Addr.add_zero'] at hx234_5)
                (try rw [show ((0 : Int)).toNat = 0 from rfl] at hx234_6)
                (try rw [show 0 * 9 = 0 from rfl] at hx234_6)
                (try rw [Addr.add_zero'] at hx234_6)
                (try rw [show ((0 : Int)).toNat = 0 from rfl] at hx234_7)
                (try rw [show 0 * 9 = 0 from rfl] at hx234_7)
                (try rw [Addr.add_zero'] at hx234_7)
                (try rw [show ((0 : Int)).toNat = 0 from rfl] at hx234_8)
                (try rw [show 0 * 9 = 0 from rfl] at hx234_8)
                (try rw [Addr.add_zero'] at hx234_8)
                replace p234 := eq_true p234
                replace q234 := eq_true q234
                go_wp2
                go_meet
                case rel => exact ⟨_, ((((rd_T32 t229 0).f1).toList == a0.toList)), (by first | rfl | (simp; done) | (simp [*]; done)), H', ⟨by have := HJ2.out; first | omega | exact Nat.le_refl _⟩, ⟨by (with_reducible repeat (first | apply Kd.R_alloc | apply Kd.R_drewN | apply Kd.R_drew)); exact HO233.out⟩, ⟨by repeat (first | (with_reducible first | exact HB.out | apply below_alloc | apply pw_below_drewN | apply below_drew1) | exact HB.out)⟩⟩
              · rw [if_neg c22] at H
                exact absurd H (by simp)
            · rw [if_neg c21] at H
              have c21b0 : ((t229.length : Int) == 1) = false := beq_eq_false_iff_ne.mpr c21
              have c21b1 : ((t229.length : Int) != 1) = true := bne_iff_ne.mpr c21
              have H' := Aside0.mk H
              clear H
              obtain ⟨Ao24, co24, eo24⟩ := Kd.R_slice HO233.out
              subst eo24
              go_wp2
              go_meet
              case rel => exact ⟨_, (false), (by first | rfl | (simp; done) | (simp [*]; done)), H', ⟨by have := HJ2.out; first | omega | exact Nat.le_refl _⟩, ⟨by (with_reducible repeat (first | apply Kd.R_alloc | apply Kd.R_drewN | apply Kd.R_drew)); exact HO233.out⟩, ⟨by repeat (first | (with_reducible first | exact HB.out | apply below_alloc | apply pw_below_drewN | apply below_drew1) | exact HB.out)⟩⟩
          · rw [if_neg c20] at H
            have c20b0 : (t231 == 0) = false := beq_eq_false_iff_ne.mpr c20
            have c20b1 : (t231 != 0) = true := bne_iff_ne.mpr c20
            (first | rw [c20b0] | (simp only [i64_w, i32_w]; rw [c20b0]) | skip)
            have H' := Aside0.mk H
            clear H
            go_wp2
            go_meet
            case rel => exact ⟨_, (false), (by first | rfl | (simp; done) | (simp [*]; done)), H', ⟨by have := HJ2.out; first | omega | exact Nat.le_refl _⟩, ⟨by (with_reducible repeat (first | apply Kd.R_alloc | apply Kd.R_drewN | apply Kd.R_drew)); exact HO233.out⟩, ⟨by repeat (first | (with_reducible first | exact HB.out | apply below_alloc | apply pw_below_drewN | apply below_drew1) | exact HB.out)⟩⟩
        case rest =>
          clear HC18; try clear c1; try clear c2; try clear p2; try clear q2; try clear hx2; try clear qi2; try clear c5; try clear c7; try clear c9; try clear c10; try clear c13; try clear c16; try clear c20; try clear c20b0; try clear c20b1; try clear c21; try clear c21b0; try clear c21b1; try clear c22; try clear c22b0; try clear c22b1; try clear p23; try clear q23; try clear hx23; try clear qi23; try clear hx234_0; try clear hx234_1; try clear hx234_2; try clear hx234_3; try clear hx234_4; try clear hx234_5; try clear hx234_6; try clear hx234_7; try clear hx234_8; try clear p2; try clear p234; try clear q234
          obtain ⟨kq, x7_17, rfl, HA, HJ17, HO_4, HB⟩ := hcut
          cases kq with
          | zero => exact absurd HA.out (by simp [payofflaw06_LexNames.j1])
          | succ kj17 =>
            have H := HA.out
            clear HA
            simp only [payofflaw06_LexNames.j1] at H
            replace H := Option.bind_eq_some_iff.mp H
            obtain ⟨t235, A250, H⟩ := H
            replace H : ((lex_Small.f a0).bind fun t236 => (if t236 = true then (payofflaw06_LexNames.j2 kj17 a0 t229 x7_17 t235 true) else (payofflaw06_LexNames.j2 kj17 a0 t229 x7_17 t235 t235))) = some r := H
            have A25 := Aside0.mk A250
            clear A250
            have HC26 := Aside0.mk H
            clear H
            go_upto_region 7 with (first | ((with_reducible refine gate_callee (f := 18) rfl ?_); refine goesL_ (some 50) rfl rfl Tryd.func18 (by kernel_rfl) rfl #[.string a0] rfl (by (try simp only [List.map_toArray, List.map_cons, List.map_nil]); first | done | rfl | (simp only [List.length_drop, List.length_take]; rfl)) ?_; (with_reducible refine (lex_Keyword.calls a0 t235 _ A25.out).mono ?_); rintro e w27 ⟨rfl, hb⟩; refine ⟨_, rfl, ?_⟩; have n0_ := Aside0.mk (Kd.R_below (by (with_reducible repeat (first | apply Kd.R_alloc | apply Kd.R_drewN | apply Kd.R_drew)); exact HO_4.out) hb); have n1_ := Aside0.mk (below_step (by repeat (first | (with_reducible first | exact HB.out | apply below_alloc | apply pw_below_drewN | apply below_drew1) | exact HB.out)) hb); clear HO_4; clear HB; have HO_4 := n0_; have HB := n1_; clear n0_ n1_; (try clear hb); (try clear hb2); (try clear hk); (try clear hi)))
            (try simp only [Act.put, List.setIfInBounds_toArray, List.set_cons_zero, List.set_cons_succ])
            go_cut [9] (fun v9 wc => ∃ (kq : Nat) (x9_25 : Bool), v9 = .bool x9_25 ∧ Aside0 (payofflaw06_LexNames.j2 kq a0 t229 x7_17 t235 x9_25 = some r) ∧ Aside0 (kq ≤ kj17) ∧ Aside0 (Kd.R k32 32 wc w.heap.size (fun _ => True) v232 t229) ∧ Aside0 (Below w.heap.size w wc))
            case first =>
              have H := HC26.out
              clear HC26
              replace H := Option.bind_eq_some_iff.mp H
              obtain ⟨t236, A280, H⟩ := H
              replace H : (if t236 = true then (payofflaw06_LexNames.j2 kj17 a0 t229 x7_17 t235 true) else (payofflaw06_LexNames.j2 kj17 a0 t229 x7_17 t235 t235)) = some r := H
              have A28 := Aside0.mk A280
              clear A280
              by_cases c29 : t236 = true
              · subst c29
                have H1 : (payofflaw06_LexNames.j2 kj17 a0 t229 x7_17 t235 true) = some r := by rw [if_pos rfl] at H; exact H
                clear H
                have H := H1
                clear H1
                have H' := Aside0.mk H
                clear H
                go_wp2_with (first | ((with_reducible refine gate_callee (f := 15) rfl ?_); refine goesL_ (some 52) rfl rfl Tryd.func15 (by kernel_rfl) rfl #[.string a0] rfl (by (try simp only [List.map_toArray, List.map_cons, List.map_nil]); first | done | rfl | (simp only [List.length_drop, List.length_take]; rfl)) ?_; (with_reducible refine (lex_Small.calls a0 true _ A28.out).mono ?_); rintro e w30 ⟨rfl, hb⟩; refine ⟨_, rfl, ?_⟩; have n0_ := Aside0.mk (Kd.R_below (by (with_reducible repeat (first | apply Kd.R_alloc | apply Kd.R_drewN | apply Kd.R_drew)); exact HO_4.out) hb); have n1_ := Aside0.mk (below_step (by repeat (first | (with_reducible first | exact HB.out | apply below_alloc | apply pw_below_drewN | apply below_drew1) | exact HB.out)) hb); clear HO_4; clear HB; have HO_4 := n0_; have HB := n1_; clear n0_ n1_; (try clear hb); (try clear hb2); (try clear hk); (try clear hi)))
                go_meet
                case rel => exact ⟨_, (true), (by first | rfl | (simp; done) | (simp [*]; done)), H', ⟨by have := HJ2.out; have := HJ17.out; first | omega | exact Nat.le_refl _⟩, ⟨by (with_reducible repeat (first | apply Kd.R_alloc | apply Kd.R_drewN | apply Kd.R_drew)); exact HO_4.out⟩, ⟨by repeat (first | (with_reducible first | exact HB.out | apply below_alloc | apply pw_below_drewN | apply below_drew1) | exact HB.out)⟩⟩
              · replace c29 := Bool.eq_false_iff.mpr c29
                subst c29
                have H1 : (payofflaw06_LexNames.j2 kj17 a0 t229 x7_17 t235 t235) = some r := by rw [if_neg (show ¬ (false = true) by decide)] at H; exact H
                clear H
                have H := H1
                clear H1
                have H' := Aside0.mk H
                clear H
                go_wp2_with (first | ((with_reducible refine gate_callee (f := 15) rfl ?_); refine goesL_ (some 52) rfl rfl Tryd.func15 (by kernel_rfl) rfl #[.string a0] rfl (by (try simp only [List.map_toArray, List.map_cons, List.map_nil]); first | done | rfl | (simp only [List.length_drop, List.length_take]; rfl)) ?_; (with_reducible refine (lex_Small.calls a0 false _ A28.out).mono ?_); rintro e w31 ⟨rfl, hb⟩; refine ⟨_, rfl, ?_⟩; have n0_ := Aside0.mk (Kd.R_below (by (with_reducible repeat (first | apply Kd.R_alloc | apply Kd.R_drewN | apply Kd.R_drew)); exact HO_4.out) hb); have n1_ := Aside0.mk (below_step (by repeat (first | (with_reducible first | exact HB.out | apply below_alloc | apply pw_below_drewN | apply below_drew1) | exact HB.out)) hb); clear HO_4; clear HB; have HO_4 := n0_; have HB := n1_; clear n0_ n1_; (try clear hb); (try clear hb2); (try clear hk); (try clear hi)))
                go_meet
                case rel => exact ⟨_, (t235), (by first | rfl | (simp; done) | (simp [*]; done)), H', ⟨by have := HJ2.out; have := HJ17.out; first | omega | exact Nat.le_refl _⟩, ⟨by (with_reducible repeat (first | apply Kd.R_alloc | apply Kd.R_drewN | apply Kd.R_drew)); exact HO_4.out⟩, ⟨by repeat (first | (with_reducible first | exact HB.out | apply below_alloc | apply pw_below_drewN | apply below_drew1) | exact HB.out)⟩⟩
            case rest =>
              clear HC26; try clear c1; try clear c2; try clear p2; try clear q2; try clear hx2; try clear qi2; try clear c5; try clear c7; try clear c9; try clear c10; try clear c13; try clear c15; try clear c16; try clear c18; try clear c20; try clear c20b0; try clear c20b1; try clear c21; try clear c21b0; try clear c21b1; try clear c22; try clear c22b0; try clear c22b1; try clear p23; try clear q23; try clear hx23; try clear qi23; try clear c29; try clear hx234_0; try clear hx234_1; try clear hx234_2; try clear hx234_3; try clear hx234_4; try clear hx234_5; try clear hx234_6; try clear hx234_7; try clear hx234_8; try clear p2; try clear p23; try clear p234; try clear q2; try clear q23; try clear q234
              obtain ⟨kq, x9_25, rfl, HA, HJ25, HO_4, HB⟩ := hcut
              cases kq with
              | zero => exact absurd HA.out (by simp [payofflaw06_LexNames.j2])
              | succ kj25 =>
                have H := HA.out
                clear HA
                simp only [payofflaw06_LexNames.j2] at H
                replace H := Option.bind_eq_some_iff.mp H
                obtain ⟨t237, A320, H⟩ := H
                replace H : ((lex_Currency.f a0).bind fun t238 => (if x7_17 = true then (if 0 < (t229.length : Int) then (if (x9_25 != (((rd_T32 t229 0).f0) == 1)) = true then (payofflaw06_LexNames.j3 kj25 a0 t235 t237 t238 true) else (payofflaw06_LexNames.j3 kj25 a0 t235 t237 t238 (t237 != (((rd_T32 t229 0).f0) == 2)))) else (none)) else (if (x9_25 != false) = true then (payofflaw06_LexNames.j3 kj25 a0 t235 t237 t238 true) else (payofflaw06_LexNames.j3 kj25 a0 t235 t237 t238 (t237 != false))))) = some r := H
                have A32 := Aside0.mk A320
                clear A320
                replace H := Option.bind_eq_some_iff.mp H
                obtain ⟨t238, A330, H⟩ := H
                replace H : (if x7_17 = true then (if 0 < (t229.length : Int) then (if (x9_25 != (((rd_T32 t229 0).f0) == 1)) = true then (payofflaw06_LexNames.j3 kj25 a0 t235 t237 t238 true) else (payofflaw06_LexNames.j3 kj25 a0 t235 t237 t238 (t237 != (((rd_T32 t229 0).f0) == 2)))) else (none)) else (if (x9_25 != false) = true then (payofflaw06_LexNames.j3 kj25 a0 t235 t237 t238 true) else (payofflaw06_LexNames.j3 kj25 a0 t235 t237 t238 (t237 != false)))) = some r := H
                have A33 := Aside0.mk A330
                clear A330
                have HC34 := Aside0.mk H
                clear H
                go_upto_region 10 with (first | ((with_reducible refine gate_callee (f := 16) rfl ?_); refine goesL_ (some 57) rfl rfl Tryd.func16 (by kernel_rfl) rfl #[.string a0] rfl (by (try simp only [List.map_toArray, List.map_cons, List.map_nil]); first | done | rfl | (simp only [List.length_drop, List.length_take]; rfl)) ?_; (with_reducible refine (lex_Capital.calls a0 t237 _ A32.out).mono ?_); rintro e w35 ⟨rfl, hb⟩; refine ⟨_, rfl, ?_⟩; have n0_ := Aside0.mk (Kd.R_below (by (with_reducible repeat (first | apply Kd.R_alloc | apply Kd.R_drewN | apply Kd.R_drew)); exact HO_4.out) hb); have n1_ := Aside0.mk (below_step (by repeat (first | (with_reducible first | exact HB.out | apply below_alloc | apply pw_below_drewN | apply below_drew1) | exact HB.out)) hb); clear HO_4; clear HB; have HO_4 := n0_; have HB := n1_; clear n0_ n1_; (try clear hb); (try clear hb2); (try clear hk); (try clear hi)) | ((with_reducible refine gate_callee (f := 17) rfl ?_); refine goesL_ (some 59) rfl rfl Tryd.func17 (by kernel_rfl) rfl #[.string a0] rfl (by (try simp only [List.map_toArray, List.map_cons, List.map_nil]); first | done | rfl | (simp only [List.length_drop, List.length_take]; rfl)) ?_; (with_reducible refine (lex_Currency.calls a0 t238 _ A33.out).mono ?_); rintro e w' ⟨rfl, ⟨nd, rfl⟩⟩; refine ⟨_, rfl, ?_⟩))
                (try simp only [Act.put, List.setIfInBounds_toArray, List.set_cons_zero, List.set_cons_succ])
                go_cut [81] (fun v81 wc => ∃ (kq : Nat) (x81_33 : Bool), v81 = .bool x81_33 ∧ Aside0 (payofflaw06_LexNames.j3 kq a0 t235 t237 t238 x81_33 = some r) ∧ Aside0 (kq ≤ kj25) ∧ Aside0 (Below w.heap.size w wc))
                case first =>
                  have H := HC34.out
                  clear HC34
                  by_cases c36 : x7_17 = true
                  · subst c36
                    have H1 : (if 0 < (t229.length : Int) then (if (x9_25 != (((rd_T32 t229 0).f0) == 1)) = true then (payofflaw06_LexNames.j3 kj25 a0 t235 t237 t238 true) else (payofflaw06_LexNames.j3 kj25 a0 t235 t237 t238 (t237 != (((rd_T32 t229 0).f0) == 2)))) else (none)) = some r := by rw [if_pos rfl] at H; exact H
                    clear H
                    have H := H1
                    clear H1
                    by_cases c37 : 0 < (t229.length : Int)
                    · rw [if_pos c37] at H
                      have c37b0 : decide (0 < (t229.length : Int)) = true := decide_eq_true c37
                      have c37b1 : decide (0 < t229.length) = true := decide_eq_true (by omega)
                      have c37b9 : (0 < t229.length) = True := eq_true (by omega)
                      clear c37
                      (first | rw [c37b0] | (simp only [i64_w, i32_w]; rw [c37b0]) | skip)
                      by_cases c38 : (x9_25 != (((rd_T32 t229 0).f0) == 1)) = true
                      · rw [if_pos c38] at H
                        have c38b0 : (x9_25 != (((rd_T32 t229 0).f0) == 1)) = true := c38
                        (try (have c38b1 : decide (x9_25 = (((rd_T32 t229 0).f0) == 1)) = false := by simpa using c38))
                        (try (have c38b2 : (x9_25 == (((rd_T32 t229 0).f0) == 1)) = false := by simpa using c38))
                        (try (have c38b3 : ¬ (x9_25 = (((rd_T32 t229 0).f0) == 1)) := by simpa using c38))
                        clear c38
                        have H' := Aside0.mk H
                        clear H
                        obtain ⟨Ao39, co39, eo39⟩ := Kd.R_slice HO_4.out
                        subst eo39
                        have p239 : 0 ≤ (0 : Int) := (by omega)
                        have q239 : 0 < (t229.length : Int) := of_decide_eq_true (by first | (with_reducible assumption) | assumption)
                        obtain ⟨ad239, e239, hx239_0, hx239_1, hx239_2, hx239_3, hx239_4, hx239_5, hx239_6, hx239_7, hx239_8⟩ := at_T32 (Kd.R_reads' HO_4.out).2.2 0 p239 q239
                        cases e239
                        have qi239 : (0 < t229.length) = True := eq_true (by omega)
                        (try rw [show ((0 : Int)).toNat = 0 from rfl] at hx239_0)
                        (try rw [show 0 * 9 = 0 from rfl] at hx239_0)
                        (try rw [Addr.add_zero'] at hx239_0)
                        (try rw [show ((0 : Int)).toNat = 0 from rfl] at hx239_1)
                        (try rw [show 0 * 9 = 0 from rfl] at hx239_1)
                        (try rw [Addr.add_zero'] at hx239_1)
                        (try rw [show ((0 : Int)).toNat = 0 from rfl] at hx239_2)
                        (try rw [show 0 * 9 = 0 from rfl] at hx239_2)
                        (try rw [Addr.add_zero'] at hx239_2)
                        (try rw [show ((0 : Int)).toNat = 0 from rfl] at hx239_3)
                        (try rw [show 0 * 9 = 0 from rfl] at hx239_3)
                        (try rw [Addr.add_zero'] at hx239_3)
                        (try rw [show ((0 : Int)).toNat = 0 from rfl] at hx239_4)
                        (try rw [show 0 * 9 = 0 from rfl] at hx239_4)
                        (try rw [Addr.add_zero'] at hx239_4)
                        (try rw [show ((0 : Int)).toNat = 0 from rfl] at hx239_5)
                        (try rw [show 0 * 9 = 0 from rfl] at hx239_5)
                        (try rw [Addr.add_zero'] at hx239_5)
                        (try rw [show ((0 : Int)).toNat = 0 from rfl] at hx239_6)
                        (try rw [show 0 * 9 = 0 from rfl] at hx239_6)
                        (try rw [Addr.add_zero'] at hx239_6)
                        (try rw [show ((0 : Int)).toNat = 0 from rfl] at hx239_7)
                        (try rw [show 0 * 9 = 0 from rfl] at hx239_7)
                        (try rw [Addr.add_zero'] at hx239_7)
                        (try rw [show ((0 : Int)).toNat = 0 from rfl] at hx239_8)
                        (try rw [show 0 * 9 = 0 from rfl] at hx239_8)
                        (try rw [Addr.add_zero'] at hx239_8)
                        replace p239 := eq_true p239
                        replace q239 := eq_true q239
                        go_wp2
                        go_meet
                        case rel => exact ⟨_, (true), (by first | rfl | (simp; done) | (simp [*]; done)), H', ⟨by have := HJ2.out; have := HJ17.out; have := HJ25.out; first | omega | exact Nat.le_refl _⟩, ⟨by repeat (first | (with_reducible first | exact HB.out | apply below_alloc | apply pw_below_drewN | apply below_drew1) | exact HB.out)⟩⟩
                      · rw [if_neg c38] at H
                        have c38b0 : (x9_25 != (((rd_T32 t229 0).f0) == 1)) = false := by simpa using c38
                        (try (have c38b1 : decide (x9_25 = (((rd_T32 t229 0).f0) == 1)) = true := by simpa using c38))
                        (try (have c38b2 : (x9_25 == (((rd_T32 t229 0).f0) == 1)) = true := by simpa using c38))
                        clear c38
                        have H' := Aside0.mk H
                        clear H
                        obtain ⟨Ao40, co40, eo40⟩ := Kd.R_slice HO_4.out
                        subst eo40
                        have p239 : 0 ≤ (0 : Int) := (by omega)
                        have q239 : 0 < (t229.length : Int) := of_decide_eq_true (by first | (with_reducible assumption) | assumption)
                        obtain ⟨ad239, e239, hx239_0, hx239_1, hx239_2, hx239_3, hx239_4, hx239_5, hx239_6, hx239_7, hx239_8⟩ := at_T32 (Kd.R_reads' HO_4.out).2.2 0 p239 q239
                        cases e239
                        have qi239 : (0 < t229.length) = True := eq_true (by omega)
                        (try rw [show ((0 : Int)).toNat = 0 from rfl] at hx239_0)
                        (try rw [show 0 * 9 = 0 from rfl] at hx239_0)
                        (try rw [Addr.add_zero'] at hx239_0)
                        (try rw [show ((0 : Int)).toNat = 0 from rfl] at hx239_1)
                        (try rw [show 0 * 9 = 0 from rfl] at hx239_1)
                        (try rw [Addr.add_zero'] at hx239_1)
                        (try rw [show ((0 : Int)).toNat = 0 from rfl] at hx239_2)
                        (try rw [show 0 * 9 = 0 from rfl] at hx239_2)
                        (try rw [Addr.add_zero'] at hx239_2)
                        (try rw [show ((0 : Int)).toNat = 0 from rfl] at hx239_3)
                        (try rw [show 0 * 9 = 0 from rfl] at hx239_3)
                        (try rw [Addr.add_zero'] at hx239_3)
                        (try rw [show ((0 : Int)).toNat = 0 from rfl] at hx239_4)
                        (try rw [show 0 * 9 = 0 from rfl] at hx239_4)
                        (try rw [Addr.add_zero'] at hx239_4)
                        (try rw [show ((0 : Int)).toNat = 0 from rfl] at hx239_5)
                        (try rw [show 0 * 9 = 0 from rfl] at hx239_5)
                        (try rw [Addr.add_zero'] at hx239_5)
                        (try rw [show ((0 : Int)).toNat = 0 from rfl] at hx239_6)
                        (try rw [show 0 * 9 = 0 from rfl] at hx239_6)
                        (try rw [Addr.add_zero'] at hx239_6)
                        (try rw [show ((0 : Int)).toNat = 0 from rfl] at hx239_7)
                        (try rw [show 0 * 9 = 0 from rfl] at hx239_7)
                        (try rw [Addr.add_zero'] at hx239_7)
                        (try rw [show ((0 : Int)).toNat = 0 from rfl] at hx239_8)
                        (try rw [show 0 * 9 = 0 from rfl] at hx239_8)
                        (try rw [Addr.add_zero'] at hx239_8)
                        replace p239 := eq_true p239
                        replace q239 := eq_true q239
                        have p240 : 0 ≤ (0 : Int) := (by omega)
                        have q240 : 0 < (t229.length : Int) := of_decide_eq_true (by first | (with_reducible assumption) | assumption)
                        obtain ⟨ad240, e240, hx240_0, hx240_1, hx240_2, hx240_3, hx240_4, hx240_5, hx240_6, hx240_7, hx240_8⟩ := at_T32 (Kd.R_reads' HO_4.out).2.2 0 p240 q240
                        obtain rfl : ad239 = ad240 := (by injection e240)
                        have qi240 : (0 < t229.length) = True := eq_true (by omega)
                        (try rw [show ((0 : Int)).toNat = 0 from rfl] at hx240_0)
                        (try rw [show 0 * 9 = 0 from rfl] at hx240_0)
                        (try rw [Addr.add_zero'] at hx240_0)
                        (try rw [show ((0 : Int)).toNat = 0 from rfl] at hx240_1)
                        (try rw [show 0 * 9 = 0 from rfl] at hx240_1)
                        (try rw [Addr.add_zero'] at hx240_1)
                        (try rw [show ((0 : Int)).toNat = 0 from rfl] at hx240_2)
                        (try rw [show 0 * 9 = 0 from rfl] at hx240_2)
                        (try rw [Addr.add_zero'] at hx240_2)
                        (try rw [show ((0 : Int)).toNat = 0 from rfl] at hx240_3)
                        (try rw [show 0 * 9 = 0 from rfl] at hx240_3)
                        (try rw [Addr.add_zero'] at hx240_3)
                        (try rw [show ((0 : Int)).toNat = 0 from rfl] at hx240_4)
                        (try rw [show 0 * 9 = 0 from rfl] at hx240_4)
                        (try rw [Addr.add_zero'] at hx240_4)
                        (try rw [show ((0 : Int)).toNat = 0 from rfl] at hx240_5)
                        (try rw [show 0 * 9 = 0 from rfl] at hx240_5)
                        (try rw [Addr.add_zero'] at hx240_5)
                        (try rw [show ((0 : Int)).toNat = 0 from rfl] at hx240_6)
                        (try rw [show 0 * 9 = 0 from rfl] at hx240_6)
                        (try rw [Addr.add_zero'] at hx240_6)
                        (try rw [show ((0 : Int)).toNat = 0 from rfl] at hx240_7)
                        (try rw [show 0 * 9 = 0 from rfl] at hx240_7)
                        (try rw [Addr.add_zero'] at hx240_7)
                        (try rw [show ((0 : Int)).toNat = 0 from rfl] at hx240_8)
                        (try rw [show 0 * 9 = 0 from rfl] at hx240_8)
                        (try rw [Addr.add_zero'] at hx240_8)
                        replace p240 := eq_true p240
                        replace q240 := eq_true q240
                        go_wp2
                        go_meet
                        case rel => exact ⟨_, ((t237 != (((rd_T32 t229 0).f0) == 2))), (by first | rfl | (simp; done) | (simp [*]; done)), H', ⟨by have := HJ2.out; have := HJ17.out; have := HJ25.out; first | omega | exact Nat.le_refl _⟩, ⟨by repeat (first | (with_reducible first | exact HB.out | apply below_alloc | apply pw_below_drewN | apply below_drew1) | exact HB.out)⟩⟩
                    · rw [if_neg c37] at H
                      exact absurd H (by simp)
                  · replace c36 := Bool.eq_false_iff.mpr c36
                    subst c36
                    have H1 : (if (x9_25 != false) = true then (payofflaw06_LexNames.j3 kj25 a0 t235 t237 t238 true) else (payofflaw06_LexNames.j3 kj25 a0 t235 t237 t238 (t237 != false))) = some r := by rw [if_neg (show ¬ (false = true) by decide)] at H; exact H
                    clear H
                    have H := H1
                    clear H1
                    by_cases c41 : (x9_25 != false) = true
                    · rw [if_pos c41] at H
                      have c41b0 : (x9_25 != false) = true := c41
                      (try (have c41b1 : decide (x9_25 = false) = false := by simpa using c41))
                      (try (have c41b2 : (x9_25 == false) = false := by simpa using c41))
                      (try (have c41b3 : ¬ (x9_25 = false) := by simpa using c41))
                      clear c41
                      have H' := Aside0.mk H
                      clear H
                      go_wp2
                      go_meet
                      case rel => exact ⟨_, (true), (by first | rfl | (simp; done) | (simp [*]; done)), H', ⟨by have := HJ2.out; have := HJ17.out; have := HJ25.out; first | omega | exact Nat.le_refl _⟩, ⟨by repeat (first | (with_reducible first | exact HB.out | apply below_alloc | apply pw_below_drewN | apply below_drew1) | exact HB.out)⟩⟩
                    · rw [if_neg c41] at H
                      have c41b0 : (x9_25 != false) = false := by simpa using c41
                      (try (have c41b1 : decide (x9_25 = false) = true := by simpa using c41))
                      (try (have c41b2 : (x9_25 == false) = true := by simpa using c41))
                      clear c41
                      have H' := Aside0.mk H
                      clear H
                      go_wp2
                      go_meet
                      case rel => exact ⟨_, ((t237 != false)), (by first | rfl | (simp; done) | (simp [*]; done)), H', ⟨by have := HJ2.out; have := HJ17.out; have := HJ25.out; first | omega | exact Nat.le_refl _⟩, ⟨by repeat (first | (with_reducible first | exact HB.out | apply below_alloc | apply pw_below_drewN | apply below_drew1) | exact HB.out)⟩⟩
                case rest =>
                  clear HC34; try clear c1; try clear c2; try clear p2; try clear q2; try clear hx2; try clear qi2; try clear c3; try clear c4; try clear c5; try clear c7; try clear c9; try clear c10; try clear c13; try clear c15; try clear c16; try clear c17; try clear c18; try clear c20; try clear c20b0; try clear c20b1; try clear c21; try clear c21b0; try clear c21b1; try clear c22; try clear c22b0; try clear c22b1; try clear p23; try clear q23; try clear hx23; try clear qi23; try clear p24; try clear q24; try clear hx24; try clear qi24; try clear c29; try clear c36; try clear c37; try clear c37b0; try clear c37b1; try clear c38; try clear c38b0; try clear c38b1; try clear c38b2; try clear c41; try clear c41b0; try clear c41b1; try clear c41b2; try clear hx234_0; try clear hx234_1; try clear hx234_2; try clear hx234_3; try clear hx234_4; try clear hx234_5; try clear hx234_6; try clear hx234_7; try clear hx234_8; try clear hx239_0; try clear hx239_1; try clear hx239_2; try clear hx239_3; try clear hx239_4; try clear hx239_5; try clear hx239_6; try clear hx239_7; try clear hx239_8; try clear hx240_0; try clear hx240_1; try clear hx240_2; try clear hx240_3; try clear hx240_4; try clear hx240_5; try clear hx240_6; try clear hx240_7; try clear hx240_8; try clear p2; try clear p23; try clear p234; try clear p239; try clear p240; try clear q2; try clear q23; try clear q234; try clear q239; try clear q240
                  obtain ⟨kq, x81_33, rfl, HA, HJ33, HB⟩ := hcut
                  cases kq with
                  | zero => exact absurd HA.out (by simp [payofflaw06_LexNames.j3])
                  | succ kj33 =>
                    have H := HA.out
                    clear HA
                    simp only [payofflaw06_LexNames.j3] at H
                    by_cases c42 : x81_33 = true
                    · subst c42
                      have H1 : (none) = some r := by rw [if_pos rfl] at H; exact H
                      clear H
                      have H := H1
                      clear H1
                      exact absurd H (by simp)
                    · replace c42 := Bool.eq_false_iff.mpr c42
                      subst c42
                      have H1 : ((lex_Small.f a0).bind fun t241 => (if t241 = true then (payofflaw06_LexNames.j4 kj33 a0 t237 t238 t235) else (payofflaw06_LexNames.j4 kj33 a0 t237 t238 false))) = some r := by rw [if_neg (show ¬ (false = true) by decide)] at H; exact H
                      clear H
                      have H := H1
                      clear H1
                      have HC43 := Aside0.mk H
                      clear H
                      go_upto_region 12 with (fail)
                      go_cut [12] (fun v12 wc => ∃ (kq : Nat) (x12_42 : Bool), v12 = .bool x12_42 ∧ Aside0 (payofflaw06_LexNames.j4 kq a0 t237 t238 x12_42 = some r) ∧ Aside0 (kq ≤ kj33) ∧ Aside0 (Below w.heap.size w wc))
                      case first =>
                        have H := HC43.out
                        clear HC43
                        replace H := Option.bind_eq_some_iff.mp H
                        obtain ⟨t241, A440, H⟩ := H
                        replace H : (if t241 = true then (payofflaw06_LexNames.j4 kj33 a0 t237 t238 t235) else (payofflaw06_LexNames.j4 kj33 a0 t237 t238 false)) = some r := H
                        have A44 := Aside0.mk A440
                        clear A440
                        by_cases c45 : t241 = true
                        · subst c45
                          have H1 : (payofflaw06_LexNames.j4 kj33 a0 t237 t238 t235) = some r := by rw [if_pos rfl] at H; exact H
                          clear H
                          have H := H1
                          clear H1
                          have H' := Aside0.mk H
                          clear H
                          go_wp2_with (first | ((with_reducible refine gate_callee (f := 15) rfl ?_); refine goesL_ (some 83) rfl rfl Tryd.func15 (by kernel_rfl) rfl #[.string a0] rfl (by (try simp only [List.map_toArray, List.map_cons, List.map_nil]); first | done | rfl | (simp only [List.length_drop, List.length_take]; rfl)) ?_; (with_reducible refine (lex_Small.calls a0 true _ A44.out).mono ?_); rintro e w46 ⟨rfl, hb⟩; refine ⟨_, rfl, ?_⟩; have n0_ := Aside0.mk (below_step (by repeat (first | (with_reducible first | exact HB.out | apply below_alloc | apply pw_below_drewN | apply below_drew1) | exact HB.out)) hb); clear HB; have HB := n0_; clear n0_; (try clear hb); (try clear hb2); (try clear hk); (try clear hi)))
                          go_meet
                          case rel => exact ⟨_, (t235), (by first | rfl | (simp; done) | (simp [*]; done)), H', ⟨by have := HJ2.out; have := HJ17.out; have := HJ25.out; have := HJ33.out; first | omega | exact Nat.le_refl _⟩, ⟨by repeat (first | (with_reducible first | exact HB.out | apply below_alloc | apply pw_below_drewN | apply below_drew1) | exact HB.out)⟩⟩
                        · replace c45 := Bool.eq_false_iff.mpr c45
                          subst c45
                          have H1 : (payofflaw06_LexNames.j4 kj33 a0 t237 t238 false) = some r := by rw [if_neg (show ¬ (false = true) by decide)] at H; exact H
                          clear H
                          have H := H1
                          clear H1
                          have H' := Aside0.mk H
                          clear H
                          go_wp2_with (first | ((with_reducible refine gate_callee (f := 15) rfl ?_); refine goesL_ (some 83) rfl rfl Tryd.func15 (by kernel_rfl) rfl #[.string a0] rfl (by (try simp only [List.map_toArray, List.map_cons, List.map_nil]); first | done | rfl | (simp only [List.length_drop, List.length_take]; rfl)) ?_; (with_reducible refine (lex_Small.calls a0 false _ A44.out).mono ?_); rintro e w47 ⟨rfl, hb⟩; refine ⟨_, rfl, ?_⟩; have n0_ := Aside0.mk (below_step (by repeat (first | (with_reducible first | exact HB.out | apply below_alloc | apply pw_below_drewN | apply below_drew1) | exact HB.out)) hb); clear HB; have HB := n0_; clear n0_; (try clear hb); (try clear hb2); (try clear hk); (try clear hi)))
                          go_meet
                          case rel => exact ⟨_, (false), (by first | rfl | (simp; done) | (simp [*]; done)), H', ⟨by have := HJ2.out; have := HJ17.out; have := HJ25.out; have := HJ33.out; first | omega | exact Nat.le_refl _⟩, ⟨by repeat (first | (with_reducible first | exact HB.out | apply below_alloc | apply pw_below_drewN | apply below_drew1) | exact HB.out)⟩⟩
                      case rest =>
                        clear HC43; try clear c1; try clear c2; try clear p2; try clear q2; try clear hx2; try clear qi2; try clear c3; try clear c4; try clear c5; try clear c7; try clear c9; try clear c10; try clear c13; try clear c15; try clear c16; try clear c17; try clear c18; try clear c20; try clear c20b0; try clear c20b1; try clear c21; try clear c21b0; try clear c21b1; try clear c22; try clear c22b0; try clear c22b1; try clear p23; try clear q23; try clear hx23; try clear qi23; try clear p24; try clear q24; try clear hx24; try clear qi24; try clear c29; try clear c36; try clear c37; try clear c37b0; try clear c37b1; try clear c38; try clear c38b0; try clear c38b1; try clear c38b2; try clear c41; try clear c41b0; try clear c41b1; try clear c41b2; try clear c42; try clear c45; try clear hx234_0; try clear hx234_1; try clear hx234_2; try clear hx234_3; try clear hx234_4; try clear hx234_5; try clear hx234_6; try clear hx234_7; try clear hx234_8; try clear hx239_0; try clear hx239_1; try clear hx239_2; try clear hx239_3; try clear hx239_4; try clear hx239_5; try clear hx239_6; try clear hx239_7; try clear hx239_8; try clear hx240_0; try clear hx240_1; try clear hx240_2; try clear hx240_3; try clear hx240_4; try clear hx240_5; try clear hx240_6; try clear hx240_7; try clear hx240_8; try clear p2; try clear p23; try clear p234; try clear p239; try clear p24; try clear p240; try clear q2; try clear q23; try clear q234; try clear q239; try clear q24; try clear q240
                        obtain ⟨kq, x12_42, rfl, HA, HJ42, HB⟩ := hcut
                        cases kq with
                        | zero => exact absurd HA.out (by simp [payofflaw06_LexNames.j4])
                        | succ kj42 =>
                          have H := HA.out
                          clear HA
                          simp only [payofflaw06_LexNames.j4] at H
                          have HC48 := Aside0.mk H
                          clear H
                          go_upto_region 13 with (fail)
                          go_cut [99] (fun v99 wc => ∃ (kq : Nat) (x99_47 : Bool), v99 = .bool x99_47 ∧ Aside0 (payofflaw06_LexNames.j5 kq a0 t237 t238 x99_47 = some r) ∧ Aside0 (kq ≤ kj42) ∧ Aside0 (Below w.heap.size w wc))
                          case first =>
                            have H := HC48.out
                            clear HC48
                            by_cases c49 : x12_42 = true
                            · subst c49
                              have H1 : (payofflaw06_LexNames.j5 kj42 a0 t237 t238 true) = some r := by rw [if_pos rfl] at H; exact H
                              clear H
                              have H := H1
                              clear H1
                              have H' := Aside0.mk H
                              clear H
                              go_wp2
                              go_meet
                              case rel => exact ⟨_, (true), (by first | rfl | (simp; done) | (simp [*]; done)), H', ⟨by have := HJ2.out; have := HJ17.out; have := HJ25.out; have := HJ33.out; have := HJ42.out; first | omega | exact Nat.le_refl _⟩, ⟨by repeat (first | (with_reducible first | exact HB.out | apply below_alloc | apply pw_below_drewN | apply below_drew1) | exact HB.out)⟩⟩
                            · replace c49 := Bool.eq_false_iff.mpr c49
                              subst c49
                              have H1 : (if t238 = true then (if t237 = true then (payofflaw06_LexNames.j5 kj42 a0 t237 t238 ((a0.size : Int) != 3)) else (payofflaw06_LexNames.j5 kj42 a0 t237 t238 true)) else (payofflaw06_LexNames.j5 kj42 a0 t237 t238 false)) = some r := by rw [if_neg (show ¬ (false = true) by decide)] at H; exact H
                              clear H
                              have H := H1
                              clear H1
                              by_cases c50 : t238 = true
                              · subst c50
                                have H1 : (if t237 = true then (payofflaw06_LexNames.j5 kj42 a0 t237 true ((a0.size : Int) != 3)) else (payofflaw06_LexNames.j5 kj42 a0 t237 true true)) = some r := by rw [if_pos rfl] at H; exact H
                                clear H
                                have H := H1
                                clear H1
                                by_cases c51 : t237 = true
                                · subst c51
                                  have H1 : (payofflaw06_LexNames.j5 kj42 a0 true true ((a0.size : Int) != 3)) = some r := by rw [if_pos rfl] at H; exact H
                                  clear H
                                  have H := H1
                                  clear H1
                                  have H' := Aside0.mk H
                                  clear H
                                  go_wp2
                                  go_meet
                                  case rel => exact ⟨_, (((a0.size : Int) != 3)), (by first | rfl | (simp; done) | (simp [*]; done)), H', ⟨by have := HJ2.out; have := HJ17.out; have := HJ25.out; have := HJ33.out; have := HJ42.out; first | omega | exact Nat.le_refl _⟩, ⟨by repeat (first | (with_reducible first | exact HB.out | apply below_alloc | apply pw_below_drewN | apply below_drew1) | exact HB.out)⟩⟩
                                · replace c51 := Bool.eq_false_iff.mpr c51
                                  subst c51
                                  have H1 : (payofflaw06_LexNames.j5 kj42 a0 false true true) = some r := by rw [if_neg (show ¬ (false = true) by decide)] at H; exact H
                                  clear H
                                  have H := H1
                                  clear H1
                                  have H' := Aside0.mk H
                                  clear H
                                  go_wp2
                                  go_meet
                                  case rel => exact ⟨_, (true), (by first | rfl | (simp; done) | (simp [*]; done)), H', ⟨by have := HJ2.out; have := HJ17.out; have := HJ25.out; have := HJ33.out; have := HJ42.out; first | omega | exact Nat.le_refl _⟩, ⟨by repeat (first | (with_reducible first | exact HB.out | apply below_alloc | apply pw_below_drewN | apply below_drew1) | exact HB.out)⟩⟩
                              · replace c50 := Bool.eq_false_iff.mpr c50
                                subst c50
                                have H1 : (payofflaw06_LexNames.j5 kj42 a0 t237 false false) = some r := by rw [if_neg (show ¬ (false = true) by decide)] at H; exact H
                                clear H
                                have H := H1
                                clear H1
                                have H' := Aside0.mk H
                                clear H
                                go_wp2
                                go_meet
                                case rel => exact ⟨_, (false), (by first | rfl | (simp; done) | (simp [*]; done)), H', ⟨by have := HJ2.out; have := HJ17.out; have := HJ25.out; have := HJ33.out; have := HJ42.out; first | omega | exact Nat.le_refl _⟩, ⟨by repeat (first | (with_reducible first | exact HB.out | apply below_alloc | apply pw_below_drewN | apply below_drew1) | exact HB.out)⟩⟩
                          case rest =>
                            clear HC48; try clear c1; try clear c2; try clear p2; try clear q2; try clear hx2; try clear qi2; try clear c3; try clear c4; try clear c5; try clear c7; try clear c9; try clear c10; try clear c13; try clear c15; try clear c16; try clear c17; try clear c18; try clear c20; try clear c20b0; try clear c20b1; try clear c21; try clear c21b0; try clear c21b1; try clear c22; try clear c22b0; try clear c22b1; try clear p23; try clear q23; try clear hx23; try clear qi23; try clear p24; try clear q24; try clear hx24; try clear qi24; try clear c29; try clear c36; try clear c37; try clear c37b0; try clear c37b1; try clear c38; try clear c38b0; try clear c38b1; try clear c38b2; try clear c41; try clear c41b0; try clear c41b1; try clear c41b2; try clear c42; try clear c45; try clear c49; try clear c50; try clear c51; try clear hx234_0; try clear hx234_1; try clear hx234_2; try clear hx234_3; try clear hx234_4; try clear hx234_5; try clear hx234_6; try clear hx234_7; try clear hx234_8; try clear hx239_0; try clear hx239_1; try clear hx239_2; try clear hx239_3; try clear hx239_4; try clear hx239_5; try clear hx239_6; try clear hx239_7; try clear hx239_8; try clear hx240_0; try clear hx240_1; try clear hx240_2; try clear hx240_3; try clear hx240_4; try clear hx240_5; try clear hx240_6; try clear hx240_7; try clear hx240_8; try clear p2; try clear p23; try clear p234; try clear p239; try clear p24; try clear p240; try clear q2; try clear q23; try clear q234; try clear q239; try clear q24; try clear q240
                            obtain ⟨kq, x99_47, rfl, HA, HJ47, HB⟩ := hcut
                            cases kq with
                            | zero => exact absurd HA.out (by simp [payofflaw06_LexNames.j5])
                            | succ kj47 =>
                              have H := HA.out
                              clear HA
                              simp only [payofflaw06_LexNames.j5] at H
                              by_cases c52 : x99_47 = true
                              · subst c52
                                have H1 : (none) = some r := by rw [if_pos rfl] at H; exact H
                                clear H
                                have H := H1
                                clear H1
                                exact absurd H (by simp)
                              · replace c52 := Bool.eq_false_iff.mpr c52
                                subst c52
                                have H1 : (if t237 = true then (if (a0.size : Int) = 3 then (if t238 = true then (some true) else (if 1 < (a0.size : Int) then (if (bt a0 1) < 65 then (some true) else (if (bt a0 1) = 95 then (some true) else (if 2 < (a0.size : Int) then (if (bt a0 2) < 65 then (some true) else (some ((bt a0 2) == 95))) else (none)))) else (none))) else (some true)) else (some true)) = some r := by rw [if_neg (show ¬ (false = true) by decide)] at H; exact H
                                clear H
                                have H := H1
                                clear H1
                                by_cases c53 : t237 = true
                                · subst c53
                                  have H1 : (if (a0.size : Int) = 3 then (if t238 = true then (some true) else (if 1 < (a0.size : Int) then (if (bt a0 1) < 65 then (some true) else (if (bt a0 1) = 95 then (some true) else (if 2 < (a0.size : Int) then (if (bt a0 2) < 65 then (some true) else (some ((bt a0 2) == 95))) else (none)))) else (none))) else (some true)) = some r := by rw [if_pos rfl] at H; exact H
                                  clear H
                                  have H := H1
                                  clear H1
                                  by_cases c54 : (a0.size : Int) = 3
                                  · rw [if_pos c54] at H
                                    have c54b0 : ((a0.size : Int) == 3) = true := beq_iff_eq.mpr c54
                                    have c54b1 : ((a0.size : Int) != 3) = false := bne_eq_false_iff_eq.mpr c54
                                    clear c54
                                    by_cases c55 : t238 = true
                                    · subst c55
                                      have H1 : (some true) = some r := by rw [if_pos rfl] at H; exact H
                                      clear H
                                      have H := H1
                                      clear H1
                                      obtain rfl := Option.some.inj H
                                      go_wp2
                                      go_ret
                                      exact ⟨by first | rfl | (simp [errW_none, errW_some] <;> rfl) | (simp [*, errW_none, errW_some] <;> rfl), by repeat (first | (with_reducible first | exact HB.out | apply below_alloc | apply pw_below_drewN | apply below_drew1) | exact HB.out)⟩
                                    · replace c55 := Bool.eq_false_iff.mpr c55
                                      subst c55
                                      have H1 : (if 1 < (a0.size : Int) then (if (bt a0 1) < 65 then (some true) else (if (bt a0 1) = 95 then (some true) else (if 2 < (a0.size : Int) then (if (bt a0 2) < 65 then (some true) else (some ((bt a0 2) == 95))) else (none)))) else (none)) = some r := by rw [if_neg (show ¬ (false = true) by decide)] at H; exact H
                                      clear H
                                      have H := H1
                                      clear H1
                                      by_cases c56 : 1 < (a0.size : Int)
                                      · rw [if_pos c56] at H
                                        have c56b0 : decide (1 < (a0.size : Int)) = true := decide_eq_true c56
                                        have c56b1 : decide (1 < a0.size) = true := decide_eq_true (by omega)
                                        clear c56
                                        by_cases c58 : (bt a0 1) < 65
                                        · rw [if_pos c58] at H
                                          have c58b0 : decide ((bt a0 1) < 65) = true := decide_eq_true c58
                                          clear c58
                                          obtain rfl := Option.some.inj H
                                          have p57 : 0 ≤ (1 : Int) := (by omega)
                                          have q57 : 1 < a0.size := (by have : (1 : Int) < (a0.size : Int) := of_decide_eq_true (by first | (with_reducible assumption) | assumption); omega)
                                          have hx57 : ∀ h : 1 < a0.size, ((a0[1]'h).toNat : Int) = bt a0 1 := bt_at a0 1
                                          clear p57
                                          have qi57 : (1 < (a0.size : Int)) = True := eq_true (of_decide_eq_true (by first | (with_reducible assumption) | assumption))
                                          replace q57 := eq_true q57
                                          go_wp2
                                          go_ret
                                          exact ⟨by first | rfl | (simp [errW_none, errW_some] <;> rfl) | (simp [*, errW_none, errW_some] <;> rfl), by repeat (first | (with_reducible first | exact HB.out | apply below_alloc | apply pw_below_drewN | apply below_drew1) | exact HB.out)⟩
                                        · rw [if_neg c58] at H
                                          have c58b0 : decide ((bt a0 1) < 65) = false := decide_eq_false c58
                                          clear c58
                                          by_cases c60 : (bt a0 1) = 95
                                          · rw [if_pos c60] at H
                                            have c60b0 : ((bt a0 1) == 95) = true := beq_iff_eq.mpr c60
                                            have c60b1 : ((bt a0 1) != 95) = false := bne_eq_false_iff_eq.mpr c60
                                            clear c60
                                            obtain rfl := Option.some.inj H
                                            have p57 : 0 ≤ (1 : Int) := (by omega)
                                            have q57 : 1 < a0.size := (by have : (1 : Int) < (a0.size : Int) := of_decide_eq_true (by first | (with_reducible assumption) | assumption); omega)
                                            have hx57 : ∀ h : 1 < a0.size, ((a0[1]'h).toNat : Int) = bt a0 1 := bt_at a0 1
                                            clear p57
                                            have qi57 : (1 < (a0.size : Int)) = True := eq_true (of_decide_eq_true (by first | (with_reducible assumption) | assumption))
                                            replace q57 := eq_true q57
                                            have p59 : 0 ≤ (1 : Int) := (by omega)
                                            have q59 : 1 < a0.size := (by have : (1 : Int) < (a0.size : Int) := of_decide_eq_true (by first | (with_reducible assumption) | assumption); omega)
                                            have hx59 : ∀ h : 1 < a0.size, ((a0[1]'h).toNat : Int) = bt a0 1 := bt_at a0 1
                                            clear p59
                                            have qi59 : (1 < (a0.size : Int)) = True := eq_true (of_decide_eq_true (by first | (with_reducible assumption) | assumption))
                                            replace q59 := eq_true q59
                                            go_wp2
                                            go_ret
                                            exact ⟨by first | rfl | (simp [errW_none, errW_some] <;> rfl) | (simp [*, errW_none, errW_some] <;> rfl), by repeat (first | (with_reducible first | exact HB.out | apply below_alloc | apply pw_below_drewN | apply below_drew1) | exact HB.out)⟩
                                          · rw [if_neg c60] at H
                                            have c60b0 : ((bt a0 1) == 95) = false := beq_eq_false_iff_ne.mpr c60
                                            have c60b1 : ((bt a0 1) != 95) = true := bne_iff_ne.mpr c60
                                            by_cases c61 : 2 < (a0.size : Int)
                                            · rw [if_pos c61] at H
                                              have c61b0 : decide (2 < (a0.size : Int)) = true := decide_eq_true c61
                                              have c61b1 : decide (2 < a0.size) = true := decide_eq_true (by omega)
                                              clear c61
                                              by_cases c63 : (bt a0 2) < 65
                                              · rw [if_pos c63] at H
                                                have c63b0 : decide ((bt a0 2) < 65) = true := decide_eq_true c63
                                                clear c63
                                                obtain rfl := Option.some.inj H
                                                have p57 : 0 ≤ (1 : Int) := (by omega)
                                                have q57 : 1 < a0.size := (by have : (1 : Int) < (a0.size : Int) := of_decide_eq_true (by first | (with_reducible assumption) | assumption); omega)
                                                have hx57 : ∀ h : 1 < a0.size, ((a0[1]'h).toNat : Int) = bt a0 1 := bt_at a0 1
                                                clear p57
                                                have qi57 : (1 < (a0.size : Int)) = True := eq_true (of_decide_eq_true (by first | (with_reducible assumption) | assumption))
                                                replace q57 := eq_true q57
                                                have p59 : 0 ≤ (1 : Int) := (by omega)
                                                have q59 : 1 < a0.size := (by have : (1 : Int) < (a0.size : Int) := of_decide_eq_true (by first | (with_reducible assumption) | assumption); omega)
                                                have hx59 : ∀ h : 1 < a0.size, ((a0[1]'h).toNat : Int) = bt a0 1 := bt_at a0 1
                                                clear p59
                                                have qi59 : (1 < (a0.size : Int)) = True := eq_true (of_decide_eq_true (by first | (with_reducible assumption) | assumption))
                                                replace q59 := eq_true q59
                                                have p62 : 0 ≤ (2 : Int) := (by omega)
                                                have q62 : 2 < a0.size := (by have : (2 : Int) < (a0.size : Int) := of_decide_eq_true (by first | (with_reducible assumption) | assumption); omega)
                                                have hx62 : ∀ h : 2 < a0.size, ((a0[2]'h).toNat : Int) = bt a0 2 := bt_at a0 2
                                                clear p62
                                                have qi62 : (2 < (a0.size : Int)) = True := eq_true (of_decide_eq_true (by first | (with_reducible assumption) | assumption))
                                                replace q62 := eq_true q62
                                                go_wp2
                                                go_ret
                                                exact ⟨by first | rfl | (simp [errW_none, errW_some] <;> rfl) | (simp [*, errW_none, errW_some] <;> rfl), by repeat (first | (with_reducible first | exact HB.out | apply below_alloc | apply pw_below_drewN | apply below_drew1) | exact HB.out)⟩
                                              · rw [if_neg c63] at H
                                                have c63b0 : decide ((bt a0 2) < 65) = false := decide_eq_false c63
                                                clear c63
                                                obtain rfl := Option.some.inj H
                                                have p57 : 0 ≤ (1 : Int) := (by omega)
                                                have q57 : 1 < a0.size := (by have : (1 : Int) < (a0.size : Int) := of_decide_eq_true (by first | (with_reducible assumption) | assumption); omega)
                                                have hx57 : ∀ h : 1 < a0.size, ((a0[1]'h).toNat : Int) = bt a0 1 := bt_at a0 1
                                                clear p57
                                                have qi57 : (1 < (a0.size : Int)) = True := eq_true (of_decide_eq_true (by first | (with_reducible assumption) | assumption))
                                                replace q57 := eq_true q57
                                                have p59 : 0 ≤ (1 : Int) := (by omega)
                                                have q59 : 1 < a0.size := (by have : (1 : Int) < (a0.size : Int) := of_decide_eq_true (by first | (with_reducible assumption) | assumption); omega)
                                                have hx59 : ∀ h : 1 < a0.size, ((a0[1]'h).toNat : Int) = bt a0 1 := bt_at a0 1
                                                clear p59
                                                have qi59 : (1 < (a0.size : Int)) = True := eq_true (of_decide_eq_true (by first | (with_reducible assumption) | assumption))
                                                replace q59 := eq_true q59
                                                have p62 : 0 ≤ (2 : Int) := (by omega)
                                                have q62 : 2 < a0.size := (by have : (2 : Int) < (a0.size : Int) := of_decide_eq_true (by first | (with_reducible assumption) | assumption); omega)
                                                have hx62 : ∀ h : 2 < a0.size, ((a0[2]'h).toNat : Int) = bt a0 2 := bt_at a0 2
                                                clear p62
                                                have qi62 : (2 < (a0.size : Int)) = True := eq_true (of_decide_eq_true (by first | (with_reducible assumption) | assumption))
                                                replace q62 := eq_true q62
                                                have p64 : 0 ≤ (2 : Int) := (by omega)
                                                have q64 : 2 < a0.size := (by have : (2 : Int) < (a0.size : Int) := of_decide_eq_true (by first | (with_reducible assumption) | assumption); omega)
                                                have hx64 : ∀ h : 2 < a0.size, ((a0[2]'h).toNat : Int) = bt a0 2 := bt_at a0 2
                                                clear p64
                                                have qi64 : (2 < (a0.size : Int)) = True := eq_true (of_decide_eq_true (by first | (with_reducible assumption) | assumption))
                                                replace q64 := eq_true q64
                                                go_wp2
                                                go_ret
                                                exact ⟨by first | rfl | (simp [errW_none, errW_some] <;> rfl) | (simp [*, errW_none, errW_some] <;> rfl), by repeat (first | (with_reducible first | exact HB.out | apply below_alloc | apply pw_below_drewN | apply below_drew1) | exact HB.out)⟩
                                            · rw [if_neg c61] at H
                                              exact absurd H (by simp)
                                      · rw [if_neg c56] at H
                                        exact absurd H (by simp)
                                  · rw [if_neg c54] at H
                                    have c54b0 : ((a0.size : Int) == 3) = false := beq_eq_false_iff_ne.mpr c54
                                    have c54b1 : ((a0.size : Int) != 3) = true := bne_iff_ne.mpr c54
                                    obtain rfl := Option.some.inj H
                                    go_wp2
                                    go_ret
                                    exact ⟨by first | rfl | (simp [errW_none, errW_some] <;> rfl) | (simp [*, errW_none, errW_some] <;> rfl), by repeat (first | (with_reducible first | exact HB.out | apply below_alloc | apply pw_below_drewN | apply below_drew1) | exact HB.out)⟩
                                · replace c53 := Bool.eq_false_iff.mpr c53
                                  subst c53
                                  have H1 : (some true) = some r := by rw [if_neg (show ¬ (false = true) by decide)] at H; exact H
                                  clear H
                                  have H := H1
                                  clear H1
                                  obtain rfl := Option.some.inj H
                                  go_wp2
                                  go_ret
                                  exact ⟨by first | rfl | (simp [errW_none, errW_some] <;> rfl) | (simp [*, errW_none, errW_some] <;> rfl), by repeat (first | (with_reducible first | exact HB.out | apply below_alloc | apply pw_below_drewN | apply below_drew1) | exact HB.out)⟩

end Go.Proofs.YtkfdninngcakpaaDoor.PLex
