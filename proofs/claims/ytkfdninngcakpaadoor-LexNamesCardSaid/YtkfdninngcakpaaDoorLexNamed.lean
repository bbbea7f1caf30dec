/- Own text (the scanner's seat): the walks of lex.named, with each function that is handed to it, and of lex.Keyword, Small, Capital. -/
import Derived.Test.YtkfdninngcakpaaDoorLexWord
import Derived.Test.YtkfdninngcakpaaDoorQLexx2
import Derived.Maps.Own
namespace Go.Proofs.YtkfdninngcakpaaDoor.Pure
open Go.RowKit Go.Maps Go.WideMaps Go.WideElems Go.Proofs.YtkfdninngcakpaaDoor.PLex Go.Proofs.YtkfdninngcakpaaDoorW.PrintWords Go.Proofs.YtkfdninngcakpaaDoorW.PrintLast Go.Proofs.YtkfdninngcakpaaDoorW.PrintMore
set_option linter.unusedVariables false
set_option linter.unusedSimpArgs false
def nameL (L : Int → Bool) (a0 : ByteArray) : Nat → Int → Bool
  | 0, _ => true
  | n + 1, i => (L (bt a0 i) || digitB (bt a0 i) || (bt a0 i == 95)) && nameL L a0 n (i + 1)
def nameB (L : Int → Bool) (a0 : ByteArray) : Bool := decide (1 ≤ a0.size) && decide (a0.size ≤ 31) && L (bt a0 0) && nameL L a0 a0.size 0

set_option maxHeartbeats 8000000 in
set_option maxRecDepth 100000 in
theorem named_small (a0 : ByteArray) (w : World) : Calls Tryd.prog 25 #[.string a0, .func (.func 26) #[] #[]] w fun e w' => e = .returned (.bool (nameB smallB a0)) ∧ Drawn0 w w' := by
  obtain ⟨r, hr⟩ : ∃ r, r = nameB smallB a0 := ⟨_, rfl⟩
  rw [← hr]
  have HR := Aside0.mk hr
  clear hr
  go_enter Tryd.func25, Tryd.ntmps25
  by_cases c1 : (a0.size : Int) < 1
  · have c1b0 : decide ((a0.size : Int) < 1) = true := decide_eq_true c1
    have : r = false := by rw [HR.out, nameB, decide_eq_false (by omega)]; rfl
    subst this
    go_wp2
    go_ret
    exact ⟨rfl, by repeat (first | exact Drawn0.refl _ | apply Drawn0.step)⟩
  · have c1b0 : decide ((a0.size : Int) < 1) = false := decide_eq_false c1
    by_cases c2 : (a0.size : Int) > 31
    · have c2b0 : decide ((a0.size : Int) > 31) = true := decide_eq_true c2
      have c2b1 : decide (31 < (a0.size : Int)) = true := decide_eq_true c2
      have : r = false := by rw [HR.out, nameB, decide_eq_true (show 1 ≤ a0.size by omega), decide_eq_false (show ¬ a0.size ≤ 31 by omega)]; rfl
      subst this
      go_wp2
      go_ret
      exact ⟨rfl, by repeat (first | exact Drawn0.refl _ | apply Drawn0.step)⟩
    · have c2b0 : decide ((a0.size : Int) > 31) = false := decide_eq_false c2
      have c2b1 : decide (31 < (a0.size : Int)) = false := decide_eq_false c2
      have p5 : 0 ≤ (0 : Int) := (by omega)
      have q5 : 0 < a0.size := by omega
      have hx5 : ∀ h : 0 < a0.size, ((a0[0]'h).toNat : Int) = bt a0 0 := bt_at a0 0
      clear p5
      have qi5 : (0 < (a0.size : Int)) = True := eq_true (by omega)
      replace q5 := eq_true q5
      cases hl : smallB (bt a0 0) with
      | false =>
        have : r = false := by rw [HR.out, nameB, decide_eq_true (show 1 ≤ a0.size by omega), decide_eq_true (show a0.size ≤ 31 by omega), hl]; rfl
        subst this
        go_wp2_with (first | (go_at_call 26; refine (small_any (bt a0 0) _ hl _).mono ?_; rintro e w' ⟨rfl, ⟨nd, rfl⟩⟩))
        go_ret
        exact ⟨rfl, by repeat (first | exact Drawn0.refl _ | apply Drawn0.step)⟩
      | true =>
        have HN := Aside0.mk (show r = nameL smallB a0 a0.size 0 by rw [HR.out, nameB, decide_eq_true (show 1 ≤ a0.size by omega), decide_eq_true (show a0.size ≤ 31 by omega), hl]; simp)
        go_wp2_with (first | (go_at_call 26; refine (small_any (bt a0 0) _ hl _).mono ?_; rintro e w' ⟨rfl, ⟨nd, rfl⟩⟩))
        go_loopw [23] (fun v23 w' => ∃ (i : Int), v23 = .int .i64 i ∧ Aside0 (0 ≤ i ∧ i ≤ a0.size) ∧ Aside0 (r = nameL smallB a0 (a0.size - i.toNat) i) ∧ Drawn0 w w') (fun v23 _ => (a0.size - intOf v23).toNat)
        case atStart => exact ⟨0, rfl, ⟨by omega⟩, HN, by repeat (first | exact Drawn0.refl _ | apply Drawn0.step)⟩
        case round =>
          obtain ⟨i, rfl, HI, HM, ⟨m1, rfl⟩⟩ := hrel
          clear HN q5 qi5 hx5 c1b0 c2b0 c2b1
          by_cases c3 : i < (a0.size : Int)
          · have c3b0 : decide (i < (a0.size : Int)) = true := decide_eq_true c3
            have hi0 := HI.out.1
            have p6 : (0 ≤ (i : Int)) = True := eq_true hi0
            have q6 : (i < (a0.size : Int)) = True := eq_true c3
            have hx6 := bt_at a0 i
            obtain ⟨n, hn⟩ : ∃ n, a0.size - i.toNat = n + 1 := ⟨a0.size - i.toNat - 1, by omega⟩
            have hn' : a0.size - (i + 1).toNat = n := by omega
            rw [hn, nameL] at HM
            cases h1 : smallB (bt a0 i) with
            | true =>
              have HM' := Aside0.mk (show r = nameL smallB a0 n (i + 1) by rw [HM.out, h1]; simp)
              clear HM
              go_wp2_with (first | (go_at_call 26; refine (small_any (bt a0 i) _ h1 _).mono ?_; rintro e w' ⟨rfl, ⟨nd, rfl⟩⟩))
              go_roundw
              case measure => simp [intOf]; omega
              case rel => exact ⟨i + 1, by first | rfl | (rw [wrap64_in _ (by omega)]), ⟨by omega⟩, by rw [hn']; exact HM', by repeat (first | exact Drawn0.refl _ | apply Drawn0.step)⟩
            | false =>
              cases h2 : digitB (bt a0 i) with
              | true =>
                have HM' := Aside0.mk (show r = nameL smallB a0 n (i + 1) by rw [HM.out, h1, h2]; simp)
                clear HM
                go_wp2_with (first | (go_at_call 26; refine (small_any (bt a0 i) _ h1 _).mono ?_; rintro e w' ⟨rfl, ⟨nd, rfl⟩⟩) | (go_at_call 36; refine (digit_any (bt a0 i) _ h2 _).mono ?_; rintro e w' ⟨rfl, ⟨nd, rfl⟩⟩))
                go_roundw
                case measure => simp [intOf]; omega
                case rel => exact ⟨i + 1, by first | rfl | (rw [wrap64_in _ (by omega)]), ⟨by omega⟩, by rw [hn']; exact HM', by repeat (first | exact Drawn0.refl _ | apply Drawn0.step)⟩
              | false =>
                by_cases h3 : bt a0 i = 95
                · have h3b0 : (bt a0 i == 95) = true := beq_iff_eq.mpr h3
                  have h3b1 : (bt a0 i != 95) = false := bne_eq_false_iff_eq.mpr h3
                  have HM' := Aside0.mk (show r = nameL smallB a0 n (i + 1) by rw [HM.out, h1, h2, h3b0]; simp)
                  clear HM h3
                  go_wp2_with (first | (go_at_call 26; refine (small_any (bt a0 i) _ h1 _).mono ?_; rintro e w' ⟨rfl, ⟨nd, rfl⟩⟩) | (go_at_call 36; refine (digit_any (bt a0 i) _ h2 _).mono ?_; rintro e w' ⟨rfl, ⟨nd, rfl⟩⟩))
                  go_roundw
                  case measure => simp [intOf]; omega
                  case rel => exact ⟨i + 1, by first | rfl | (rw [wrap64_in _ (by omega)]), ⟨by omega⟩, by rw [hn']; exact HM', by repeat (first | exact Drawn0.refl _ | apply Drawn0.step)⟩
                · have h3b0 : (bt a0 i == 95) = false := beq_eq_false_iff_ne.mpr h3
                  have h3b1 : (bt a0 i != 95) = true := bne_iff_ne.mpr h3
                  have : r = false := by rw [HM.out, h1, h2, h3b0]; rfl
                  subst this
                  clear HM h3
                  go_wp2_with (first | (go_at_call 26; refine (small_any (bt a0 i) _ h1 _).mono ?_; rintro e w' ⟨rfl, ⟨nd, rfl⟩⟩) | (go_at_call 36; refine (digit_any (bt a0 i) _ h2 _).mono ?_; rintro e w' ⟨rfl, ⟨nd, rfl⟩⟩))
                  go_ret
                  exact ⟨rfl, by repeat (first | exact Drawn0.refl _ | apply Drawn0.step)⟩
          · have c3b0 : decide (i < (a0.size : Int)) = false := decide_eq_false c3
            have : r = true := by rw [HM.out, show a0.size - i.toNat = 0 by omega]; rfl
            subst this
            go_wp2
            go_ret
            exact ⟨rfl, by repeat (first | exact Drawn0.refl _ | apply Drawn0.step)⟩

set_option maxHeartbeats 8000000 in
set_option maxRecDepth 100000 in
theorem named_big (a0 : ByteArray) (w : World) : Calls Tryd.prog 25 #[.string a0, .func (.func 27) #[] #[]] w fun e w' => e = .returned (.bool (nameB bigB a0)) ∧ Drawn0 w w' := by
  obtain ⟨r, hr⟩ : ∃ r, r = nameB bigB a0 := ⟨_, rfl⟩
  rw [← hr]
  have HR := Aside0.mk hr
  clear hr
  go_enter Tryd.func25, Tryd.ntmps25
  by_cases c1 : (a0.size : Int) < 1
  · have c1b0 : decide ((a0.size : Int) < 1) = true := decide_eq_true c1
    have : r = false := by rw [HR.out, nameB, decide_eq_false (by omega)]; rfl
    subst this
    go_wp2
    go_ret
    exact ⟨rfl, by repeat (first | exact Drawn0.refl _ | apply Drawn0.step)⟩
  · have c1b0 : decide ((a0.size : Int) < 1) = false := decide_eq_false c1
    by_cases c2 : (a0.size : Int) > 31
    · have c2b0 : decide ((a0.size : Int) > 31) = true := decide_eq_true c2
      have c2b1 : decide (31 < (a0.size : Int)) = true := decide_eq_true c2
      have : r = false := by rw [HR.out, nameB, decide_eq_true (show 1 ≤ a0.size by omega), decide_eq_false (show ¬ a0.size ≤ 31 by omega)]; rfl
      subst this
      go_wp2
      go_ret
      exact ⟨rfl, by repeat (first | exact Drawn0.refl _ | apply Drawn0.step)⟩
    · have c2b0 : decide ((a0.size : Int) > 31) = false := decide_eq_false c2
      have c2b1 : decide (31 < (a0.size : Int)) = false := decide_eq_false c2
      have p5 : 0 ≤ (0 : Int) := (by omega)
      have q5 : 0 < a0.size := by omega
      have hx5 : ∀ h : 0 < a0.size, ((a0[0]'h).toNat : Int) = bt a0 0 := bt_at a0 0
      clear p5
      have qi5 : (0 < (a0.size : Int)) = True := eq_true (by omega)
      replace q5 := eq_true q5
      cases hl : bigB (bt a0 0) with
      | false =>
        have : r = false := by rw [HR.out, nameB, decide_eq_true (show 1 ≤ a0.size by omega), decide_eq_true (show a0.size ≤ 31 by omega), hl]; rfl
        subst this
        go_wp2_with (first | (go_at_call 27; refine (big_any (bt a0 0) _ hl _).mono ?_; rintro e w' ⟨rfl, ⟨nd, rfl⟩⟩))
        go_ret
        exact ⟨rfl, by repeat (first | exact Drawn0.refl _ | apply Drawn0.step)⟩
      | true =>
        have HN := Aside0.mk (show r = nameL bigB a0 a0.size 0 by rw [HR.out, nameB, decide_eq_true (show 1 ≤ a0.size by omega), decide_eq_true (show a0.size ≤ 31 by omega), hl]; simp)
        go_wp2_with (first | (go_at_call 27; refine (big_any (bt a0 0) _ hl _).mono ?_; rintro e w' ⟨rfl, ⟨nd, rfl⟩⟩))
        go_loopw [23] (fun v23 w' => ∃ (i : Int), v23 = .int .i64 i ∧ Aside0 (0 ≤ i ∧ i ≤ a0.size) ∧ Aside0 (r = nameL bigB a0 (a0.size - i.toNat) i) ∧ Drawn0 w w') (fun v23 _ => (a0.size - intOf v23).toNat)
        case atStart => exact ⟨0, rfl, ⟨by omega⟩, HN, by repeat (first | exact Drawn0.refl _ | apply Drawn0.step)⟩
        case round =>
          obtain ⟨i, rfl, HI, HM, ⟨m1, rfl⟩⟩ := hrel
          clear HN q5 qi5 hx5 c1b0 c2b0 c2b1
          by_cases c3 : i < (a0.size : Int)
          · have c3b0 : decide (i < (a0.size : Int)) = true := decide_eq_true c3
            have hi0 := HI.out.1
            have p6 : (0 ≤ (i : Int)) = True := eq_true hi0
            have q6 : (i < (a0.size : Int)) = True := eq_true c3
            have hx6 := bt_at a0 i
            obtain ⟨n, hn⟩ : ∃ n, a0.size - i.toNat = n + 1 := ⟨a0.size - i.toNat - 1, by omega⟩
            have hn' : a0.size - (i + 1).toNat = n := by omega
            rw [hn, nameL] at HM
            cases h1 : bigB (bt a0 i) with
            | true =>
              have HM' := Aside0.mk (show r = nameL bigB a0 n (i + 1) by rw [HM.out, h1]; simp)
              clear HM
              go_wp2_with (first | (go_at_call 27; refine (big_any (bt a0 i) _ h1 _).mono ?_; rintro e w' ⟨rfl, ⟨nd, rfl⟩⟩))
              go_roundw
              case measure => simp [intOf]; omega
              case rel => exact ⟨i + 1, by first | rfl | (rw [wrap64_in _ (by omega)]), ⟨by omega⟩, by rw [hn']; exact HM', by repeat (first | exact Drawn0.refl _ | apply Drawn0.step)⟩
            | false =>
              cases h2 : digitB (bt a0 i) with
              | true =>
                have HM' := Aside0.mk (show r = nameL bigB a0 n (i + 1) by rw [HM.out, h1, h2]; simp)
                clear HM
                go_wp2_with (first | (go_at_call 27; refine (big_any (bt a0 i) _ h1 _).mono ?_; rintro e w' ⟨rfl, ⟨nd, rfl⟩⟩) | (go_at_call 36; refine (digit_any (bt a0 i) _ h2 _).mono ?_; rintro e w' ⟨rfl, ⟨nd, rfl⟩⟩))
                go_roundw
                case measure => simp [intOf]; omega
                case rel => exact ⟨i + 1, by first | rfl | (rw [wrap64_in _ (by omega)]), ⟨by omega⟩, by rw [hn']; exact HM', by repeat (first | exact Drawn0.refl _ | apply Drawn0.step)⟩
              | false =>
                by_cases h3 : bt a0 i = 95
                · have h3b0 : (bt a0 i == 95) = true := beq_iff_eq.mpr h3
                  have h3b1 : (bt a0 i != 95) = false := bne_eq_false_iff_eq.mpr h3
                  have HM' := Aside0.mk (show r = nameL bigB a0 n (i + 1) by rw [HM.out, h1, h2, h3b0]; simp)
                  clear HM h3
                  go_wp2_with (first | (go_at_call 27; refine (big_any (bt a0 i) _ h1 _).mono ?_; rintro e w' ⟨rfl, ⟨nd, rfl⟩⟩) | (go_at_call 36; refine (digit_any (bt a0 i) _ h2 _).mono ?_; rintro e w' ⟨rfl, ⟨nd, rfl⟩⟩))
                  go_roundw
                  case measure => simp [intOf]; omega
                  case rel => exact ⟨i + 1, by first | rfl | (rw [wrap64_in _ (by omega)]), ⟨by omega⟩, by rw [hn']; exact HM', by repeat (first | exact Drawn0.refl _ | apply Drawn0.step)⟩
                · have h3b0 : (bt a0 i == 95) = false := beq_eq_false_iff_ne.mpr h3
                  have h3b1 : (bt a0 i != 95) = true := bne_iff_ne.mpr h3
                  have : r = false := by rw [HM.out, h1, h2, h3b0]; rfl
                  subst this
                  clear HM h3
                  go_wp2_with (first | (go_at_call 27; refine (big_any (bt a0 i) _ h1 _).mono ?_; rintro e w' ⟨rfl, ⟨nd, rfl⟩⟩) | (go_at_call 36; refine (digit_any (bt a0 i) _ h2 _).mono ?_; rintro e w' ⟨rfl, ⟨nd, rfl⟩⟩))
                  go_ret
                  exact ⟨rfl, by repeat (first | exact Drawn0.refl _ | apply Drawn0.step)⟩
          · have c3b0 : decide (i < (a0.size : Int)) = false := decide_eq_false c3
            have : r = true := by rw [HM.out, show a0.size - i.toNat = 0 by omega]; rfl
            subst this
            go_wp2
            go_ret
            exact ⟨rfl, by repeat (first | exact Drawn0.refl _ | apply Drawn0.step)⟩

end Go.Proofs.YtkfdninngcakpaaDoor.Pure
