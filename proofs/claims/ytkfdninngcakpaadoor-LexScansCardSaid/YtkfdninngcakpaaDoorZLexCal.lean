/- Own text, for this claim: the walk of cal.length: a month's days, off the program's table. -/
import Derived.Test.YtkfdninngcakpaaDoorZQLexx2
import Derived.Test.YtkfdninngcakpaaDoorZLexGl
import Derived.Test.YtkfdninngcakpaaDoorZLexWord
import Derived.Outline
namespace Go.Proofs.YtkfdninngcakpaaDoor.Pure
open Go.RowKit Go.Proofs.YtkfdninngcakpaaDoor.PLex Go.Proofs.YtkfdninngcakpaaDoorW.PrintWords Go.Proofs.YtkfdninngcakpaaDoorW.PrintLast Go.Proofs.YtkfdninngcakpaaDoorW.PrintMore
set_option linter.unusedVariables false
set_option linter.unusedSimpArgs false
def leapB (y : Int) : Bool := if Int.tmod y 4 = 0 then (if Int.tmod y 100 = 0 then (Int.tmod y 400) == 0 else true) else false
theorem leap_is (y : Int) : cal_leap.f y = some (leapB y) := by unfold cal_leap.f leapB; split <;> (try split) <;> rfl
def lenOf (y m : Int) : Int := if m = 2 ∧ leapB y = true then 29 else monthsL.getD (m - 1).toNat 0
set_option maxHeartbeats 4000000 in
set_option maxRecDepth 100000 in
theorem length_any (y m : Int) (hm : 1 ≤ m ∧ m ≤ 12) (w : World) (hG : Gl w) : Calls Tryd.prog 55 #[.int .i64 y, .int .i64 m] w fun e w' => e = .returned (.int .i64 (lenOf y m)) ∧ Drawn0 w w' := by
 have hcell := hG.month (m - 1).toNat (by omega)
 obtain ⟨v, hv⟩ : ∃ v, monthsL.getD (m - 1).toNat 0 = v := ⟨_, rfl⟩
 rw [hv, show (m - 1).toNat = m.toNat - 1 by omega] at hcell
 have h1 : 1 ≤ m := hm.1
 have h2 : m ≤ 12 := hm.2
 have p1 : (0 ≤ m - 1) = True := eq_true (by omega)
 have p2 : (m - 1 < 12) = True := eq_true (by omega)
 by_cases c : m = 2
 ·cases hl : leapB y with
  | true =>
   have hr := yA (show lenOf y m = 29 by unfold lenOf; rw [if_pos ⟨c, hl⟩])
   have c0 : (m == 2) = true := beq_iff_eq.mpr c
   have HL := yA ((leap_is y).trans (by rw [hl]))
   clear c hv hm
   go_enter Tryd.func55, Tryd.ntmps55
   go_wp2_with (first | (go_at_call 69; refine (cal_leap.calls y true _ HL.out).mono ?_; rintro e w' ⟨rfl, ⟨nd, rfl⟩⟩))
   go_ret
   exact ⟨by rw [hr.out]; rfl, by repeat (first | exact Drawn0.refl _ | apply Drawn0.step)⟩
  | false =>
   have hr := yA (show lenOf y m = v by unfold lenOf; rw [if_neg (fun h => by rw [hl] at h; exact absurd h.2 (by decide)), hv])
   have c0 : (m == 2) = true := beq_iff_eq.mpr c
   have HL := yA ((leap_is y).trans (by rw [hl]))
   clear c hv hm
   go_enter Tryd.func55, Tryd.ntmps55
   go_wp2_with (first | (go_at_call 69; refine (cal_leap.calls y false _ HL.out).mono ?_; rintro e w' ⟨rfl, ⟨nd, rfl⟩⟩))
   go_ret
   exact ⟨by rw [hr.out]; rfl, by repeat (first | exact Drawn0.refl _ | apply Drawn0.step)⟩
 ·have hr := yA (show lenOf y m = v by unfold lenOf; rw [if_neg (fun h => c h.1), hv])
  have c0 : (m == 2) = false := beq_eq_false_iff_ne.mpr c
  clear c hv hm
  go_enter Tryd.func55, Tryd.ntmps55
  go_wp2
  go_ret
  exact ⟨by rw [hr.out]; rfl, by repeat (first | exact Drawn0.refl _ | apply Drawn0.step)⟩
end Go.Proofs.YtkfdninngcakpaaDoor.Pure
namespace Go.Proofs.YtkfdninngcakpaaDoor.PLex
open Go.RowKit Go.Proofs.YtkfdninngcakpaaDoorW.PrintWords Go.Proofs.YtkfdninngcakpaaDoorW.PrintLast Go.Proofs.YtkfdninngcakpaaDoorW.PrintMore
def cal_length.f (a0 : Int) (a1 : Int) : Option (Int) := if 1 ≤ a1 ∧ a1 ≤ 12 then some (Pure.lenOf a0 a1) else none
theorem cal_length.calls (a0 : Int) (a1 : Int) (r : Int) (w : World) (h : cal_length.f a0 a1 = some r) (hG : Pure.Gl w) :
  Calls Tryd.prog 55 #[.int .i64 a0, .int .i64 a1] w fun e w' => e = .returned (.int .i64 r) ∧ Drawn0 w w' := by
 unfold cal_length.f at h
 split at h
 ·rename_i hm
  obtain rfl := Option.some.inj h
  exact Pure.length_any a0 a1 hm w hG
 ·cases h
end Go.Proofs.YtkfdninngcakpaaDoor.PLex
