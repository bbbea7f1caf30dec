/- Own text, for this claim: the walk of lex.mark. -/
import Derived.Test.YtkfdninngcakpaaDoorZQLexx2
import Derived.Test.YtkfdninngcakpaaDoorZLexMap
import Derived.Deep.RegionWith
import Derived.Deep.QuietTactic
import Derived.BigQuiet
import Derived.Maps.Own
import Derived.Outline
namespace Go.Proofs.YtkfdninngcakpaaDoor.Pure
open Go.RowKit Go.Maps Go.WideMaps Go.WideElems Go.Proofs.YtkfdninngcakpaaDoor.PLex Go.Proofs.YtkfdninngcakpaaDoorW.PrintWords Go.Proofs.YtkfdninngcakpaaDoorW.PrintLast Go.Proofs.YtkfdninngcakpaaDoorW.PrintMore
set_option linter.unusedVariables false
set_option linter.unusedSimpArgs false
def ONE : List Int := [40, 41, 123, 125, 91, 93, 44, 59, 61, 43, 45, 42, 47, 37, 60, 62, 33, 63, 58]
def markOf (s : ByteArray) : Int := if 1 < s.size ∧ (s.extract 0 2).toList ∈ KP then 2 else if bt s 0 ∈ ONE then 1 else 0
theorem pairs_look {w : World} {b : Nat} (h : w.ownsMap Tryd.prog 9 (plainElem (H := Unit) Tryd.prog 3) b 7 (wordMap KP (.map []))) (key : ByteArray) (hk : key.size ≤ maxLen) :
  (Instr.lookup 52 (.map (some b)) (.string key) false).run Tryd.prog w = .ok (.int .i64 (if key.toList ∈ KP then 1 else 0)) w := by
 have KL : Keyed Tryd.prog 9 := string_keyed Tryd.underlying9
 obtain ⟨c, hrun, hat, -⟩ := h.lookup_int KL (t := 52) (e := 3) Tryd.underlying52 Tryd.underlying3 (by kernel_rfl) (key := .string key) (keyOf_string_mk Tryd.underlying9 hk)
 rw [wordMap_at _ _ _ isMap_empty, ← ByteArray.toList_eq] at hat
 rw [hrun]
 split at hat
 ·rename_i hm; rw [if_pos hm]; cases hat; rfl
 ·rename_i hm; rw [if_neg hm]; replace hat : DataW.lit (.int .i64 0) = DataW.lit (.int .i64 c) := hat; cases hat; rfl
theorem ext2 (a0 : ByteArray) : (a0.extract 0 2).size ≤ 2 := by rw [ByteArray.size_extract]; omega
set_option maxHeartbeats 8000000 in
set_option maxRecDepth 100000 in
theorem mark_two (a0 : ByteArray) (c1 : (1 : Int) < (a0.size : Int)) (hm : (a0.extract 0 2).toList ∈ KP) (w : World) : Calls Tryd.prog 39 #[.string a0] w fun e w' => e = .returned (.int .i64 2) ∧ Below w.heap.size w w' := by
 have HB := yA (Below.refl w.heap.size w)
 have c1b0 : decide ((a0.size : Int) > 1) = true := yL c1
 have c1b1 : decide (1 < (a0.size : Int)) = true := yL c1
 have q1 : (2 ≤ (a0.size : Int)) = True := eq_true (by omega)
 have h2 := ext2 a0
 go_enter Tryd.func39, Tryd.ntmps39
 go_wp2_with fail
 go_region_with (first | (go_at_call 58; refine (pairs_any _).mono ?_; rintro e w' ⟨b, rfl, ho, hb⟩; have hlk_ := pairs_look ho (a0.extract 0 2) (by simp [maxLen]; omega); rw [if_pos hm] at hlk_; have n0_ := yA (yB (by repeat (first | (with_reducible first | exact HB.out | apply yE | apply yF | apply yD) | exact HB.out)) hb); clear HB hb ho; have HB := n0_; clear n0_))
 all_goals go_wp2
 all_goals go_ret
 all_goals exact ⟨by rfl, by repeat (first | (with_reducible first | exact HB.out | apply yE | apply yF | apply yD) | exact HB.out)⟩
set_option maxHeartbeats 8000000 in
set_option maxRecDepth 100000 in
theorem mark_b0 (a0 : ByteArray) (c1 : (1 : Int) < (a0.size : Int)) (hm : (a0.extract 0 2).toList ∉ KP) (hb : bt a0 0 = 40) (w : World) : Calls Tryd.prog 39 #[.string a0] w fun e w' => e = .returned (.int .i64 1) ∧ Below w.heap.size w w' := by
 have HB := yA (Below.refl w.heap.size w)
 have c1b0 : decide ((a0.size : Int) > 1) = true := yL c1
 have c1b1 : decide (1 < (a0.size : Int)) = true := yL c1
 have q1 : (2 ≤ (a0.size : Int)) = True := eq_true (by omega)
 have h2 := ext2 a0
 have q5 : 0 < a0.size := by omega
 have hx5 : ∀ h : 0 < a0.size, ((a0[0]'h).toNat : Int) = bt a0 0 := bt_at a0 0
 have qi5 : (0 < (a0.size : Int)) = True := eq_true (by omega)
 replace q5 := eq_true q5
 have e0 : (bt a0 0 == 40) = true := beq_iff_eq.mpr hb
 clear hb
 go_enter Tryd.func39, Tryd.ntmps39
 go_wp2_with fail
 go_region_with (first | (go_at_call 58; refine (pairs_any _).mono ?_; rintro e w' ⟨b, rfl, ho, hb⟩; have hlk_ := pairs_look ho (a0.extract 0 2) (by simp [maxLen]; omega); rw [if_neg hm] at hlk_; have n0_ := yA (yB (by repeat (first | (with_reducible first | exact HB.out | apply yE | apply yF | apply yD) | exact HB.out)) hb); clear HB hb ho; have HB := n0_; clear n0_))
 all_goals go_wp2
 all_goals go_ret
 all_goals exact ⟨by rfl, by repeat (first | (with_reducible first | exact HB.out | apply yE | apply yF | apply yD) | exact HB.out)⟩
set_option maxHeartbeats 8000000 in
set_option maxRecDepth 100000 in
theorem mark_s0 (a0 : ByteArray) (c1 : ¬ (1 : Int) < (a0.size : Int)) (c3 : (0 : Int) < (a0.size : Int)) (hb : bt a0 0 = 40) (w : World) : Calls Tryd.prog 39 #[.string a0] w fun e w' => e = .returned (.int .i64 1) ∧ Below w.heap.size w w' := by
 have HB := yA (Below.refl w.heap.size w)
 have c1b0 : decide ((a0.size : Int) > 1) = false := yM c1
 have c1b1 : decide (1 < (a0.size : Int)) = false := yM c1
 have q5 : 0 < a0.size := by omega
 have hx5 : ∀ h : 0 < a0.size, ((a0[0]'h).toNat : Int) = bt a0 0 := bt_at a0 0
 have qi5 : (0 < (a0.size : Int)) = True := eq_true (by omega)
 replace q5 := eq_true q5
 have e0 : (bt a0 0 == 40) = true := beq_iff_eq.mpr hb
 clear hb
 go_enter Tryd.func39, Tryd.ntmps39
 go_wp2_with fail
 go_quiet (fail)
 all_goals go_wp2
 all_goals go_ret
 all_goals exact ⟨by rfl, by repeat (first | (with_reducible first | exact HB.out | apply yE | apply yF | apply yD) | exact HB.out)⟩
set_option maxHeartbeats 8000000 in
set_option maxRecDepth 100000 in
theorem mark_b1 (a0 : ByteArray) (c1 : (1 : Int) < (a0.size : Int)) (hm : (a0.extract 0 2).toList ∉ KP) (hb : bt a0 0 = 41) (w : World) : Calls Tryd.prog 39 #[.string a0] w fun e w' => e = .returned (.int .i64 1) ∧ Below w.heap.size w w' := by
 have HB := yA (Below.refl w.heap.size w)
 have c1b0 : decide ((a0.size : Int) > 1) = true := yL c1
 have c1b1 : decide (1 < (a0.size : Int)) = true := yL c1
 have q1 : (2 ≤ (a0.size : Int)) = True := eq_true (by omega)
 have h2 := ext2 a0
 have q5 : 0 < a0.size := by omega
 have hx5 : ∀ h : 0 < a0.size, ((a0[0]'h).toNat : Int) = bt a0 0 := bt_at a0 0
 have qi5 : (0 < (a0.size : Int)) = True := eq_true (by omega)
 replace q5 := eq_true q5
 have e0 : (bt a0 0 == 40) = false := by rw [hb]; rfl
 have e1 : (bt a0 0 == 41) = true := beq_iff_eq.mpr hb
 clear hb
 go_enter Tryd.func39, Tryd.ntmps39
 go_wp2_with fail
 go_region_with (first | (go_at_call 58; refine (pairs_any _).mono ?_; rintro e w' ⟨b, rfl, ho, hb⟩; have hlk_ := pairs_look ho (a0.extract 0 2) (by simp [maxLen]; omega); rw [if_neg hm] at hlk_; have n0_ := yA (yB (by repeat (first | (with_reducible first | exact HB.out | apply yE | apply yF | apply yD) | exact HB.out)) hb); clear HB hb ho; have HB := n0_; clear n0_))
 all_goals go_wp2
 all_goals go_ret
 all_goals exact ⟨by rfl, by repeat (first | (with_reducible first | exact HB.out | apply yE | apply yF | apply yD) | exact HB.out)⟩
set_option maxHeartbeats 8000000 in
set_option maxRecDepth 100000 in
theorem mark_s1 (a0 : ByteArray) (c1 : ¬ (1 : Int) < (a0.size : Int)) (c3 : (0 : Int) < (a0.size : Int)) (hb : bt a0 0 = 41) (w : World) : Calls Tryd.prog 39 #[.string a0] w fun e w' => e = .returned (.int .i64 1) ∧ Below w.heap.size w w' := by
 have HB := yA (Below.refl w.heap.size w)
 have c1b0 : decide ((a0.size : Int) > 1) = false := yM c1
 have c1b1 : decide (1 < (a0.size : Int)) = false := yM c1
 have q5 : 0 < a0.size := by omega
 have hx5 : ∀ h : 0 < a0.size, ((a0[0]'h).toNat : Int) = bt a0 0 := bt_at a0 0
 have qi5 : (0 < (a0.size : Int)) = True := eq_true (by omega)
 replace q5 := eq_true q5
 have e0 : (bt a0 0 == 40) = false := by rw [hb]; rfl
 have e1 : (bt a0 0 == 41) = true := beq_iff_eq.mpr hb
 clear hb
 go_enter Tryd.func39, Tryd.ntmps39
 go_wp2_with fail
 go_quiet (fail)
 all_goals go_wp2
 all_goals go_ret
 all_goals exact ⟨by rfl, by repeat (first | (with_reducible first | exact HB.out | apply yE | apply yF | apply yD) | exact HB.out)⟩
set_option maxHeartbeats 8000000 in
set_option maxRecDepth 100000 in
theorem mark_b2 (a0 : ByteArray) (c1 : (1 : Int) < (a0.size : Int)) (hm : (a0.extract 0 2).toList ∉ KP) (hb : bt a0 0 = 123) (w : World) : Calls Tryd.prog 39 #[.string a0] w fun e w' => e = .returned (.int .i64 1) ∧ Below w.heap.size w w' := by
 have HB := yA (Below.refl w.heap.size w)
 have c1b0 : decide ((a0.size : Int) > 1) = true := yL c1
 have c1b1 : decide (1 < (a0.size : Int)) = true := yL c1
 have q1 : (2 ≤ (a0.size : Int)) = True := eq_true (by omega)
 have h2 := ext2 a0
 have q5 : 0 < a0.size := by omega
 have hx5 : ∀ h : 0 < a0.size, ((a0[0]'h).toNat : Int) = bt a0 0 := bt_at a0 0
 have qi5 : (0 < (a0.size : Int)) = True := eq_true (by omega)
 replace q5 := eq_true q5
 have e0 : (bt a0 0 == 40) = false := by rw [hb]; rfl
 have e1 : (bt a0 0 == 41) = false := by rw [hb]; rfl
 have e2 : (bt a0 0 == 123) = true := beq_iff_eq.mpr hb
 clear hb
 go_enter Tryd.func39, Tryd.ntmps39
 go_wp2_with fail
 go_region_with (first | (go_at_call 58; refine (pairs_any _).mono ?_; rintro e w' ⟨b, rfl, ho, hb⟩; have hlk_ := pairs_look ho (a0.extract 0 2) (by simp [maxLen]; omega); rw [if_neg hm] at hlk_; have n0_ := yA (yB (by repeat (first | (with_reducible first | exact HB.out | apply yE | apply yF | apply yD) | exact HB.out)) hb); clear HB hb ho; have HB := n0_; clear n0_))
 all_goals go_wp2
 all_goals go_ret
 all_goals exact ⟨by rfl, by repeat (first | (with_reducible first | exact HB.out | apply yE | apply yF | apply yD) | exact HB.out)⟩
set_option maxHeartbeats 8000000 in
set_option maxRecDepth 100000 in
theorem mark_s2 (a0 : ByteArray) (c1 : ¬ (1 : Int) < (a0.size : Int)) (c3 : (0 : Int) < (a0.size : Int)) (hb : bt a0 0 = 123) (w : World) : Calls Tryd.prog 39 #[.string a0] w fun e w' => e = .returned (.int .i64 1) ∧ Below w.heap.size w w' := by
 have HB := yA (Below.refl w.heap.size w)
 have c1b0 : decide ((a0.size : Int) > 1) = false := yM c1
 have c1b1 : decide (1 < (a0.size : Int)) = false := yM c1
 have q5 : 0 < a0.size := by omega
 have hx5 : ∀ h : 0 < a0.size, ((a0[0]'h).toNat : Int) = bt a0 0 := bt_at a0 0
 have qi5 : (0 < (a0.size : Int)) = True := eq_true (by omega)
 replace q5 := eq_true q5
 have e0 : (bt a0 0 == 40) = false := by rw [hb]; rfl
 have e1 : (bt a0 0 == 41) = false := by rw [hb]; rfl
 have e2 : (bt a0 0 == 123) = true := beq_iff_eq.mpr hb
 clear hb
 go_enter Tryd.func39, Tryd.ntmps39
 go_wp2_with fail
 go_quiet (fail)
 all_goals go_wp2
 all_goals go_ret
 all_goals exact ⟨by rfl, by repeat (first | (with_reducible first | exact HB.out | apply yE | apply yF | apply yD) | exact HB.out)⟩
set_option maxHeartbeats 8000000 in
set_option maxRecDepth 100000 in
theorem mark_b3 (a0 : ByteArray) (c1 : (1 : Int) < (a0.size : Int)) (hm : (a0.extract 0 2).toList ∉ KP) (hb : bt a0 0 = 125) (w : World) : Calls Tryd.prog 39 #[.string a0] w fun e w' => e = .returned (.int .i64 1) ∧ Below w.heap.size w w' := by
 have HB := yA (Below.refl w.heap.size w)
 have c1b0 : decide ((a0.size : Int) > 1) = true := yL c1
 have c1b1 : decide (1 < (a0.size : Int)) = true := yL c1
 have q1 : (2 ≤ (a0.size : Int)) = True := eq_true (by omega)
 have h2 := ext2 a0
 have q5 : 0 < a0.size := by omega
 have hx5 : ∀ h : 0 < a0.size, ((a0[0]'h).toNat : Int) = bt a0 0 := bt_at a0 0
 have qi5 : (0 < (a0.size : Int)) = True := eq_true (by omega)
 replace q5 := eq_true q5
 have e0 : (bt a0 0 == 40) = false := by rw [hb]; rfl
 have e1 : (bt a0 0 == 41) = false := by rw [hb]; rfl
 have e2 : (bt a0 0 == 123) = false := by rw [hb]; rfl
 have e3 : (bt a0 0 == 125) = true := beq_iff_eq.mpr hb
 clear hb
 go_enter Tryd.func39, Tryd.ntmps39
 go_wp2_with fail
 go_region_with (first | (go_at_call 58; refine (pairs_any _).mono ?_; rintro e w' ⟨b, rfl, ho, hb⟩; have hlk_ := pairs_look ho (a0.extract 0 2) (by simp [maxLen]; omega); rw [if_neg hm] at hlk_; have n0_ := yA (yB (by repeat (first | (with_reducible first | exact HB.out | apply yE | apply yF | apply yD) | exact HB.out)) hb); clear HB hb ho; have HB := n0_; clear n0_))
 all_goals go_wp2
 all_goals go_ret
 all_goals exact ⟨by rfl, by repeat (first | (with_reducible first | exact HB.out | apply yE | apply yF | apply yD) | exact HB.out)⟩
set_option maxHeartbeats 8000000 in
set_option maxRecDepth 100000 in
theorem mark_s3 (a0 : ByteArray) (c1 : ¬ (1 : Int) < (a0.size : Int)) (c3 : (0 : Int) < (a0.size : Int)) (hb : bt a0 0 = 125) (w : World) : Calls Tryd.prog 39 #[.string a0] w fun e w' => e = .returned (.int .i64 1) ∧ Below w.heap.size w w' := by
 have HB := yA (Below.refl w.heap.size w)
 have c1b0 : decide ((a0.size : Int) > 1) = false := yM c1
 have c1b1 : decide (1 < (a0.size : Int)) = false := yM c1
 have q5 : 0 < a0.size := by omega
 have hx5 : ∀ h : 0 < a0.size, ((a0[0]'h).toNat : Int) = bt a0 0 := bt_at a0 0
 have qi5 : (0 < (a0.size : Int)) = True := eq_true (by omega)
 replace q5 := eq_true q5
 have e0 : (bt a0 0 == 40) = false := by rw [hb]; rfl
 have e1 : (bt a0 0 == 41) = false := by rw [hb]; rfl
 have e2 : (bt a0 0 == 123) = false := by rw [hb]; rfl
 have e3 : (bt a0 0 == 125) = true := beq_iff_eq.mpr hb
 clear hb
 go_enter Tryd.func39, Tryd.ntmps39
 go_wp2_with fail
 go_quiet (fail)
 all_goals go_wp2
 all_goals go_ret
 all_goals exact ⟨by rfl, by repeat (first | (with_reducible first | exact HB.out | apply yE | apply yF | apply yD) | exact HB.out)⟩
set_option maxHeartbeats 8000000 in
set_option maxRecDepth 100000 in
theorem mark_b4 (a0 : ByteArray) (c1 : (1 : Int) < (a0.size : Int)) (hm : (a0.extract 0 2).toList ∉ KP) (hb : bt a0 0 = 91) (w : World) : Calls Tryd.prog 39 #[.string a0] w fun e w' => e = .returned (.int .i64 1) ∧ Below w.heap.size w w' := by
 have HB := yA (Below.refl w.heap.size w)
 have c1b0 : decide ((a0.size : Int) > 1) = true := yL c1
 have c1b1 : decide (1 < (a0.size : Int)) = true := yL c1
 have q1 : (2 ≤ (a0.size : Int)) = True := eq_true (by omega)
 have h2 := ext2 a0
 have q5 : 0 < a0.size := by omega
 have hx5 : ∀ h : 0 < a0.size, ((a0[0]'h).toNat : Int) = bt a0 0 := bt_at a0 0
 have qi5 : (0 < (a0.size : Int)) = True := eq_true (by omega)
 replace q5 := eq_true q5
 have e0 : (bt a0 0 == 40) = false := by rw [hb]; rfl
 have e1 : (bt a0 0 == 41) = false := by rw [hb]; rfl
 have e2 : (bt a0 0 == 123) = false := by rw [hb]; rfl
 have e3 : (bt a0 0 == 125) = false := by rw [hb]; rfl
 have e4 : (bt a0 0 == 91) = true := beq_iff_eq.mpr hb
 clear hb
 go_enter Tryd.func39, Tryd.ntmps39
 go_wp2_with fail
 go_region_with (first | (go_at_call 58; refine (pairs_any _).mono ?_; rintro e w' ⟨b, rfl, ho, hb⟩; have hlk_ := pairs_look ho (a0.extract 0 2) (by simp [maxLen]; omega); rw [if_neg hm] at hlk_; have n0_ := yA (yB (by repeat (first | (with_reducible first | exact HB.out | apply yE | apply yF | apply yD) | exact HB.out)) hb); clear HB hb ho; have HB := n0_; clear n0_))
 all_goals go_wp2
 all_goals go_ret
 all_goals exact ⟨by rfl, by repeat (first | (with_reducible first | exact HB.out | apply yE | apply yF | apply yD) | exact HB.out)⟩
set_option maxHeartbeats 8000000 in
set_option maxRecDepth 100000 in
theorem mark_s4 (a0 : ByteArray) (c1 : ¬ (1 : Int) < (a0.size : Int)) (c3 : (0 : Int) < (a0.size : Int)) (hb : bt a0 0 = 91) (w : World) : Calls Tryd.prog 39 #[.string a0] w fun e w' => e = .returned (.int .i64 1) ∧ Below w.heap.size w w' := by
 have HB := yA (Below.refl w.heap.size w)
 have c1b0 : decide ((a0.size : Int) > 1) = false := yM c1
 have c1b1 : decide (1 < (a0.size : Int)) = false := yM c1
 have q5 : 0 < a0.size := by omega
 have hx5 : ∀ h : 0 < a0.size, ((a0[0]'h).toNat : Int) = bt a0 0 := bt_at a0 0
 have qi5 : (0 < (a0.size : Int)) = True := eq_true (by omega)
 replace q5 := eq_true q5
 have e0 : (bt a0 0 == 40) = false := by rw [hb]; rfl
 have e1 : (bt a0 0 == 41) = false := by rw [hb]; rfl
 have e2 : (bt a0 0 == 123) = false := by rw [hb]; rfl
 have e3 : (bt a0 0 == 125) = false := by rw [hb]; rfl
 have e4 : (bt a0 0 == 91) = true := beq_iff_eq.mpr hb
 clear hb
 go_enter Tryd.func39, Tryd.ntmps39
 go_wp2_with fail
 go_quiet (fail)
 all_goals go_wp2
 all_goals go_ret
 all_goals exact ⟨by rfl, by repeat (first | (with_reducible first | exact HB.out | apply yE | apply yF | apply yD) | exact HB.out)⟩
set_option maxHeartbeats 8000000 in
set_option maxRecDepth 100000 in
theorem mark_b5 (a0 : ByteArray) (c1 : (1 : Int) < (a0.size : Int)) (hm : (a0.extract 0 2).toList ∉ KP) (hb : bt a0 0 = 93) (w : World) : Calls Tryd.prog 39 #[.string a0] w fun e w' => e = .returned (.int .i64 1) ∧ Below w.heap.size w w' := by
 have HB := yA (Below.refl w.heap.size w)
 have c1b0 : decide ((a0.size : Int) > 1) = true := yL c1
 have c1b1 : decide (1 < (a0.size : Int)) = true := yL c1
 have q1 : (2 ≤ (a0.size : Int)) = True := eq_true (by omega)
 have h2 := ext2 a0
 have q5 : 0 < a0.size := by omega
 have hx5 : ∀ h : 0 < a0.size, ((a0[0]'h).toNat : Int) = bt a0 0 := bt_at a0 0
 have qi5 : (0 < (a0.size : Int)) = True := eq_true (by omega)
 replace q5 := eq_true q5
 have e0 : (bt a0 0 == 40) = false := by rw [hb]; rfl
 have e1 : (bt a0 0 == 41) = false := by rw [hb]; rfl
 have e2 : (bt a0 0 == 123) = false := by rw [hb]; rfl
 have e3 : (bt a0 0 == 125) = false := by rw [hb]; rfl
 have e4 : (bt a0 0 == 91) = false := by rw [hb]; rfl
 have e5 : (bt a0 0 == 93) = true := beq_iff_eq.mpr hb
 clear hb
 go_enter Tryd.func39, Tryd.ntmps39
 go_wp2_with fail
 go_region_with (first | (go_at_call 58; refine (pairs_any _).mono ?_; rintro e w' ⟨b, rfl, ho, hb⟩; have hlk_ := pairs_look ho (a0.extract 0 2) (by simp [maxLen]; omega); rw [if_neg hm] at hlk_; have n0_ := yA (yB (by repeat (first | (with_reducible first | exact HB.out | apply yE | apply yF | apply yD) | exact HB.out)) hb); clear HB hb ho; have HB := n0_; clear n0_))
 all_goals go_wp2
 all_goals go_ret
 all_goals exact ⟨by rfl, by repeat (first | (with_reducible first | exact HB.out | apply yE | apply yF | apply yD) | exact HB.out)⟩
set_option maxHeartbeats 8000000 in
set_option maxRecDepth 100000 in
theorem mark_s5 (a0 : ByteArray) (c1 : ¬ (1 : Int) < (a0.size : Int)) (c3 : (0 : Int) < (a0.size : Int)) (hb : bt a0 0 = 93) (w : World) : Calls Tryd.prog 39 #[.string a0] w fun e w' => e = .returned (.int .i64 1) ∧ Below w.heap.size w w' := by
 have HB := yA (Below.refl w.heap.size w)
 have c1b0 : decide ((a0.size : Int) > 1) = false := yM c1
 have c1b1 : decide (1 < (a0.size : Int)) = false := yM c1
 have q5 : 0 < a0.size := by omega
 have hx5 : ∀ h : 0 < a0.size, ((a0[0]'h).toNat : Int) = bt a0 0 := bt_at a0 0
 have qi5 : (0 < (a0.size : Int)) = True := eq_true (by omega)
 replace q5 := eq_true q5
 have e0 : (bt a0 0 == 40) = false := by rw [hb]; rfl
 have e1 : (bt a0 0 == 41) = false := by rw [hb]; rfl
 have e2 : (bt a0 0 == 123) = false := by rw [hb]; rfl
 have e3 : (bt a0 0 == 125) = false := by rw [hb]; rfl
 have e4 : (bt a0 0 == 91) = false := by rw [hb]; rfl
 have e5 : (bt a0 0 == 93) = true := beq_iff_eq.mpr hb
 clear hb
 go_enter Tryd.func39, Tryd.ntmps39
 go_wp2_with fail
 go_quiet (fail)
 all_goals go_wp2
 all_goals go_ret
 all_goals exact ⟨by rfl, by repeat (first | (with_reducible first | exact HB.out | apply yE | apply yF | apply yD) | exact HB.out)⟩
set_option maxHeartbeats 8000000 in
set_option maxRecDepth 100000 in
theorem mark_b6 (a0 : ByteArray) (c1 : (1 : Int) < (a0.size : Int)) (hm : (a0.extract 0 2).toList ∉ KP) (hb : bt a0 0 = 44) (w : World) : Calls Tryd.prog 39 #[.string a0] w fun e w' => e = .returned (.int .i64 1) ∧ Below w.heap.size w w' := by
 have HB := yA (Below.refl w.heap.size w)
 have c1b0 : decide ((a0.size : Int) > 1) = true := yL c1
 have c1b1 : decide (1 < (a0.size : Int)) = true := yL c1
 have q1 : (2 ≤ (a0.size : Int)) = True := eq_true (by omega)
 have h2 := ext2 a0
 have q5 : 0 < a0.size := by omega
 have hx5 : ∀ h : 0 < a0.size, ((a0[0]'h).toNat : Int) = bt a0 0 := bt_at a0 0
 have qi5 : (0 < (a0.size : Int)) = True := eq_true (by omega)
 replace q5 := eq_true q5
 have e0 : (bt a0 0 == 40) = false := by rw [hb]; rfl
 have e1 : (bt a0 0 == 41) = false := by rw [hb]; rfl
 have e2 : (bt a0 0 == 123) = false := by rw [hb]; rfl
 have e3 : (bt a0 0 == 125) = false := by rw [hb]; rfl
 have e4 : (bt a0 0 == 91) = false := by rw [hb]; rfl
 have e5 : (bt a0 0 == 93) = false := by rw [hb]; rfl
 have e6 : (bt a0 0 == 44) = true := beq_iff_eq.mpr hb
 clear hb
 go_enter Tryd.func39, Tryd.ntmps39
 go_wp2_with fail
 go_region_with (first | (go_at_call 58; refine (pairs_any _).mono ?_; rintro e w' ⟨b, rfl, ho, hb⟩; have hlk_ := pairs_look ho (a0.extract 0 2) (by simp [maxLen]; omega); rw [if_neg hm] at hlk_; have n0_ := yA (yB (by repeat (first | (with_reducible first | exact HB.out | apply yE | apply yF | apply yD) | exact HB.out)) hb); clear HB hb ho; have HB := n0_; clear n0_))
 all_goals go_wp2
 all_goals go_ret
 all_goals exact ⟨by rfl, by repeat (first | (with_reducible first | exact HB.out | apply yE | apply yF | apply yD) | exact HB.out)⟩
set_option maxHeartbeats 8000000 in
set_option maxRecDepth 100000 in
theorem mark_s6 (a0 : ByteArray) (c1 : ¬ (1 : Int) < (a0.size : Int)) (c3 : (0 : Int) < (a0.size : Int)) (hb : bt a0 0 = 44) (w : World) : Calls Tryd.prog 39 #[.string a0] w fun e w' => e = .returned (.int .i64 1) ∧ Below w.heap.size w w' := by
 have HB := yA (Below.refl w.heap.size w)
 have c1b0 : decide ((a0.size : Int) > 1) = false := yM c1
 have c1b1 : decide (1 < (a0.size : Int)) = false := yM c1
 have q5 : 0 < a0.size := by omega
 have hx5 : ∀ h : 0 < a0.size, ((a0[0]'h).toNat : Int) = bt a0 0 := bt_at a0 0
 have qi5 : (0 < (a0.size : Int)) = True := eq_true (by omega)
 replace q5 := eq_true q5
 have e0 : (bt a0 0 == 40) = false := by rw [hb]; rfl
 have e1 : (bt a0 0 == 41) = false := by rw [hb]; rfl
 have e2 : (bt a0 0 == 123) = false := by rw [hb]; rfl
 have e3 : (bt a0 0 == 125) = false := by rw [hb]; rfl
 have e4 : (bt a0 0 == 91) = false := by rw [hb]; rfl
 have e5 : (bt a0 0 == 93) = false := by rw [hb]; rfl
 have e6 : (bt a0 0 == 44) = true := beq_iff_eq.mpr hb
 clear hb
 go_enter Tryd.func39, Tryd.ntmps39
 go_wp2_with fail
 go_quiet (fail)
 all_goals go_wp2
 all_goals go_ret
 all_goals exact ⟨by rfl, by repeat (first | (with_reducible first | exact HB.out | apply yE | apply yF | apply yD) | exact HB.out)⟩
set_option maxHeartbeats 8000000 in
set_option maxRecDepth 100000 in
theorem mark_b7 (a0 : ByteArray) (c1 : (1 : Int) < (a0.size : Int)) (hm : (a0.extract 0 2).toList ∉ KP) (hb : bt a0 0 = 59) (w : World) : Calls Tryd.prog 39 #[.string a0] w fun e w' => e = .returned (.int .i64 1) ∧ Below w.heap.size w w' := by
 have HB := yA (Below.refl w.heap.size w)
 have c1b0 : decide ((a0.size : Int) > 1) = true := yL c1
 have c1b1 : decide (1 < (a0.size : Int)) = true := yL c1
 have q1 : (2 ≤ (a0.size : Int)) = True := eq_true (by omega)
 have h2 := ext2 a0
 have q5 : 0 < a0.size := by omega
 have hx5 : ∀ h : 0 < a0.size, ((a0[0]'h).toNat : Int) = bt a0 0 := bt_at a0 0
 have qi5 : (0 < (a0.size : Int)) = True := eq_true (by omega)
 replace q5 := eq_true q5
 have e0 : (bt a0 0 == 40) = false := by rw [hb]; rfl
 have e1 : (bt a0 0 == 41) = false := by rw [hb]; rfl
 have e2 : (bt a0 0 == 123) = false := by rw [hb]; rfl
 have e3 : (bt a0 0 == 125) = false := by rw [hb]; rfl
 have e4 : (bt a0 0 == 91) = false := by rw [hb]; rfl
 have e5 : (bt a0 0 == 93) = false := by rw [hb]; rfl
 have e6 : (bt a0 0 == 44) = false := by rw [hb]; rfl
 have e7 : (bt a0 0 == 59) = true := beq_iff_eq.mpr hb
 clear hb
 go_enter Tryd.func39, Tryd.ntmps39
 go_wp2_with fail
 go_region_with (first | (go_at_call 58; refine (pairs_any _).mono ?_; rintro e w' ⟨b, rfl, ho, hb⟩; have hlk_ := pairs_look ho (a0.extract 0 2) (by simp [maxLen]; omega); rw [if_neg hm] at hlk_; have n0_ := yA (yB (by repeat (first | (with_reducible first | exact HB.out | apply yE | apply yF | apply yD) | exact HB.out)) hb); clear HB hb ho; have HB := n0_; clear n0_))
 all_goals go_wp2
 all_goals go_ret
 all_goals exact ⟨by rfl, by repeat (first | (with_reducible first | exact HB.out | apply yE | apply yF | apply yD) | exact HB.out)⟩
set_option maxHeartbeats 8000000 in
set_option maxRecDepth 100000 in
theorem mark_s7 (a0 : ByteArray) (c1 : ¬ (1 : Int) < (a0.size : Int)) (c3 : (0 : Int) < (a0.size : Int)) (hb : bt a0 0 = 59) (w : World) : Calls Tryd.prog 39 #[.string a0] w fun e w' => e = .returned (.int .i64 1) ∧ Below w.heap.size w w' := by
 have HB := yA (Below.refl w.heap.size w)
 have c1b0 : decide ((a0.size : Int) > 1) = false := yM c1
 have c1b1 : decide (1 < (a0.size : Int)) = false := yM c1
 have q5 : 0 < a0.size := by omega
 have hx5 : ∀ h : 0 < a0.size, ((a0[0]'h).toNat : Int) = bt a0 0 := bt_at a0 0
 have qi5 : (0 < (a0.size : Int)) = True := eq_true (by omega)
 replace q5 := eq_true q5
 have e0 : (bt a0 0 == 40) = false := by rw [hb]; rfl
 have e1 : (bt a0 0 == 41) = false := by rw [hb]; rfl
 have e2 : (bt a0 0 == 123) = false := by rw [hb]; rfl
 have e3 : (bt a0 0 == 125) = false := by rw [hb]; rfl
 have e4 : (bt a0 0 == 91) = false := by rw [hb]; rfl
 have e5 : (bt a0 0 == 93) = false := by rw [hb]; rfl
 have e6 : (bt a0 0 == 44) = false := by rw [hb]; rfl
 have e7 : (bt a0 0 == 59) = true := beq_iff_eq.mpr hb
 clear hb
 go_enter Tryd.func39, Tryd.ntmps39
 go_wp2_with fail
 go_quiet (fail)
 all_goals go_wp2
 all_goals go_ret
 all_goals exact ⟨by rfl, by repeat (first | (with_reducible first | exact HB.out | apply yE | apply yF | apply yD) | exact HB.out)⟩
set_option maxHeartbeats 8000000 in
set_option maxRecDepth 100000 in
theorem mark_b8 (a0 : ByteArray) (c1 : (1 : Int) < (a0.size : Int)) (hm : (a0.extract 0 2).toList ∉ KP) (hb : bt a0 0 = 61) (w : World) : Calls Tryd.prog 39 #[.string a0] w fun e w' => e = .returned (.int .i64 1) ∧ Below w.heap.size w w' := by
 have HB := yA (Below.refl w.heap.size w)
 have c1b0 : decide ((a0.size : Int) > 1) = true := yL c1
 have c1b1 : decide (1 < (a0.size : Int)) = true := yL c1
 have q1 : (2 ≤ (a0.size : Int)) = True := eq_true (by omega)
 have h2 := ext2 a0
 have q5 : 0 < a0.size := by omega
 have hx5 : ∀ h : 0 < a0.size, ((a0[0]'h).toNat : Int) = bt a0 0 := bt_at a0 0
 have qi5 : (0 < (a0.size : Int)) = True := eq_true (by omega)
 replace q5 := eq_true q5
 have e0 : (bt a0 0 == 40) = false := by rw [hb]; rfl
 have e1 : (bt a0 0 == 41) = false := by rw [hb]; rfl
 have e2 : (bt a0 0 == 123) = false := by rw [hb]; rfl
 have e3 : (bt a0 0 == 125) = false := by rw [hb]; rfl
 have e4 : (bt a0 0 == 91) = false := by rw [hb]; rfl
 have e5 : (bt a0 0 == 93) = false := by rw [hb]; rfl
 have e6 : (bt a0 0 == 44) = false := by rw [hb]; rfl
 have e7 : (bt a0 0 == 59) = false := by rw [hb]; rfl
 have e8 : (bt a0 0 == 61) = true := beq_iff_eq.mpr hb
 clear hb
 go_enter Tryd.func39, Tryd.ntmps39
 go_wp2_with fail
 go_region_with (first | (go_at_call 58; refine (pairs_any _).mono ?_; rintro e w' ⟨b, rfl, ho, hb⟩; have hlk_ := pairs_look ho (a0.extract 0 2) (by simp [maxLen]; omega); rw [if_neg hm] at hlk_; have n0_ := yA (yB (by repeat (first | (with_reducible first | exact HB.out | apply yE | apply yF | apply yD) | exact HB.out)) hb); clear HB hb ho; have HB := n0_; clear n0_))
 all_goals go_wp2
 all_goals go_ret
 all_goals exact ⟨by rfl, by repeat (first | (with_reducible first | exact HB.out | apply yE | apply yF | apply yD) | exact HB.out)⟩
set_option maxHeartbeats 8000000 in
set_option maxRecDepth 100000 in
theorem mark_s8 (a0 : ByteArray) (c1 : ¬ (1 : Int) < (a0.size : Int)) (c3 : (0 : Int) < (a0.size : Int)) (hb : bt a0 0 = 61) (w : World) : Calls Tryd.prog 39 #[.string a0] w fun e w' => e = .returned (.int .i64 1) ∧ Below w.heap.size w w' := by
 have HB := yA (Below.refl w.heap.size w)
 have c1b0 : decide ((a0.size : Int) > 1) = false := yM c1
 have c1b1 : decide (1 < (a0.size : Int)) = false := yM c1
 have q5 : 0 < a0.size := by omega
 have hx5 : ∀ h : 0 < a0.size, ((a0[0]'h).toNat : Int) = bt a0 0 := bt_at a0 0
 have qi5 : (0 < (a0.size : Int)) = True := eq_true (by omega)
 replace q5 := eq_true q5
 have e0 : (bt a0 0 == 40) = false := by rw [hb]; rfl
 have e1 : (bt a0 0 == 41) = false := by rw [hb]; rfl
 have e2 : (bt a0 0 == 123) = false := by rw [hb]; rfl
 have e3 : (bt a0 0 == 125) = false := by rw [hb]; rfl
 have e4 : (bt a0 0 == 91) = false := by rw [hb]; rfl
 have e5 : (bt a0 0 == 93) = false := by rw [hb]; rfl
 have e6 : (bt a0 0 == 44) = false := by rw [hb]; rfl
 have e7 : (bt a0 0 == 59) = false := by rw [hb]; rfl
 have e8 : (bt a0 0 == 61) = true := beq_iff_eq.mpr hb
 clear hb
 go_enter Tryd.func39, Tryd.ntmps39
 go_wp2_with fail
 go_quiet (fail)
 all_goals go_wp2
 all_goals go_ret
 all_goals exact ⟨by rfl, by repeat (first | (with_reducible first | exact HB.out | apply yE | apply yF | apply yD) | exact HB.out)⟩
set_option maxHeartbeats 8000000 in
set_option maxRecDepth 100000 in
theorem mark_b9 (a0 : ByteArray) (c1 : (1 : Int) < (a0.size : Int)) (hm : (a0.extract 0 2).toList ∉ KP) (hb : bt a0 0 = 43) (w : World) : Calls Tryd.prog 39 #[.string a0] w fun e w' => e = .returned (.int .i64 1) ∧ Below w.heap.size w w' := by
 have HB := yA (Below.refl w.heap.size w)
 have c1b0 : decide ((a0.size : Int) > 1) = true := yL c1
 have c1b1 : decide (1 < (a0.size : Int)) = true := yL c1
 have q1 : (2 ≤ (a0.size : Int)) = True := eq_true (by omega)
 have h2 := ext2 a0
 have q5 : 0 < a0.size := by omega
 have hx5 : ∀ h : 0 < a0.size, ((a0[0]'h).toNat : Int) = bt a0 0 := bt_at a0 0
 have qi5 : (0 < (a0.size : Int)) = True := eq_true (by omega)
 replace q5 := eq_true q5
 have e0 : (bt a0 0 == 40) = false := by rw [hb]; rfl
 have e1 : (bt a0 0 == 41) = false := by rw [hb]; rfl
 have e2 : (bt a0 0 == 123) = false := by rw [hb]; rfl
 have e3 : (bt a0 0 == 125) = false := by rw [hb]; rfl
 have e4 : (bt a0 0 == 91) = false := by rw [hb]; rfl
 have e5 : (bt a0 0 == 93) = false := by rw [hb]; rfl
 have e6 : (bt a0 0 == 44) = false := by rw [hb]; rfl
 have e7 : (bt a0 0 == 59) = false := by rw [hb]; rfl
 have e8 : (bt a0 0 == 61) = false := by rw [hb]; rfl
 have e9 : (bt a0 0 == 43) = true := beq_iff_eq.mpr hb
 clear hb
 go_enter Tryd.func39, Tryd.ntmps39
 go_wp2_with fail
 go_region_with (first | (go_at_call 58; refine (pairs_any _).mono ?_; rintro e w' ⟨b, rfl, ho, hb⟩; have hlk_ := pairs_look ho (a0.extract 0 2) (by simp [maxLen]; omega); rw [if_neg hm] at hlk_; have n0_ := yA (yB (by repeat (first | (with_reducible first | exact HB.out | apply yE | apply yF | apply yD) | exact HB.out)) hb); clear HB hb ho; have HB := n0_; clear n0_))
 all_goals go_wp2
 all_goals go_ret
 all_goals exact ⟨by rfl, by repeat (first | (with_reducible first | exact HB.out | apply yE | apply yF | apply yD) | exact HB.out)⟩
set_option maxHeartbeats 8000000 in
set_option maxRecDepth 100000 in
theorem mark_s9 (a0 : ByteArray) (c1 : ¬ (1 : Int) < (a0.size : Int)) (c3 : (0 : Int) < (a0.size : Int)) (hb : bt a0 0 = 43) (w : World) : Calls Tryd.prog 39 #[.string a0] w fun e w' => e = .returned (.int .i64 1) ∧ Below w.heap.size w w' := by
 have HB := yA (Below.refl w.heap.size w)
 have c1b0 : decide ((a0.size : Int) > 1) = false := yM c1
 have c1b1 : decide (1 < (a0.size : Int)) = false := yM c1
 have q5 : 0 < a0.size := by omega
 have hx5 : ∀ h : 0 < a0.size, ((a0[0]'h).toNat : Int) = bt a0 0 := bt_at a0 0
 have qi5 : (0 < (a0.size : Int)) = True := eq_true (by omega)
 replace q5 := eq_true q5
 have e0 : (bt a0 0 == 40) = false := by rw [hb]; rfl
 have e1 : (bt a0 0 == 41) = false := by rw [hb]; rfl
 have e2 : (bt a0 0 == 123) = false := by rw [hb]; rfl
 have e3 : (bt a0 0 == 125) = false := by rw [hb]; rfl
 have e4 : (bt a0 0 == 91) = false := by rw [hb]; rfl
 have e5 : (bt a0 0 == 93) = false := by rw [hb]; rfl
 have e6 : (bt a0 0 == 44) = false := by rw [hb]; rfl
 have e7 : (bt a0 0 == 59) = false := by rw [hb]; rfl
 have e8 : (bt a0 0 == 61) = false := by rw [hb]; rfl
 have e9 : (bt a0 0 == 43) = true := beq_iff_eq.mpr hb
 clear hb
 go_enter Tryd.func39, Tryd.ntmps39
 go_wp2_with fail
 go_quiet (fail)
 all_goals go_wp2
 all_goals go_ret
 all_goals exact ⟨by rfl, by repeat (first | (with_reducible first | exact HB.out | apply yE | apply yF | apply yD) | exact HB.out)⟩
set_option maxHeartbeats 8000000 in
set_option maxRecDepth 100000 in
theorem mark_b10 (a0 : ByteArray) (c1 : (1 : Int) < (a0.size : Int)) (hm : (a0.extract 0 2).toList ∉ KP) (hb : bt a0 0 = 45) (w : World) : Calls Tryd.prog 39 #[.string a0] w fun e w' => e = .returned (.int .i64 1) ∧ Below w.heap.size w w' := by
 have HB := yA (Below.refl w.heap.size w)
 have c1b0 : decide ((a0.size : Int) > 1) = true := yL c1
 have c1b1 : decide (1 < (a0.size : Int)) = true := yL c1
 have q1 : (2 ≤ (a0.size : Int)) = True := eq_true (by omega)
 have h2 := ext2 a0
 have q5 : 0 < a0.size := by omega
 have hx5 : ∀ h : 0 < a0.size, ((a0[0]'h).toNat : Int) = bt a0 0 := bt_at a0 0
 have qi5 : (0 < (a0.size : Int)) = True := eq_true (by omega)
 replace q5 := eq_true q5
 have e0 : (bt a0 0 == 40) = false := by rw [hb]; rfl
 have e1 : (bt a0 0 == 41) = false := by rw [hb]; rfl
 have e2 : (bt a0 0 == 123) = false := by rw [hb]; rfl
 have e3 : (bt a0 0 == 125) = false := by rw [hb]; rfl
 have e4 : (bt a0 0 == 91) = false := by rw [hb]; rfl
 have e5 : (bt a0 0 == 93) = false := by rw [hb]; rfl
 have e6 : (bt a0 0 == 44) = false := by rw [hb]; rfl
 have e7 : (bt a0 0 == 59) = false := by rw [hb]; rfl
 have e8 : (bt a0 0 == 61) = false := by rw [hb]; rfl
 have e9 : (bt a0 0 == 43) = false := by rw [hb]; rfl
 have e10 : (bt a0 0 == 45) = true := beq_iff_eq.mpr hb
 clear hb
 go_enter Tryd.func39, Tryd.ntmps39
 go_wp2_with fail
 go_region_with (first | (go_at_call 58; refine (pairs_any _).mono ?_; rintro e w' ⟨b, rfl, ho, hb⟩; have hlk_ := pairs_look ho (a0.extract 0 2) (by simp [maxLen]; omega); rw [if_neg hm] at hlk_; have n0_ := yA (yB (by repeat (first | (with_reducible first | exact HB.out | apply yE | apply yF | apply yD) | exact HB.out)) hb); clear HB hb ho; have HB := n0_; clear n0_))
 all_goals go_wp2
 all_goals go_ret
 all_goals exact ⟨by rfl, by repeat (first | (with_reducible first | exact HB.out | apply yE | apply yF | apply yD) | exact HB.out)⟩
set_option maxHeartbeats 8000000 in
set_option maxRecDepth 100000 in
theorem mark_s10 (a0 : ByteArray) (c1 : ¬ (1 : Int) < (a0.size : Int)) (c3 : (0 : Int) < (a0.size : Int)) (hb : bt a0 0 = 45) (w : World) : Calls Tryd.prog 39 #[.string a0] w fun e w' => e = .returned (.int .i64 1) ∧ Below w.heap.size w w' := by
 have HB := yA (Below.refl w.heap.size w)
 have c1b0 : decide ((a0.size : Int) > 1) = false := yM c1
 have c1b1 : decide (1 < (a0.size : Int)) = false := yM c1
 have q5 : 0 < a0.size := by omega
 have hx5 : ∀ h : 0 < a0.size, ((a0[0]'h).toNat : Int) = bt a0 0 := bt_at a0 0
 have qi5 : (0 < (a0.size : Int)) = True := eq_true (by omega)
 replace q5 := eq_true q5
 have e0 : (bt a0 0 == 40) = false := by rw [hb]; rfl
 have e1 : (bt a0 0 == 41) = false := by rw [hb]; rfl
 have e2 : (bt a0 0 == 123) = false := by rw [hb]; rfl
 have e3 : (bt a0 0 == 125) = false := by rw [hb]; rfl
 have e4 : (bt a0 0 == 91) = false := by rw [hb]; rfl
 have e5 : (bt a0 0 == 93) = false := by rw [hb]; rfl
 have e6 : (bt a0 0 == 44) = false := by rw [hb]; rfl
 have e7 : (bt a0 0 == 59) = false := by rw [hb]; rfl
 have e8 : (bt a0 0 == 61) = false := by rw [hb]; rfl
 have e9 : (bt a0 0 == 43) = false := by rw [hb]; rfl
 have e10 : (bt a0 0 == 45) = true := beq_iff_eq.mpr hb
 clear hb
 go_enter Tryd.func39, Tryd.ntmps39
 go_wp2_with fail
 go_quiet (fail)
 all_goals go_wp2
 all_goals go_ret
 all_goals exact ⟨by rfl, by repeat (first | (with_reducible first | exact HB.out | apply yE | apply yF | apply yD) | exact HB.out)⟩
set_option maxHeartbeats 8000000 in
set_option maxRecDepth 100000 in
theorem mark_b11 (a0 : ByteArray) (c1 : (1 : Int) < (a0.size : Int)) (hm : (a0.extract 0 2).toList ∉ KP) (hb : bt a0 0 = 42) (w : World) : Calls Tryd.prog 39 #[.string a0] w fun e w' => e = .returned (.int .i64 1) ∧ Below w.heap.size w w' := by
 have HB := yA (Below.refl w.heap.size w)
 have c1b0 : decide ((a0.size : Int) > 1) = true := yL c1
 have c1b1 : decide (1 < (a0.size : Int)) = true := yL c1
 have q1 : (2 ≤ (a0.size : Int)) = True := eq_true (by omega)
 have h2 := ext2 a0
 have q5 : 0 < a0.size := by omega
 have hx5 : ∀ h : 0 < a0.size, ((a0[0]'h).toNat : Int) = bt a0 0 := bt_at a0 0
 have qi5 : (0 < (a0.size : Int)) = True := eq_true (by omega)
 replace q5 := eq_true q5
 have e0 : (bt a0 0 == 40) = false := by rw [hb]; rfl
 have e1 : (bt a0 0 == 41) = false := by rw [hb]; rfl
 have e2 : (bt a0 0 == 123) = false := by rw [hb]; rfl
 have e3 : (bt a0 0 == 125) = false := by rw [hb]; rfl
 have e4 : (bt a0 0 == 91) = false := by rw [hb]; rfl
 have e5 : (bt a0 0 == 93) = false := by rw [hb]; rfl
 have e6 : (bt a0 0 == 44) = false := by rw [hb]; rfl
 have e7 : (bt a0 0 == 59) = false := by rw [hb]; rfl
 have e8 : (bt a0 0 == 61) = false := by rw [hb]; rfl
 have e9 : (bt a0 0 == 43) = false := by rw [hb]; rfl
 have e10 : (bt a0 0 == 45) = false := by rw [hb]; rfl
 have e11 : (bt a0 0 == 42) = true := beq_iff_eq.mpr hb
 clear hb
 go_enter Tryd.func39, Tryd.ntmps39
 go_wp2_with fail
 go_region_with (first | (go_at_call 58; refine (pairs_any _).mono ?_; rintro e w' ⟨b, rfl, ho, hb⟩; have hlk_ := pairs_look ho (a0.extract 0 2) (by simp [maxLen]; omega); rw [if_neg hm] at hlk_; have n0_ := yA (yB (by repeat (first | (with_reducible first | exact HB.out | apply yE | apply yF | apply yD) | exact HB.out)) hb); clear HB hb ho; have HB := n0_; clear n0_))
 all_goals go_wp2
 all_goals go_ret
 all_goals exact ⟨by rfl, by repeat (first | (with_reducible first | exact HB.out | apply yE | apply yF | apply yD) | exact HB.out)⟩
set_option maxHeartbeats 8000000 in
set_option maxRecDepth 100000 in
theorem mark_s11 (a0 : ByteArray) (c1 : ¬ (1 : Int) < (a0.size : Int)) (c3 : (0 : Int) < (a0.size : Int)) (hb : bt a0 0 = 42) (w : World) : Calls Tryd.prog 39 #[.string a0] w fun e w' => e = .returned (.int .i64 1) ∧ Below w.heap.size w w' := by
 have HB := yA (Below.refl w.heap.size w)
 have c1b0 : decide ((a0.size : Int) > 1) = false := yM c1
 have c1b1 : decide (1 < (a0.size : Int)) = false := yM c1
 have q5 : 0 < a0.size := by omega
 have hx5 : ∀ h : 0 < a0.size, ((a0[0]'h).toNat : Int) = bt a0 0 := bt_at a0 0
 have qi5 : (0 < (a0.size : Int)) = True := eq_true (by omega)
 replace q5 := eq_true q5
 have e0 : (bt a0 0 == 40) = false := by rw [hb]; rfl
 have e1 : (bt a0 0 == 41) = false := by rw [hb]; rfl
 have e2 : (bt a0 0 == 123) = false := by rw [hb]; rfl
 have e3 : (bt a0 0 == 125) = false := by rw [hb]; rfl
 have e4 : (bt a0 0 == 91) = false := by rw [hb]; rfl
 have e5 : (bt a0 0 == 93) = false := by rw [hb]; rfl
 have e6 : (bt a0 0 == 44) = false := by rw [hb]; rfl
 have e7 : (bt a0 0 == 59) = false := by rw [hb]; rfl
 have e8 : (bt a0 0 == 61) = false := by rw [hb]; rfl
 have e9 : (bt a0 0 == 43) = false := by rw [hb]; rfl
 have e10 : (bt a0 0 == 45) = false := by rw [hb]; rfl
 have e11 : (bt a0 0 == 42) = true := beq_iff_eq.mpr hb
 clear hb
 go_enter Tryd.func39, Tryd.ntmps39
 go_wp2_with fail
 go_quiet (fail)
 all_goals go_wp2
 all_goals go_ret
 all_goals exact ⟨by rfl, by repeat (first | (with_reducible first | exact HB.out | apply yE | apply yF | apply yD) | exact HB.out)⟩
set_option maxHeartbeats 8000000 in
set_option maxRecDepth 100000 in
theorem mark_b12 (a0 : ByteArray) (c1 : (1 : Int) < (a0.size : Int)) (hm : (a0.extract 0 2).toList ∉ KP) (hb : bt a0 0 = 47) (w : World) : Calls Tryd.prog 39 #[.string a0] w fun e w' => e = .returned (.int .i64 1) ∧ Below w.heap.size w w' := by
 have HB := yA (Below.refl w.heap.size w)
 have c1b0 : decide ((a0.size : Int) > 1) = true := yL c1
 have c1b1 : decide (1 < (a0.size : Int)) = true := yL c1
 have q1 : (2 ≤ (a0.size : Int)) = True := eq_true (by omega)
 have h2 := ext2 a0
 have q5 : 0 < a0.size := by omega
 have hx5 : ∀ h : 0 < a0.size, ((a0[0]'h).toNat : Int) = bt a0 0 := bt_at a0 0
 have qi5 : (0 < (a0.size : Int)) = True := eq_true (by omega)
 replace q5 := eq_true q5
 have e0 : (bt a0 0 == 40) = false := by rw [hb]; rfl
 have e1 : (bt a0 0 == 41) = false := by rw [hb]; rfl
 have e2 : (bt a0 0 == 123) = false := by rw [hb]; rfl
 have e3 : (bt a0 0 == 125) = false := by rw [hb]; rfl
 have e4 : (bt a0 0 == 91) = false := by rw [hb]; rfl
 have e5 : (bt a0 0 == 93) = false := by rw [hb]; rfl
 have e6 : (bt a0 0 == 44) = false := by rw [hb]; rfl
 have e7 : (bt a0 0 == 59) = false := by rw [hb]; rfl
 have e8 : (bt a0 0 == 61) = false := by rw [hb]; rfl
 have e9 : (bt a0 0 == 43) = false := by rw [hb]; rfl
 have e10 : (bt a0 0 == 45) = false := by rw [hb]; rfl
 have e11 : (bt a0 0 == 42) = false := by rw [hb]; rfl
 have e12 : (bt a0 0 == 47) = true := beq_iff_eq.mpr hb
 clear hb
 go_enter Tryd.func39, Tryd.ntmps39
 go_wp2_with fail
 go_region_with (first | (go_at_call 58; refine (pairs_any _).mono ?_; rintro e w' ⟨b, rfl, ho, hb⟩; have hlk_ := pairs_look ho (a0.extract 0 2) (by simp [maxLen]; omega); rw [if_neg hm] at hlk_; have n0_ := yA (yB (by repeat (first | (with_reducible first | exact HB.out | apply yE | apply yF | apply yD) | exact HB.out)) hb); clear HB hb ho; have HB := n0_; clear n0_))
 all_goals go_wp2
 all_goals go_ret
 all_goals exact ⟨by rfl, by repeat (first | (with_reducible first | exact HB.out | apply yE | apply yF | apply yD) | exact HB.out)⟩
set_option maxHeartbeats 8000000 in
set_option maxRecDepth 100000 in
theorem mark_s12 (a0 : ByteArray) (c1 : ¬ (1 : Int) < (a0.size : Int)) (c3 : (0 : Int) < (a0.size : Int)) (hb : bt a0 0 = 47) (w : World) : Calls Tryd.prog 39 #[.string a0] w fun e w' => e = .returned (.int .i64 1) ∧ Below w.heap.size w w' := by
 have HB := yA (Below.refl w.heap.size w)
 have c1b0 : decide ((a0.size : Int) > 1) = false := yM c1
 have c1b1 : decide (1 < (a0.size : Int)) = false := yM c1
 have q5 : 0 < a0.size := by omega
 have hx5 : ∀ h : 0 < a0.size, ((a0[0]'h).toNat : Int) = bt a0 0 := bt_at a0 0
 have qi5 : (0 < (a0.size : Int)) = True := eq_true (by omega)
 replace q5 := eq_true q5
 have e0 : (bt a0 0 == 40) = false := by rw [hb]; rfl
 have e1 : (bt a0 0 == 41) = false := by rw [hb]; rfl
 have e2 : (bt a0 0 == 123) = false := by rw [hb]; rfl
 have e3 : (bt a0 0 == 125) = false := by rw [hb]; rfl
 have e4 : (bt a0 0 == 91) = false := by rw [hb]; rfl
 have e5 : (bt a0 0 == 93) = false := by rw [hb]; rfl
 have e6 : (bt a0 0 == 44) = false := by rw [hb]; rfl
 have e7 : (bt a0 0 == 59) = false := by rw [hb]; rfl
 have e8 : (bt a0 0 == 61) = false := by rw [hb]; rfl
 have e9 : (bt a0 0 == 43) = false := by rw [hb]; rfl
 have e10 : (bt a0 0 == 45) = false := by rw [hb]; rfl
 have e11 : (bt a0 0 == 42) = false := by rw [hb]; rfl
 have e12 : (bt a0 0 == 47) = true := beq_iff_eq.mpr hb
 clear hb
 go_enter Tryd.func39, Tryd.ntmps39
 go_wp2_with fail
 go_quiet (fail)
 all_goals go_wp2
 all_goals go_ret
 all_goals exact ⟨by rfl, by repeat (first | (with_reducible first | exact HB.out | apply yE | apply yF | apply yD) | exact HB.out)⟩
set_option maxHeartbeats 8000000 in
set_option maxRecDepth 100000 in
theorem mark_b13 (a0 : ByteArray) (c1 : (1 : Int) < (a0.size : Int)) (hm : (a0.extract 0 2).toList ∉ KP) (hb : bt a0 0 = 37) (w : World) : Calls Tryd.prog 39 #[.string a0] w fun e w' => e = .returned (.int .i64 1) ∧ Below w.heap.size w w' := by
 have HB := yA (Below.refl w.heap.size w)
 have c1b0 : decide ((a0.size : Int) > 1) = true := yL c1
 have c1b1 : decide (1 < (a0.size : Int)) = true := yL c1
 have q1 : (2 ≤ (a0.size : Int)) = True := eq_true (by omega)
 have h2 := ext2 a0
 have q5 : 0 < a0.size := by omega
 have hx5 : ∀ h : 0 < a0.size, ((a0[0]'h).toNat : Int) = bt a0 0 := bt_at a0 0
 have qi5 : (0 < (a0.size : Int)) = True := eq_true (by omega)
 replace q5 := eq_true q5
 have e0 : (bt a0 0 == 40) = false := by rw [hb]; rfl
 have e1 : (bt a0 0 == 41) = false := by rw [hb]; rfl
 have e2 : (bt a0 0 == 123) = false := by rw [hb]; rfl
 have e3 : (bt a0 0 == 125) = false := by rw [hb]; rfl
 have e4 : (bt a0 0 == 91) = false := by rw [hb]; rfl
 have e5 : (bt a0 0 == 93) = false := by rw [hb]; rfl
 have e6 : (bt a0 0 == 44) = false := by rw [hb]; rfl
 have e7 : (bt a0 0 == 59) = false := by rw [hb]; rfl
 have e8 : (bt a0 0 == 61) = false := by rw [hb]; rfl
 have e9 : (bt a0 0 == 43) = false := by rw [hb]; rfl
 have e10 : (bt a0 0 == 45) = false := by rw [hb]; rfl
 have e11 : (bt a0 0 == 42) = false := by rw [hb]; rfl
 have e12 : (bt a0 0 == 47) = false := by rw [hb]; rfl
 have e13 : (bt a0 0 == 37) = true := beq_iff_eq.mpr hb
 clear hb
 go_enter Tryd.func39, Tryd.ntmps39
 go_wp2_with fail
 go_region_with (first | (go_at_call 58; refine (pairs_any _).mono ?_; rintro e w' ⟨b, rfl, ho, hb⟩; have hlk_ := pairs_look ho (a0.extract 0 2) (by simp [maxLen]; omega); rw [if_neg hm] at hlk_; have n0_ := yA (yB (by repeat (first | (with_reducible first | exact HB.out | apply yE | apply yF | apply yD) | exact HB.out)) hb); clear HB hb ho; have HB := n0_; clear n0_))
 all_goals go_wp2
 all_goals go_ret
 all_goals exact ⟨by rfl, by repeat (first | (with_reducible first | exact HB.out | apply yE | apply yF | apply yD) | exact HB.out)⟩
set_option maxHeartbeats 8000000 in
set_option maxRecDepth 100000 in
theorem mark_s13 (a0 : ByteArray) (c1 : ¬ (1 : Int) < (a0.size : Int)) (c3 : (0 : Int) < (a0.size : Int)) (hb : bt a0 0 = 37) (w : World) : Calls Tryd.prog 39 #[.string a0] w fun e w' => e = .returned (.int .i64 1) ∧ Below w.heap.size w w' := by
 have HB := yA (Below.refl w.heap.size w)
 have c1b0 : decide ((a0.size : Int) > 1) = false := yM c1
 have c1b1 : decide (1 < (a0.size : Int)) = false := yM c1
 have q5 : 0 < a0.size := by omega
 have hx5 : ∀ h : 0 < a0.size, ((a0[0]'h).toNat : Int) = bt a0 0 := bt_at a0 0
 have qi5 : (0 < (a0.size : Int)) = True := eq_true (by omega)
 replace q5 := eq_true q5
 have e0 : (bt a0 0 == 40) = false := by rw [hb]; rfl
 have e1 : (bt a0 0 == 41) = false := by rw [hb]; rfl
 have e2 : (bt a0 0 == 123) = false := by rw [hb]; rfl
 have e3 : (bt a0 0 == 125) = false := by rw [hb]; rfl
 have e4 : (bt a0 0 == 91) = false := by rw [hb]; rfl
 have e5 : (bt a0 0 == 93) = false := by rw [hb]; rfl
 have e6 : (bt a0 0 == 44) = false := by rw [hb]; rfl
 have e7 : (bt a0 0 == 59) = false := by rw [hb]; rfl
 have e8 : (bt a0 0 == 61) = false := by rw [hb]; rfl
 have e9 : (bt a0 0 == 43) = false := by rw [hb]; rfl
 have e10 : (bt a0 0 == 45) = false := by rw [hb]; rfl
 have e11 : (bt a0 0 == 42) = false := by rw [hb]; rfl
 have e12 : (bt a0 0 == 47) = false := by rw [hb]; rfl
 have e13 : (bt a0 0 == 37) = true := beq_iff_eq.mpr hb
 clear hb
 go_enter Tryd.func39, Tryd.ntmps39
 go_wp2_with fail
 go_quiet (fail)
 all_goals go_wp2
 all_goals go_ret
 all_goals exact ⟨by rfl, by repeat (first | (with_reducible first | exact HB.out | apply yE | apply yF | apply yD) | exact HB.out)⟩
set_option maxHeartbeats 8000000 in
set_option maxRecDepth 100000 in
theorem mark_b14 (a0 : ByteArray) (c1 : (1 : Int) < (a0.size : Int)) (hm : (a0.extract 0 2).toList ∉ KP) (hb : bt a0 0 = 60) (w : World) : Calls Tryd.prog 39 #[.string a0] w fun e w' => e = .returned (.int .i64 1) ∧ Below w.heap.size w w' := by
 have HB := yA (Below.refl w.heap.size w)
 have c1b0 : decide ((a0.size : Int) > 1) = true := yL c1
 have c1b1 : decide (1 < (a0.size : Int)) = true := yL c1
 have q1 : (2 ≤ (a0.size : Int)) = True := eq_true (by omega)
 have h2 := ext2 a0
 have q5 : 0 < a0.size := by omega
 have hx5 : ∀ h : 0 < a0.size, ((a0[0]'h).toNat : Int) = bt a0 0 := bt_at a0 0
 have qi5 : (0 < (a0.size : Int)) = True := eq_true (by omega)
 replace q5 := eq_true q5
 have e0 : (bt a0 0 == 40) = false := by rw [hb]; rfl
 have e1 : (bt a0 0 == 41) = false := by rw [hb]; rfl
 have e2 : (bt a0 0 == 123) = false := by rw [hb]; rfl
 have e3 : (bt a0 0 == 125) = false := by rw [hb]; rfl
 have e4 : (bt a0 0 == 91) = false := by rw [hb]; rfl
 have e5 : (bt a0 0 == 93) = false := by rw [hb]; rfl
 have e6 : (bt a0 0 == 44) = false := by rw [hb]; rfl
 have e7 : (bt a0 0 == 59) = false := by rw [hb]; rfl
 have e8 : (bt a0 0 == 61) = false := by rw [hb]; rfl
 have e9 : (bt a0 0 == 43) = false := by rw [hb]; rfl
 have e10 : (bt a0 0 == 45) = false := by rw [hb]; rfl
 have e11 : (bt a0 0 == 42) = false := by rw [hb]; rfl
 have e12 : (bt a0 0 == 47) = false := by rw [hb]; rfl
 have e13 : (bt a0 0 == 37) = false := by rw [hb]; rfl
 have e14 : (bt a0 0 == 60) = true := beq_iff_eq.mpr hb
 clear hb
 go_enter Tryd.func39, Tryd.ntmps39
 go_wp2_with fail
 go_region_with (first | (go_at_call 58; refine (pairs_any _).mono ?_; rintro e w' ⟨b, rfl, ho, hb⟩; have hlk_ := pairs_look ho (a0.extract 0 2) (by simp [maxLen]; omega); rw [if_neg hm] at hlk_; have n0_ := yA (yB (by repeat (first | (with_reducible first | exact HB.out | apply yE | apply yF | apply yD) | exact HB.out)) hb); clear HB hb ho; have HB := n0_; clear n0_))
 all_goals go_wp2
 all_goals go_ret
 all_goals exact ⟨by rfl, by repeat (first | (with_reducible first | exact HB.out | apply yE | apply yF | apply yD) | exact HB.out)⟩
set_option maxHeartbeats 8000000 in
set_option maxRecDepth 100000 in
theorem mark_s14 (a0 : ByteArray) (c1 : ¬ (1 : Int) < (a0.size : Int)) (c3 : (0 : Int) < (a0.size : Int)) (hb : bt a0 0 = 60) (w : World) : Calls Tryd.prog 39 #[.string a0] w fun e w' => e = .returned (.int .i64 1) ∧ Below w.heap.size w w' := by
 have HB := yA (Below.refl w.heap.size w)
 have c1b0 : decide ((a0.size : Int) > 1) = false := yM c1
 have c1b1 : decide (1 < (a0.size : Int)) = false := yM c1
 have q5 : 0 < a0.size := by omega
 have hx5 : ∀ h : 0 < a0.size, ((a0[0]'h).toNat : Int) = bt a0 0 := bt_at a0 0
 have qi5 : (0 < (a0.size : Int)) = True := eq_true (by omega)
 replace q5 := eq_true q5
 have e0 : (bt a0 0 == 40) = false := by rw [hb]; rfl
 have e1 : (bt a0 0 == 41) = false := by rw [hb]; rfl
 have e2 : (bt a0 0 == 123) = false := by rw [hb]; rfl
 have e3 : (bt a0 0 == 125) = false := by rw [hb]; rfl
 have e4 : (bt a0 0 == 91) = false := by rw [hb]; rfl
 have e5 : (bt a0 0 == 93) = false := by rw [hb]; rfl
 have e6 : (bt a0 0 == 44) = false := by rw [hb]; rfl
 have e7 : (bt a0 0 == 59) = false := by rw [hb]; rfl
 have e8 : (bt a0 0 == 61) = false := by rw [hb]; rfl
 have e9 : (bt a0 0 == 43) = false := by rw [hb]; rfl
 have e10 : (bt a0 0 == 45) = false := by rw [hb]; rfl
 have e11 : (bt a0 0 == 42) = false := by rw [hb]; rfl
 have e12 : (bt a0 0 == 47) = false := by rw [hb]; rfl
 have e13 : (bt a0 0 == 37) = false := by rw [hb]; rfl
 have e14 : (bt a0 0 == 60) = true := beq_iff_eq.mpr hb
 clear hb
 go_enter Tryd.func39, Tryd.ntmps39
 go_wp2_with fail
 go_quiet (fail)
 all_goals go_wp2
 all_goals go_ret
 all_goals exact ⟨by rfl, by repeat (first | (with_reducible first | exact HB.out | apply yE | apply yF | apply yD) | exact HB.out)⟩
set_option maxHeartbeats 8000000 in
set_option maxRecDepth 100000 in
theorem mark_b15 (a0 : ByteArray) (c1 : (1 : Int) < (a0.size : Int)) (hm : (a0.extract 0 2).toList ∉ KP) (hb : bt a0 0 = 62) (w : World) : Calls Tryd.prog 39 #[.string a0] w fun e w' => e = .returned (.int .i64 1) ∧ Below w.heap.size w w' := by
 have HB := yA (Below.refl w.heap.size w)
 have c1b0 : decide ((a0.size : Int) > 1) = true := yL c1
 have c1b1 : decide (1 < (a0.size : Int)) = true := yL c1
 have q1 : (2 ≤ (a0.size : Int)) = True := eq_true (by omega)
 have h2 := ext2 a0
 have q5 : 0 < a0.size := by omega
 have hx5 : ∀ h : 0 < a0.size, ((a0[0]'h).toNat : Int) = bt a0 0 := bt_at a0 0
 have qi5 : (0 < (a0.size : Int)) = True := eq_true (by omega)
 replace q5 := eq_true q5
 have e0 : (bt a0 0 == 40) = false := by rw [hb]; rfl
 have e1 : (bt a0 0 == 41) = false := by rw [hb]; rfl
 have e2 : (bt a0 0 == 123) = false := by rw [hb]; rfl
 have e3 : (bt a0 0 == 125) = false := by rw [hb]; rfl
 have e4 : (bt a0 0 == 91) = false := by rw [hb]; rfl
 have e5 : (bt a0 0 == 93) = false := by rw [hb]; rfl
 have e6 : (bt a0 0 == 44) = false := by rw [hb]; rfl
 have e7 : (bt a0 0 == 59) = false := by rw [hb]; rfl
 have e8 : (bt a0 0 == 61) = false := by rw [hb]; rfl
 have e9 : (bt a0 0 == 43) = false := by rw [hb]; rfl
 have e10 : (bt a0 0 == 45) = false := by rw [hb]; rfl
 have e11 : (bt a0 0 == 42) = false := by rw [hb]; rfl
 have e12 : (bt a0 0 == 47) = false := by rw [hb]; rfl
 have e13 : (bt a0 0 == 37) = false := by rw [hb]; rfl
 have e14 : (bt a0 0 == 60) = false := by rw [hb]; rfl
 have e15 : (bt a0 0 == 62) = true := beq_iff_eq.mpr hb
 clear hb
 go_enter Tryd.func39, Tryd.ntmps39
 go_wp2_with fail
 go_region_with (first | (go_at_call 58; refine (pairs_any _).mono ?_; rintro e w' ⟨b, rfl, ho, hb⟩; have hlk_ := pairs_look ho (a0.extract 0 2) (by simp [maxLen]; omega); rw [if_neg hm] at hlk_; have n0_ := yA (yB (by repeat (first | (with_reducible first | exact HB.out | apply yE | apply yF | apply yD) | exact HB.out)) hb); clear HB hb ho; have HB := n0_; clear n0_))
 all_goals go_wp2
 all_goals go_ret
 all_goals exact ⟨by rfl, by repeat (first | (with_reducible first | exact HB.out | apply yE | apply yF | apply yD) | exact HB.out)⟩
set_option maxHeartbeats 8000000 in
set_option maxRecDepth 100000 in
theorem mark_s15 (a0 : ByteArray) (c1 : ¬ (1 : Int) < (a0.size : Int)) (c3 : (0 : Int) < (a0.size : Int)) (hb : bt a0 0 = 62) (w : World) : Calls Tryd.prog 39 #[.string a0] w fun e w' => e = .returned (.int .i64 1) ∧ Below w.heap.size w w' := by
 have HB := yA (Below.refl w.heap.size w)
 have c1b0 : decide ((a0.size : Int) > 1) = false := yM c1
 have c1b1 : decide (1 < (a0.size : Int)) = false := yM c1
 have q5 : 0 < a0.size := by omega
 have hx5 : ∀ h : 0 < a0.size, ((a0[0]'h).toNat : Int) = bt a0 0 := bt_at a0 0
 have qi5 : (0 < (a0.size : Int)) = True := eq_true (by omega)
 replace q5 := eq_true q5
 have e0 : (bt a0 0 == 40) = false := by rw [hb]; rfl
 have e1 : (bt a0 0 == 41) = false := by rw [hb]; rfl
 have e2 : (bt a0 0 == 123) = false := by rw [hb]; rfl
 have e3 : (bt a0 0 == 125) = false := by rw [hb]; rfl
 have e4 : (bt a0 0 == 91) = false := by rw [hb]; rfl
 have e5 : (bt a0 0 == 93) = false := by rw [hb]; rfl
 have e6 : (bt a0 0 == 44) = false := by rw [hb]; rfl
 have e7 : (bt a0 0 == 59) = false := by rw [hb]; rfl
 have e8 : (bt a0 0 == 61) = false := by rw [hb]; rfl
 have e9 : (bt a0 0 == 43) = false := by rw [hb]; rfl
 have e10 : (bt a0 0 == 45) = false := by rw [hb]; rfl
 have e11 : (bt a0 0 == 42) = false := by rw [hb]; rfl
 have e12 : (bt a0 0 == 47) = false := by rw [hb]; rfl
 have e13 : (bt a0 0 == 37) = false := by rw [hb]; rfl
 have e14 : (bt a0 0 == 60) = false := by rw [hb]; rfl
 have e15 : (bt a0 0 == 62) = true := beq_iff_eq.mpr hb
 clear hb
 go_enter Tryd.func39, Tryd.ntmps39
 go_wp2_with fail
 go_quiet (fail)
 all_goals go_wp2
 all_goals go_ret
 all_goals exact ⟨by rfl, by repeat (first | (with_reducible first | exact HB.out | apply yE | apply yF | apply yD) | exact HB.out)⟩
set_option maxHeartbeats 8000000 in
set_option maxRecDepth 100000 in
theorem mark_b16 (a0 : ByteArray) (c1 : (1 : Int) < (a0.size : Int)) (hm : (a0.extract 0 2).toList ∉ KP) (hb : bt a0 0 = 33) (w : World) : Calls Tryd.prog 39 #[.string a0] w fun e w' => e = .returned (.int .i64 1) ∧ Below w.heap.size w w' := by
 have HB := yA (Below.refl w.heap.size w)
 have c1b0 : decide ((a0.size : Int) > 1) = true := yL c1
 have c1b1 : decide (1 < (a0.size : Int)) = true := yL c1
 have q1 : (2 ≤ (a0.size : Int)) = True := eq_true (by omega)
 have h2 := ext2 a0
 have q5 : 0 < a0.size := by omega
 have hx5 : ∀ h : 0 < a0.size, ((a0[0]'h).toNat : Int) = bt a0 0 := bt_at a0 0
 have qi5 : (0 < (a0.size : Int)) = True := eq_true (by omega)
 replace q5 := eq_true q5
 have e0 : (bt a0 0 == 40) = false := by rw [hb]; rfl
 have e1 : (bt a0 0 == 41) = false := by rw [hb]; rfl
 have e2 : (bt a0 0 == 123) = false := by rw [hb]; rfl
 have e3 : (bt a0 0 == 125) = false := by rw [hb]; rfl
 have e4 : (bt a0 0 == 91) = false := by rw [hb]; rfl
 have e5 : (bt a0 0 == 93) = false := by rw [hb]; rfl
 have e6 : (bt a0 0 == 44) = false := by rw [hb]; rfl
 have e7 : (bt a0 0 == 59) = false := by rw [hb]; rfl
 have e8 : (bt a0 0 == 61) = false := by rw [hb]; rfl
 have e9 : (bt a0 0 == 43) = false := by rw [hb]; rfl
 have e10 : (bt a0 0 == 45) = false := by rw [hb]; rfl
 have e11 : (bt a0 0 == 42) = false := by rw [hb]; rfl
 have e12 : (bt a0 0 == 47) = false := by rw [hb]; rfl
 have e13 : (bt a0 0 == 37) = false := by rw [hb]; rfl
 have e14 : (bt a0 0 == 60) = false := by rw [hb]; rfl
 have e15 : (bt a0 0 == 62) = false := by rw [hb]; rfl
 have e16 : (bt a0 0 == 33) = true := beq_iff_eq.mpr hb
 clear hb
 go_enter Tryd.func39, Tryd.ntmps39
 go_wp2_with fail
 go_region_with (first | (go_at_call 58; refine (pairs_any _).mono ?_; rintro e w' ⟨b, rfl, ho, hb⟩; have hlk_ := pairs_look ho (a0.extract 0 2) (by simp [maxLen]; omega); rw [if_neg hm] at hlk_; have n0_ := yA (yB (by repeat (first | (with_reducible first | exact HB.out | apply yE | apply yF | apply yD) | exact HB.out)) hb); clear HB hb ho; have HB := n0_; clear n0_))
 all_goals go_wp2
 all_goals go_ret
 all_goals exact ⟨by rfl, by repeat (first | (with_reducible first | exact HB.out | apply yE | apply yF | apply yD) | exact HB.out)⟩
set_option maxHeartbeats 8000000 in
set_option maxRecDepth 100000 in
theorem mark_s16 (a0 : ByteArray) (c1 : ¬ (1 : Int) < (a0.size : Int)) (c3 : (0 : Int) < (a0.size : Int)) (hb : bt a0 0 = 33) (w : World) : Calls Tryd.prog 39 #[.string a0] w fun e w' => e = .returned (.int .i64 1) ∧ Below w.heap.size w w' := by
 have HB := yA (Below.refl w.heap.size w)
 have c1b0 : decide ((a0.size : Int) > 1) = false := yM c1
 have c1b1 : decide (1 < (a0.size : Int)) = false := yM c1
 have q5 : 0 < a0.size := by omega
 have hx5 : ∀ h : 0 < a0.size, ((a0[0]'h).toNat : Int) = bt a0 0 := bt_at a0 0
 have qi5 : (0 < (a0.size : Int)) = True := eq_true (by omega)
 replace q5 := eq_true q5
 have e0 : (bt a0 0 == 40) = false := by rw [hb]; rfl
 have e1 : (bt a0 0 == 41) = false := by rw [hb]; rfl
 have e2 : (bt a0 0 == 123) = false := by rw [hb]; rfl
 have e3 : (bt a0 0 == 125) = false := by rw [hb]; rfl
 have e4 : (bt a0 0 == 91) = false := by rw [hb]; rfl
 have e5 : (bt a0 0 == 93) = false := by rw [hb]; rfl
 have e6 : (bt a0 0 == 44) = false := by rw [hb]; rfl
 have e7 : (bt a0 0 == 59) = false := by rw [hb]; rfl
 have e8 : (bt a0 0 == 61) = false := by rw [hb]; rfl
 have e9 : (bt a0 0 == 43) = false := by rw [hb]; rfl
 have e10 : (bt a0 0 == 45) = false := by rw [hb]; rfl
 have e11 : (bt a0 0 == 42) = false := by rw [hb]; rfl
 have e12 : (bt a0 0 == 47) = false := by rw [hb]; rfl
 have e13 : (bt a0 0 == 37) = false := by rw [hb]; rfl
 have e14 : (bt a0 0 == 60) = false := by rw [hb]; rfl
 have e15 : (bt a0 0 == 62) = false := by rw [hb]; rfl
 have e16 : (bt a0 0 == 33) = true := beq_iff_eq.mpr hb
 clear hb
 go_enter Tryd.func39, Tryd.ntmps39
 go_wp2_with fail
 go_quiet (fail)
 all_goals go_wp2
 all_goals go_ret
 all_goals exact ⟨by rfl, by repeat (first | (with_reducible first | exact HB.out | apply yE | apply yF | apply yD) | exact HB.out)⟩
set_option maxHeartbeats 8000000 in
set_option maxRecDepth 100000 in
theorem mark_b17 (a0 : ByteArray) (c1 : (1 : Int) < (a0.size : Int)) (hm : (a0.extract 0 2).toList ∉ KP) (hb : bt a0 0 = 63) (w : World) : Calls Tryd.prog 39 #[.string a0] w fun e w' => e = .returned (.int .i64 1) ∧ Below w.heap.size w w' := by
 have HB := yA (Below.refl w.heap.size w)
 have c1b0 : decide ((a0.size : Int) > 1) = true := yL c1
 have c1b1 : decide (1 < (a0.size : Int)) = true := yL c1
 have q1 : (2 ≤ (a0.size : Int)) = True := eq_true (by omega)
 have h2 := ext2 a0
 have q5 : 0 < a0.size := by omega
 have hx5 : ∀ h : 0 < a0.size, ((a0[0]'h).toNat : Int) = bt a0 0 := bt_at a0 0
 have qi5 : (0 < (a0.size : Int)) = True := eq_true (by omega)
 replace q5 := eq_true q5
 have e0 : (bt a0 0 == 40) = false := by rw [hb]; rfl
 have e1 : (bt a0 0 == 41) = false := by rw [hb]; rfl
 have e2 : (bt a0 0 == 123) = false := by rw [hb]; rfl
 have e3 : (bt a0 0 == 125) = false := by rw [hb]; rfl
 have e4 : (bt a0 0 == 91) = false := by rw [hb]; rfl
 have e5 : (bt a0 0 == 93) = false := by rw [hb]; rfl
 have e6 : (bt a0 0 == 44) = false := by rw [hb]; rfl
 have e7 : (bt a0 0 == 59) = false := by rw [hb]; rfl
 have e8 : (bt a0 0 == 61) = false := by rw [hb]; rfl
 have e9 : (bt a0 0 == 43) = false := by rw [hb]; rfl
 have e10 : (bt a0 0 == 45) = false := by rw [hb]; rfl
 have e11 : (bt a0 0 == 42) = false := by rw [hb]; rfl
 have e12 : (bt a0 0 == 47) = false := by rw [hb]; rfl
 have e13 : (bt a0 0 == 37) = false := by rw [hb]; rfl
 have e14 : (bt a0 0 == 60) = false := by rw [hb]; rfl
 have e15 : (bt a0 0 == 62) = false := by rw [hb]; rfl
 have e16 : (bt a0 0 == 33) = false := by rw [hb]; rfl
 have e17 : (bt a0 0 == 63) = true := beq_iff_eq.mpr hb
 clear hb
 go_enter Tryd.func39, Tryd.ntmps39
 go_wp2_with fail
 go_region_with (first | (go_at_call 58; refine (pairs_any _).mono ?_; rintro e w' ⟨b, rfl, ho, hb⟩; have hlk_ := pairs_look ho (a0.extract 0 2) (by simp [maxLen]; omega); rw [if_neg hm] at hlk_; have n0_ := yA (yB (by repeat (first | (with_reducible first | exact HB.out | apply yE | apply yF | apply yD) | exact HB.out)) hb); clear HB hb ho; have HB := n0_; clear n0_))
 all_goals go_wp2
 all_goals go_ret
 all_goals exact ⟨by rfl, by repeat (first | (with_reducible first | exact HB.out | apply yE | apply yF | apply yD) | exact HB.out)⟩
set_option maxHeartbeats 8000000 in
set_option maxRecDepth 100000 in
theorem mark_s17 (a0 : ByteArray) (c1 : ¬ (1 : Int) < (a0.size : Int)) (c3 : (0 : Int) < (a0.size : Int)) (hb : bt a0 0 = 63) (w : World) : Calls Tryd.prog 39 #[.string a0] w fun e w' => e = .returned (.int .i64 1) ∧ Below w.heap.size w w' := by
 have HB := yA (Below.refl w.heap.size w)
 have c1b0 : decide ((a0.size : Int) > 1) = false := yM c1
 have c1b1 : decide (1 < (a0.size : Int)) = false := yM c1
 have q5 : 0 < a0.size := by omega
 have hx5 : ∀ h : 0 < a0.size, ((a0[0]'h).toNat : Int) = bt a0 0 := bt_at a0 0
 have qi5 : (0 < (a0.size : Int)) = True := eq_true (by omega)
 replace q5 := eq_true q5
 have e0 : (bt a0 0 == 40) = false := by rw [hb]; rfl
 have e1 : (bt a0 0 == 41) = false := by rw [hb]; rfl
 have e2 : (bt a0 0 == 123) = false := by rw [hb]; rfl
 have e3 : (bt a0 0 == 125) = false := by rw [hb]; rfl
 have e4 : (bt a0 0 == 91) = false := by rw [hb]; rfl
 have e5 : (bt a0 0 == 93) = false := by rw [hb]; rfl
 have e6 : (bt a0 0 == 44) = false := by rw [hb]; rfl
 have e7 : (bt a0 0 == 59) = false := by rw [hb]; rfl
 have e8 : (bt a0 0 == 61) = false := by rw [hb]; rfl
 have e9 : (bt a0 0 == 43) = false := by rw [hb]; rfl
 have e10 : (bt a0 0 == 45) = false := by rw [hb]; rfl
 have e11 : (bt a0 0 == 42) = false := by rw [hb]; rfl
 have e12 : (bt a0 0 == 47) = false := by rw [hb]; rfl
 have e13 : (bt a0 0 == 37) = false := by rw [hb]; rfl
 have e14 : (bt a0 0 == 60) = false := by rw [hb]; rfl
 have e15 : (bt a0 0 == 62) = false := by rw [hb]; rfl
 have e16 : (bt a0 0 == 33) = false := by rw [hb]; rfl
 have e17 : (bt a0 0 == 63) = true := beq_iff_eq.mpr hb
 clear hb
 go_enter Tryd.func39, Tryd.ntmps39
 go_wp2_with fail
 go_quiet (fail)
 all_goals go_wp2
 all_goals go_ret
 all_goals exact ⟨by rfl, by repeat (first | (with_reducible first | exact HB.out | apply yE | apply yF | apply yD) | exact HB.out)⟩
set_option maxHeartbeats 8000000 in
set_option maxRecDepth 100000 in
theorem mark_b18 (a0 : ByteArray) (c1 : (1 : Int) < (a0.size : Int)) (hm : (a0.extract 0 2).toList ∉ KP) (hb : bt a0 0 = 58) (w : World) : Calls Tryd.prog 39 #[.string a0] w fun e w' => e = .returned (.int .i64 1) ∧ Below w.heap.size w w' := by
 have HB := yA (Below.refl w.heap.size w)
 have c1b0 : decide ((a0.size : Int) > 1) = true := yL c1
 have c1b1 : decide (1 < (a0.size : Int)) = true := yL c1
 have q1 : (2 ≤ (a0.size : Int)) = True := eq_true (by omega)
 have h2 := ext2 a0
 have q5 : 0 < a0.size := by omega
 have hx5 : ∀ h : 0 < a0.size, ((a0[0]'h).toNat : Int) = bt a0 0 := bt_at a0 0
 have qi5 : (0 < (a0.size : Int)) = True := eq_true (by omega)
 replace q5 := eq_true q5
 have e0 : (bt a0 0 == 40) = false := by rw [hb]; rfl
 have e1 : (bt a0 0 == 41) = false := by rw [hb]; rfl
 have e2 : (bt a0 0 == 123) = false := by rw [hb]; rfl
 have e3 : (bt a0 0 == 125) = false := by rw [hb]; rfl
 have e4 : (bt a0 0 == 91) = false := by rw [hb]; rfl
 have e5 : (bt a0 0 == 93) = false := by rw [hb]; rfl
 have e6 : (bt a0 0 == 44) = false := by rw [hb]; rfl
 have e7 : (bt a0 0 == 59) = false := by rw [hb]; rfl
 have e8 : (bt a0 0 == 61) = false := by rw [hb]; rfl
 have e9 : (bt a0 0 == 43) = false := by rw [hb]; rfl
 have e10 : (bt a0 0 == 45) = false := by rw [hb]; rfl
 have e11 : (bt a0 0 == 42) = false := by rw [hb]; rfl
 have e12 : (bt a0 0 == 47) = false := by rw [hb]; rfl
 have e13 : (bt a0 0 == 37) = false := by rw [hb]; rfl
 have e14 : (bt a0 0 == 60) = false := by rw [hb]; rfl
 have e15 : (bt a0 0 == 62) = false := by rw [hb]; rfl
 have e16 : (bt a0 0 == 33) = false := by rw [hb]; rfl
 have e17 : (bt a0 0 == 63) = false := by rw [hb]; rfl
 have e18 : (bt a0 0 == 58) = true := beq_iff_eq.mpr hb
 clear hb
 go_enter Tryd.func39, Tryd.ntmps39
 go_wp2_with fail
 go_region_with (first | (go_at_call 58; refine (pairs_any _).mono ?_; rintro e w' ⟨b, rfl, ho, hb⟩; have hlk_ := pairs_look ho (a0.extract 0 2) (by simp [maxLen]; omega); rw [if_neg hm] at hlk_; have n0_ := yA (yB (by repeat (first | (with_reducible first | exact HB.out | apply yE | apply yF | apply yD) | exact HB.out)) hb); clear HB hb ho; have HB := n0_; clear n0_))
 all_goals go_wp2
 all_goals go_ret
 all_goals exact ⟨by rfl, by repeat (first | (with_reducible first | exact HB.out | apply yE | apply yF | apply yD) | exact HB.out)⟩
set_option maxHeartbeats 8000000 in
set_option maxRecDepth 100000 in
theorem mark_s18 (a0 : ByteArray) (c1 : ¬ (1 : Int) < (a0.size : Int)) (c3 : (0 : Int) < (a0.size : Int)) (hb : bt a0 0 = 58) (w : World) : Calls Tryd.prog 39 #[.string a0] w fun e w' => e = .returned (.int .i64 1) ∧ Below w.heap.size w w' := by
 have HB := yA (Below.refl w.heap.size w)
 have c1b0 : decide ((a0.size : Int) > 1) = false := yM c1
 have c1b1 : decide (1 < (a0.size : Int)) = false := yM c1
 have q5 : 0 < a0.size := by omega
 have hx5 : ∀ h : 0 < a0.size, ((a0[0]'h).toNat : Int) = bt a0 0 := bt_at a0 0
 have qi5 : (0 < (a0.size : Int)) = True := eq_true (by omega)
 replace q5 := eq_true q5
 have e0 : (bt a0 0 == 40) = false := by rw [hb]; rfl
 have e1 : (bt a0 0 == 41) = false := by rw [hb]; rfl
 have e2 : (bt a0 0 == 123) = false := by rw [hb]; rfl
 have e3 : (bt a0 0 == 125) = false := by rw [hb]; rfl
 have e4 : (bt a0 0 == 91) = false := by rw [hb]; rfl
 have e5 : (bt a0 0 == 93) = false := by rw [hb]; rfl
 have e6 : (bt a0 0 == 44) = false := by rw [hb]; rfl
 have e7 : (bt a0 0 == 59) = false := by rw [hb]; rfl
 have e8 : (bt a0 0 == 61) = false := by rw [hb]; rfl
 have e9 : (bt a0 0 == 43) = false := by rw [hb]; rfl
 have e10 : (bt a0 0 == 45) = false := by rw [hb]; rfl
 have e11 : (bt a0 0 == 42) = false := by rw [hb]; rfl
 have e12 : (bt a0 0 == 47) = false := by rw [hb]; rfl
 have e13 : (bt a0 0 == 37) = false := by rw [hb]; rfl
 have e14 : (bt a0 0 == 60) = false := by rw [hb]; rfl
 have e15 : (bt a0 0 == 62) = false := by rw [hb]; rfl
 have e16 : (bt a0 0 == 33) = false := by rw [hb]; rfl
 have e17 : (bt a0 0 == 63) = false := by rw [hb]; rfl
 have e18 : (bt a0 0 == 58) = true := beq_iff_eq.mpr hb
 clear hb
 go_enter Tryd.func39, Tryd.ntmps39
 go_wp2_with fail
 go_quiet (fail)
 all_goals go_wp2
 all_goals go_ret
 all_goals exact ⟨by rfl, by repeat (first | (with_reducible first | exact HB.out | apply yE | apply yF | apply yD) | exact HB.out)⟩
set_option maxHeartbeats 8000000 in
set_option maxRecDepth 100000 in
theorem mark_b19 (a0 : ByteArray) (c1 : (1 : Int) < (a0.size : Int)) (hm : (a0.extract 0 2).toList ∉ KP) (hb : bt a0 0 ∉ ONE) (w : World) : Calls Tryd.prog 39 #[.string a0] w fun e w' => e = .returned (.int .i64 0) ∧ Below w.heap.size w w' := by
 have HB := yA (Below.refl w.heap.size w)
 have c1b0 : decide ((a0.size : Int) > 1) = true := yL c1
 have c1b1 : decide (1 < (a0.size : Int)) = true := yL c1
 have q1 : (2 ≤ (a0.size : Int)) = True := eq_true (by omega)
 have h2 := ext2 a0
 have q5 : 0 < a0.size := by omega
 have hx5 : ∀ h : 0 < a0.size, ((a0[0]'h).toNat : Int) = bt a0 0 := bt_at a0 0
 have qi5 : (0 < (a0.size : Int)) = True := eq_true (by omega)
 replace q5 := eq_true q5
 have e0 : (bt a0 0 == 40) = false := beq_eq_false_iff_ne.mpr (fun h => hb (by rw [h]; decide))
 have e1 : (bt a0 0 == 41) = false := beq_eq_false_iff_ne.mpr (fun h => hb (by rw [h]; decide))
 have e2 : (bt a0 0 == 123) = false := beq_eq_false_iff_ne.mpr (fun h => hb (by rw [h]; decide))
 have e3 : (bt a0 0 == 125) = false := beq_eq_false_iff_ne.mpr (fun h => hb (by rw [h]; decide))
 have e4 : (bt a0 0 == 91) = false := beq_eq_false_iff_ne.mpr (fun h => hb (by rw [h]; decide))
 have e5 : (bt a0 0 == 93) = false := beq_eq_false_iff_ne.mpr (fun h => hb (by rw [h]; decide))
 have e6 : (bt a0 0 == 44) = false := beq_eq_false_iff_ne.mpr (fun h => hb (by rw [h]; decide))
 have e7 : (bt a0 0 == 59) = false := beq_eq_false_iff_ne.mpr (fun h => hb (by rw [h]; decide))
 have e8 : (bt a0 0 == 61) = false := beq_eq_false_iff_ne.mpr (fun h => hb (by rw [h]; decide))
 have e9 : (bt a0 0 == 43) = false := beq_eq_false_iff_ne.mpr (fun h => hb (by rw [h]; decide))
 have e10 : (bt a0 0 == 45) = false := beq_eq_false_iff_ne.mpr (fun h => hb (by rw [h]; decide))
 have e11 : (bt a0 0 == 42) = false := beq_eq_false_iff_ne.mpr (fun h => hb (by rw [h]; decide))
 have e12 : (bt a0 0 == 47) = false := beq_eq_false_iff_ne.mpr (fun h => hb (by rw [h]; decide))
 have e13 : (bt a0 0 == 37) = false := beq_eq_false_iff_ne.mpr (fun h => hb (by rw [h]; decide))
 have e14 : (bt a0 0 == 60) = false := beq_eq_false_iff_ne.mpr (fun h => hb (by rw [h]; decide))
 have e15 : (bt a0 0 == 62) = false := beq_eq_false_iff_ne.mpr (fun h => hb (by rw [h]; decide))
 have e16 : (bt a0 0 == 33) = false := beq_eq_false_iff_ne.mpr (fun h => hb (by rw [h]; decide))
 have e17 : (bt a0 0 == 63) = false := beq_eq_false_iff_ne.mpr (fun h => hb (by rw [h]; decide))
 have e18 : (bt a0 0 == 58) = false := beq_eq_false_iff_ne.mpr (fun h => hb (by rw [h]; decide))
 clear hb
 go_enter Tryd.func39, Tryd.ntmps39
 go_wp2_with fail
 go_region_with (first | (go_at_call 58; refine (pairs_any _).mono ?_; rintro e w' ⟨b, rfl, ho, hb⟩; have hlk_ := pairs_look ho (a0.extract 0 2) (by simp [maxLen]; omega); rw [if_neg hm] at hlk_; have n0_ := yA (yB (by repeat (first | (with_reducible first | exact HB.out | apply yE | apply yF | apply yD) | exact HB.out)) hb); clear HB hb ho; have HB := n0_; clear n0_))
 all_goals go_wp2
 all_goals go_ret
 all_goals exact ⟨by rfl, by repeat (first | (with_reducible first | exact HB.out | apply yE | apply yF | apply yD) | exact HB.out)⟩
set_option maxHeartbeats 8000000 in
set_option maxRecDepth 100000 in
theorem mark_s19 (a0 : ByteArray) (c1 : ¬ (1 : Int) < (a0.size : Int)) (c3 : (0 : Int) < (a0.size : Int)) (hb : bt a0 0 ∉ ONE) (w : World) : Calls Tryd.prog 39 #[.string a0] w fun e w' => e = .returned (.int .i64 0) ∧ Below w.heap.size w w' := by
 have HB := yA (Below.refl w.heap.size w)
 have c1b0 : decide ((a0.size : Int) > 1) = false := yM c1
 have c1b1 : decide (1 < (a0.size : Int)) = false := yM c1
 have q5 : 0 < a0.size := by omega
 have hx5 : ∀ h : 0 < a0.size, ((a0[0]'h).toNat : Int) = bt a0 0 := bt_at a0 0
 have qi5 : (0 < (a0.size : Int)) = True := eq_true (by omega)
 replace q5 := eq_true q5
 have e0 : (bt a0 0 == 40) = false := beq_eq_false_iff_ne.mpr (fun h => hb (by rw [h]; decide))
 have e1 : (bt a0 0 == 41) = false := beq_eq_false_iff_ne.mpr (fun h => hb (by rw [h]; decide))
 have e2 : (bt a0 0 == 123) = false := beq_eq_false_iff_ne.mpr (fun h => hb (by rw [h]; decide))
 have e3 : (bt a0 0 == 125) = false := beq_eq_false_iff_ne.mpr (fun h => hb (by rw [h]; decide))
 have e4 : (bt a0 0 == 91) = false := beq_eq_false_iff_ne.mpr (fun h => hb (by rw [h]; decide))
 have e5 : (bt a0 0 == 93) = false := beq_eq_false_iff_ne.mpr (fun h => hb (by rw [h]; decide))
 have e6 : (bt a0 0 == 44) = false := beq_eq_false_iff_ne.mpr (fun h => hb (by rw [h]; decide))
 have e7 : (bt a0 0 == 59) = false := beq_eq_false_iff_ne.mpr (fun h => hb (by rw [h]; decide))
 have e8 : (bt a0 0 == 61) = false := beq_eq_false_iff_ne.mpr (fun h => hb (by rw [h]; decide))
 have e9 : (bt a0 0 == 43) = false := beq_eq_false_iff_ne.mpr (fun h => hb (by rw [h]; decide))
 have e10 : (bt a0 0 == 45) = false := beq_eq_false_iff_ne.mpr (fun h => hb (by rw [h]; decide))
 have e11 : (bt a0 0 == 42) = false := beq_eq_false_iff_ne.mpr (fun h => hb (by rw [h]; decide))
 have e12 : (bt a0 0 == 47) = false := beq_eq_false_iff_ne.mpr (fun h => hb (by rw [h]; decide))
 have e13 : (bt a0 0 == 37) = false := beq_eq_false_iff_ne.mpr (fun h => hb (by rw [h]; decide))
 have e14 : (bt a0 0 == 60) = false := beq_eq_false_iff_ne.mpr (fun h => hb (by rw [h]; decide))
 have e15 : (bt a0 0 == 62) = false := beq_eq_false_iff_ne.mpr (fun h => hb (by rw [h]; decide))
 have e16 : (bt a0 0 == 33) = false := beq_eq_false_iff_ne.mpr (fun h => hb (by rw [h]; decide))
 have e17 : (bt a0 0 == 63) = false := beq_eq_false_iff_ne.mpr (fun h => hb (by rw [h]; decide))
 have e18 : (bt a0 0 == 58) = false := beq_eq_false_iff_ne.mpr (fun h => hb (by rw [h]; decide))
 clear hb
 go_enter Tryd.func39, Tryd.ntmps39
 go_wp2_with fail
 go_quiet (fail)
 all_goals go_wp2
 all_goals go_ret
 all_goals exact ⟨by rfl, by repeat (first | (with_reducible first | exact HB.out | apply yE | apply yF | apply yD) | exact HB.out)⟩
theorem mark_any (a0 : ByteArray) (c3 : (0 : Int) < (a0.size : Int)) (w : World) : Calls Tryd.prog 39 #[.string a0] w fun e w' => e = .returned (.int .i64 (markOf a0)) ∧ Below w.heap.size w w' := by
 unfold markOf
 by_cases c1 : (1 : Int) < (a0.size : Int)
 ·by_cases hm : (a0.extract 0 2).toList ∈ KP
  ·rw [if_pos ⟨by omega, hm⟩]; exact mark_two a0 c1 hm w
  ·rw [if_neg (fun h => hm h.2)]
   by_cases ho : bt a0 0 ∈ ONE
   ·rw [if_pos ho]
    simp only [ONE, List.mem_cons, List.not_mem_nil, or_false] at ho
    rcases ho with h | h | h | h | h | h | h | h | h | h | h | h | h | h | h | h | h | h | h
    ·exact mark_b0 a0 c1 hm h w
    ·exact mark_b1 a0 c1 hm h w
    ·exact mark_b2 a0 c1 hm h w
    ·exact mark_b3 a0 c1 hm h w
    ·exact mark_b4 a0 c1 hm h w
    ·exact mark_b5 a0 c1 hm h w
    ·exact mark_b6 a0 c1 hm h w
    ·exact mark_b7 a0 c1 hm h w
    ·exact mark_b8 a0 c1 hm h w
    ·exact mark_b9 a0 c1 hm h w
    ·exact mark_b10 a0 c1 hm h w
    ·exact mark_b11 a0 c1 hm h w
    ·exact mark_b12 a0 c1 hm h w
    ·exact mark_b13 a0 c1 hm h w
    ·exact mark_b14 a0 c1 hm h w
    ·exact mark_b15 a0 c1 hm h w
    ·exact mark_b16 a0 c1 hm h w
    ·exact mark_b17 a0 c1 hm h w
    ·exact mark_b18 a0 c1 hm h w
   ·rw [if_neg ho]; exact mark_b19 a0 c1 hm ho w
 ·rw [if_neg (fun h => c1 (by omega))]
  by_cases ho : bt a0 0 ∈ ONE
  ·rw [if_pos ho]
   simp only [ONE, List.mem_cons, List.not_mem_nil, or_false] at ho
   rcases ho with h | h | h | h | h | h | h | h | h | h | h | h | h | h | h | h | h | h | h
   ·exact mark_s0 a0 c1 c3 h w
   ·exact mark_s1 a0 c1 c3 h w
   ·exact mark_s2 a0 c1 c3 h w
   ·exact mark_s3 a0 c1 c3 h w
   ·exact mark_s4 a0 c1 c3 h w
   ·exact mark_s5 a0 c1 c3 h w
   ·exact mark_s6 a0 c1 c3 h w
   ·exact mark_s7 a0 c1 c3 h w
   ·exact mark_s8 a0 c1 c3 h w
   ·exact mark_s9 a0 c1 c3 h w
   ·exact mark_s10 a0 c1 c3 h w
   ·exact mark_s11 a0 c1 c3 h w
   ·exact mark_s12 a0 c1 c3 h w
   ·exact mark_s13 a0 c1 c3 h w
   ·exact mark_s14 a0 c1 c3 h w
   ·exact mark_s15 a0 c1 c3 h w
   ·exact mark_s16 a0 c1 c3 h w
   ·exact mark_s17 a0 c1 c3 h w
   ·exact mark_s18 a0 c1 c3 h w
  ·rw [if_neg ho]; exact mark_s19 a0 c1 c3 ho w
end Go.Proofs.YtkfdninngcakpaaDoor.Pure
