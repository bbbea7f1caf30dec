/- Own text, for this claim: num.Text at no places is the number's digits. -/
import Derived.Test.YtppojbafagneeaaDoorZTabSh
import Derived.Deep.DeepMust
import Derived.Outline
import Derived.Lib.ItoaLen
namespace Go.Proofs.YtppojbafagneeaaDoor.Pure
open Go.RowKit Go.Proofs.YtppojbafagneeaaDoorW.PrintWords Go.Proofs.YtppojbafagneeaaDoorW.PrintLast Go.Proofs.YtppojbafagneeaaDoorW.PrintMore
set_option linter.unusedVariables false
set_option linter.unusedSimpArgs false
theorem dec_neg (v : Int) (h : v < 0) : (⟨#[45]⟩ : ByteArray) ++ (dec v).extract 1 (dec v).size = dec v ∧ 1 ≤ (dec v).size := by
 unfold dec Lib.itoa
 rw [if_pos h]
 generalize Lib.decDigits v.natAbs = l
 refine ⟨?_, by simp [ByteArray.size]⟩
 apply ByteArray.ext
 rw [ByteArray.data_append, ByteArray.data_extract]
 apply Array.toList_inj.1
 simp [ByteArray.size]
theorem empty_app (s : ByteArray) : (⟨#[]⟩ : ByteArray) ++ s = s := by
 apply ByteArray.ext
 rw [ByteArray.data_append]
 simp
theorem dec_size (v : Int) (h0 : -9223372036854775808 ≤ v) (h1 : v ≤ 9223372036854775807) : (dec v).size ≤ 21 := by
 have := Lib.itoa_length_le v h0 h1
 unfold dec
 simpa [ByteArray.size] using this
set_option maxHeartbeats 8000000 in
set_option maxRecDepth 100000 in
theorem text0_any (v : Int) (h0 : -9223372036854775808 ≤ v) (h1 : v ≤ 9223372036854775807) (w : World) (hG : GP w) :
  Calls Tryd.prog 34 #[.int .i64 v, .int .i64 0] w fun e w' => e = .returned (.tuple #[.string (dec v), .int .i64 0]) ∧ Below w.heap.size w w' := by
 have hs := dec_size v h0 h1
 have q3 : (9223372036854775807 < (dec v).size) = False := eq_false (by omega)
 clear hs
 have HG := yA hG
 have B0 := yA h0
 have B1 := yA h1
 clear hG h0 h1
 by_cases hv : v < 0
 ·have d1 : decide (v < 0) = true := yL hv
  obtain ⟨e1, e2⟩ := dec_neg v hv
  have E1 := yA e1
  have q1 : ((1 : Int) ≤ ((dec v).size : Int)) = True := eq_true (by omega)
  have q2 : (1 ≤ (dec v).size) = True := eq_true e2
  clear hv e1 e2
  go_enter Tryd.func34, Tryd.ntmps34
  go_wp2_with (first | ((with_reducible refine yO (f := 54) rfl ?_); refine goesL_ (some 15) rfl rfl Tryd.func54 (by kernel_rfl) rfl #[.int .i64 v] rfl (by (try simp only [List.map_toArray, List.map_cons, List.map_nil]); first | done | rfl) ?_; (with_reducible refine (itoa_any v B0.out B1.out _ HG.out).mono ?_); rintro e w2 ⟨rfl, hb⟩; refine ⟨_, rfl, ?_⟩; have HB := yA hb; clear hb))
  go_ret2
  exact ⟨by rw [E1.out]; rfl, HB.out⟩
 ·have d1 : decide (v < 0) = false := yM hv
  clear hv
  go_enter Tryd.func34, Tryd.ntmps34
  go_wp2_with (first | ((with_reducible refine yO (f := 54) rfl ?_); refine goesL_ (some 15) rfl rfl Tryd.func54 (by kernel_rfl) rfl #[.int .i64 v] rfl (by (try simp only [List.map_toArray, List.map_cons, List.map_nil]); first | done | rfl) ?_; (with_reducible refine (itoa_any v B0.out B1.out _ HG.out).mono ?_); rintro e w2 ⟨rfl, hb⟩; refine ⟨_, rfl, ?_⟩; have HB := yA hb; clear hb))
  go_ret2
  exact ⟨by rw [empty_app]; rfl, HB.out⟩
end Go.Proofs.YtppojbafagneeaaDoor.Pure
