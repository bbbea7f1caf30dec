/- Own text: functions of law LexNumbers, after the text that the kit's printer writes. -/
import Derived.Test.YtkfdninngcakpaaDoorQLexx4
import Derived.Test.YtkfdninngcakpaaDoorQLexxt
import Derived.WalkMore
import Derived.Deep.DeepMust
import Derived.Outline
import Derived.Deep.RegionWith
namespace Go.Proofs.YtkfdninngcakpaaDoor.PLex
open Go.RowKit Go.Proofs.YtkfdninngcakpaaDoorW.PrintWords Go.Proofs.YtkfdninngcakpaaDoorW.PrintLast Go.Proofs.YtkfdninngcakpaaDoorW.PrintMore
attribute [local go_sem] max2_int min2_int max_two min_two max_three min_three max_four min_four   -- for this text's walks alone
set_option linter.unusedVariables false
set_option linter.unusedSimpArgs false
attribute [local go_sem high] eqA32
/-! ### payofflaw06_LexNumbers: function 8 -/
mutual
def payofflaw06_LexNumbers.j0 : Nat → Int → Int → ByteArray → Bool → Option (Bool)
  | 0, _, _, _, _ => none
  | k + 1, x0, x1, x5, x80 => if x80 = true then (none) else (if 1 + x5.size ≤ 9223372036854775807 then ((lex_Scan.f k ((⟨#[48]⟩ : ByteArray) ++ x5)).bind fun bt231 => (if bt231.2.2 = 62 then (payofflaw06_LexNumbers.j1 k x0 x1 x5 (bt231.2.1 != 0)) else (payofflaw06_LexNumbers.j1 k x0 x1 x5 true))) else (none))
def payofflaw06_LexNumbers.j1 : Nat → Int → Int → ByteArray → Bool → Option (Bool)
  | 0, _, _, _, _ => none
  | k + 1, x0, x1, x5, x93 => if x93 = true then (none) else (if 0 ≤ (Go.bits .and .i64 x1 3) then (if (Go.bits .and .i64 x1 3) ≤ (wrap64 ((Go.bits .and .i64 x1 3) + 1)) then (if (wrap64 ((Go.bits .and .i64 x1 3) + 1)) ≤ 4 then (if x5.size + ((⟨#[100, 119, 109, 121]⟩ : ByteArray).extract ((Go.bits .and .i64 x1 3) : Int).toNat ((wrap64 ((Go.bits .and .i64 x1 3) + 1)) : Int).toNat).size ≤ 9223372036854775807 then ((lex_Scan.f k (x5 ++ ((⟨#[100, 119, 109, 121]⟩ : ByteArray).extract ((Go.bits .and .i64 x1 3) : Int).toNat ((wrap64 ((Go.bits .and .i64 x1 3) + 1)) : Int).toNat))).bind fun bt236 => (if x0 < 1 then (if bt236.2.2 = 62 then (some ((bt236.1.length : Int) == 0)) else (none)) else (if x0 > 999 then (if bt236.2.2 = 62 then (some ((bt236.1.length : Int) == 0)) else (none)) else (if bt236.2.2 = 0 then (if (bt236.1.length : Int) = 1 then (if 0 < (bt236.1.length : Int) then (some (((rd_T32 bt236.1 0).f0) == 5 && ((((rd_T32 bt236.1 0).f1).toList) == ((x5 ++ ((⟨#[100, 119, 109, 121]⟩ : ByteArray).extract ((Go.bits .and .i64 x1 3) : Int).toNat ((wrap64 ((Go.bits .and .i64 x1 3) + 1)) : Int).toNat)).toList) && (((rd_T32 bt236.1 0).f2) == 0 && (((rd_T32 bt236.1 0).f3) == 0 && ((((rd_T32 bt236.1 0).f4.f0) == 0 && (((rd_T32 bt236.1 0).f4.f1) == 0 && (((rd_T32 bt236.1 0).f4.f2) == 0))) && ((((rd_T32 bt236.1 0).f5.f0) == x0 && (((rd_T32 bt236.1 0).f5.f1) == (wrap64 ((Go.bits .and .i64 x1 3) + 1))))))))))) else (none)) else (none)) else (none))))) else (none)) else (none)) else (none)) else (none))
end
def payofflaw06_LexNumbers.f (k : Nat) (a0 : Int) (a1 : Int) : Option (Bool) := (num_Text.f k a0 0).bind fun bt221 => ((lex_Scan.f k bt221.1).bind fun bt223 => (if bt221.2 = 0 then (if a0 < 0 then (if a0 = (-9223372036854775808) then (if bt223.2.2 = 62 then (if bt223.2.1 = 1 then (some ((bt223.1.length : Int) == 1)) else (none)) else (none)) else (if bt223.2.2 = 0 then (if (bt223.1.length : Int) = 2 then (if 0 < (bt223.1.length : Int) then (if ((rd_T32 bt223.1 0).f1).toList = ([45] : List UInt8) then (if 1 < (bt223.1.length : Int) then (if 1 ≤ (bt221.1.size : Int) then (some (((rd_T32 bt223.1 1).f0) == 3 && ((((rd_T32 bt223.1 1).f1).toList) == ((bt221.1.extract 1 bt221.1.size).toList) && (((rd_T32 bt223.1 1).f2) == 1 && (((rd_T32 bt223.1 1).f3) == (wrap64 (-a0)) && ((((rd_T32 bt223.1 1).f4.f0) == 0 && (((rd_T32 bt223.1 1).f4.f1) == 0 && (((rd_T32 bt223.1 1).f4.f2) == 0))) && ((((rd_T32 bt223.1 1).f5.f0) == 0 && (((rd_T32 bt223.1 1).f5.f1) == 0))))))))) else (none)) else (none)) else (none)) else (none)) else (none)) else (none))) else (if bt223.2.2 = 0 then (if (bt223.1.length : Int) = 1 then (if 0 < (bt223.1.length : Int) then (payofflaw06_LexNumbers.j0 k a0 a1 bt221.1 (!(((rd_T32 bt223.1 0).f0) == 3) || (!((((rd_T32 bt223.1 0).f1).toList) == bt221.1.toList) || (!(((rd_T32 bt223.1 0).f2) == 0) || (!(((rd_T32 bt223.1 0).f3) == a0) || ((!(((rd_T32 bt223.1 0).f4.f0) == 0) || (!(((rd_T32 bt223.1 0).f4.f1) == 0) || (!(((rd_T32 bt223.1 0).f4.f2) == 0)))) || ((!(((rd_T32 bt223.1 0).f5.f0) == 0) || (!(((rd_T32 bt223.1 0).f5.f1) == 0)))))))))) else (none)) else (payofflaw06_LexNumbers.j0 k a0 a1 bt221.1 true)) else (payofflaw06_LexNumbers.j0 k a0 a1 bt221.1 true))) else (none)))
set_option maxHeartbeats 8000000 in
set_option maxRecDepth 100000 in
theorem payofflaw06_LexNumbers.calls (k : Nat) (a0 : Int) (a1 : Int) (r : Bool) (w : World) (h : payofflaw06_LexNumbers.f k a0 a1 = some r) (hG : Pure.Gl w) :
    Calls Tryd.prog 8 #[.int .i64 a0, .int .i64 a1] w fun e w' => e = .returned (.bool r) ∧ Below w.heap.size w w' := by
  have HG := Aside0.mk hG
  clear hG
  have hu32 := Tryd.underlying32
  have hu30 := Tryd.underlying30
  have HB := Aside0.mk (Below.refl w.heap.size w)
  have H : ((num_Text.f k a0 0).bind fun bt221 => ((lex_Scan.f k bt221.1).bind fun bt223 => (if bt221.2 = 0 then (if a0 < 0 then (if a0 = (-9223372036854775808) then (if bt223.2.2 = 62 then (if bt223.2.1 = 1 then (some ((bt223.1.length : Int) == 1)) else (none)) else (none)) else (if bt223.2.2 = 0 then (if (bt223.1.length : Int) = 2 then (if 0 < (bt223.1.length : Int) then (if ((rd_T32 bt223.1 0).f1).toList = ([45] : List UInt8) then (if 1 < (bt223.1.length : Int) then (if 1 ≤ (bt221.1.size : Int) then (some (((rd_T32 bt223.1 1).f0) == 3 && ((((rd_T32 bt223.1 1).f1).toList) == ((bt221.1.extract 1 bt221.1.size).toList) && (((rd_T32 bt223.1 1).f2) == 1 && (((rd_T32 bt223.1 1).f3) == (wrap64 (-a0)) && ((((rd_T32 bt223.1 1).f4.f0) == 0 && (((rd_T32 bt223.1 1).f4.f1) == 0 && (((rd_T32 bt223.1 1).f4.f2) == 0))) && ((((rd_T32 bt223.1 1).f5.f0) == 0 && (((rd_T32 bt223.1 1).f5.f1) == 0))))))))) else (none)) else (none)) else (none)) else (none)) else (none)) else (none))) else (if bt223.2.2 = 0 then (if (bt223.1.length : Int) = 1 then (if 0 < (bt223.1.length : Int) then (payofflaw06_LexNumbers.j0 k a0 a1 bt221.1 (!(((rd_T32 bt223.1 0).f0) == 3) || (!((((rd_T32 bt223.1 0).f1).toList) == bt221.1.toList) || (!(((rd_T32 bt223.1 0).f2) == 0) || (!(((rd_T32 bt223.1 0).f3) == a0) || ((!(((rd_T32 bt223.1 0).f4.f0) == 0) || (!(((rd_T32 bt223.1 0).f4.f1) == 0) || (!(((rd_T32 bt223.1 0).f4.f2) == 0)))) || ((!(((rd_T32 bt223.1 0).f5.f0) == 0) || (!(((rd_T32 bt223.1 0).f5.f1) == 0)))))))))) else (none)) else (payofflaw06_LexNumbers.j0 k a0 a1 bt221.1 true)) else (payofflaw06_LexNumbers.j0 k a0 a1 bt221.1 true))) else (none)))) = some r := h
  clear h
  replace H := Option.bind_eq_some_iff.mp H
  obtain ⟨⟨t221, t222⟩, A30, H⟩ := H
  replace H : ((lex_Scan.f k t221).bind fun bt223 => (if t222 = 0 then (if a0 < 0 then (if a0 = (-9223372036854775808) then (if bt223.2.2 = 62 then (if bt223.2.1 = 1 then (some ((bt223.1.length : Int) == 1)) else (none)) else (none)) else (if bt223.2.2 = 0 then (if (bt223.1.length : Int) = 2 then (if 0 < (bt223.1.length : Int) then (if ((rd_T32 bt223.1 0).f1).toList = ([45] : List UInt8) then (if 1 < (bt223.1.length : Int) then (if 1 ≤ (t221.size : Int) then (some (((rd_T32 bt223.1 1).f0) == 3 && ((((rd_T32 bt223.1 1).f1).toList) == ((t221.extract 1 t221.size).toList) && (((rd_T32 bt223.1 1).f2) == 1 && (((rd_T32 bt223.1 1).f3) == (wrap64 (-a0)) && ((((rd_T32 bt223.1 1).f4.f0) == 0 && (((rd_T32 bt223.1 1).f4.f1) == 0 && (((rd_T32 bt223.1 1).f4.f2) == 0))) && ((((rd_T32 bt223.1 1).f5.f0) == 0 && (((rd_T32 bt223.1 1).f5.f1) == 0))))))))) else (none)) else (none)) else (none)) else (none)) else (none)) else (none))) else (if bt223.2.2 = 0 then (if (bt223.1.length : Int) = 1 then (if 0 < (bt223.1.length : Int) then (payofflaw06_LexNumbers.j0 k a0 a1 t221 (!(((rd_T32 bt223.1 0).f0) == 3) || (!((((rd_T32 bt223.1 0).f1).toList) == t221.toList) || (!(((rd_T32 bt223.1 0).f2) == 0) || (!(((rd_T32 bt223.1 0).f3) == a0) || ((!(((rd_T32 bt223.1 0).f4.f0) == 0) || (!(((rd_T32 bt223.1 0).f4.f1) == 0) || (!(((rd_T32 bt223.1 0).f4.f2) == 0)))) || ((!(((rd_T32 bt223.1 0).f5.f0) == 0) || (!(((rd_T32 bt223.1 0).f5.f1) == 0)))))))))) else (none)) else (payofflaw06_LexNumbers.j0 k a0 a1 t221 true)) else (payofflaw06_LexNumbers.j0 k a0 a1 t221 true))) else (none))) = some r := H
  have A3 := Aside0.mk A30
  clear A30
  replace H := Option.bind_eq_some_iff.mp H
  obtain ⟨⟨t223, t224, t225⟩, A40, H⟩ := H
  replace H : (if t222 = 0 then (if a0 < 0 then (if a0 = (-9223372036854775808) then (if t225 = 62 then (if t224 = 1 then (some ((t223.length : Int) == 1)) else (none)) else (none)) else (if t225 = 0 then (if (t223.length : Int) = 2 then (if 0 < (t223.length : Int) then (if ((rd_T32 t223 0).f1).toList = ([45] : List UInt8) then (if 1 < (t223.length : Int) then (if 1 ≤ (t221.size : Int) then (some (((rd_T32 t223 1).f0) == 3 && ((((rd_T32 t223 1).f1).toList) == ((t221.extract 1 t221.size).toList) && (((rd_T32 t223 1).f2) == 1 && (((rd_T32 t223 1).f3) == (wrap64 (-a0)) && ((((rd_T32 t223 1).f4.f0) == 0 && (((rd_T32 t223 1).f4.f1) == 0 && (((rd_T32 t223 1).f4.f2) == 0))) && ((((rd_T32 t223 1).f5.f0) == 0 && (((rd_T32 t223 1).f5.f1) == 0))))))))) else (none)) else (none)) else (none)) else (none)) else (none)) else (none))) else (if t225 = 0 then (if (t223.length : Int) = 1 then (if 0 < (t223.length : Int) then (payofflaw06_LexNumbers.j0 k a0 a1 t221 (!(((rd_T32 t223 0).f0) == 3) || (!((((rd_T32 t223 0).f1).toList) == t221.toList) || (!(((rd_T32 t223 0).f2) == 0) || (!(((rd_T32 t223 0).f3) == a0) || ((!(((rd_T32 t223 0).f4.f0) == 0) || (!(((rd_T32 t223 0).f4.f1) == 0) || (!(((rd_T32 t223 0).f4.f2) == 0)))) || ((!(((rd_T32 t223 0).f5.f0) == 0) || (!(((rd_T32 t223 0).f5.f1) == 0)))))))))) else (none)) else (payofflaw06_LexNumbers.j0 k a0 a1 t221 true)) else (payofflaw06_LexNumbers.j0 k a0 a1 t221 true))) else (none)) = some r := H
  have A4 := Aside0.mk A40
  clear A40
  by_cases c5 : t222 = 0
  · rw [if_pos c5] at H
    have c5b0 : (t222 == 0) = true := beq_iff_eq.mpr c5
    have c5b1 : (t222 != 0) = false := bne_eq_false_iff_eq.mpr c5
    clear c5
    by_cases c6 : a0 < 0
    · rw [if_pos c6] at H
      have c6b0 : decide (a0 < 0) = true := decide_eq_true c6
      clear c6
      by_cases c7 : a0 = (-9223372036854775808)
      · rw [if_pos c7] at H
        have c7b0 : (a0 == (-9223372036854775808)) = true := beq_iff_eq.mpr c7
        have c7b1 : (a0 != (-9223372036854775808)) = false := bne_eq_false_iff_eq.mpr c7
        clear c7
        by_cases c8 : t225 = 62
        · rw [if_pos c8] at H
          have c8b0 : (t225 == 62) = true := beq_iff_eq.mpr c8
          have c8b1 : (t225 != 62) = false := bne_eq_false_iff_eq.mpr c8
          clear c8
          by_cases c9 : t224 = 1
          · rw [if_pos c9] at H
            have c9b0 : (t224 == 1) = true := beq_iff_eq.mpr c9
            have c9b1 : (t224 != 1) = false := bne_eq_false_iff_eq.mpr c9
            clear c9
            obtain rfl := Option.some.inj H
            go_enter Tryd.func8, Tryd.ntmps8
            go_wp2_with (first | (go_at_call 19; (with_reducible refine (num_Text.calls k a0 0 t221 t222 _ A3.out (Pure.Gl.below HG.out (by repeat (first | (with_reducible first | exact HB.out | apply below_alloc | apply pw_below_drewN | apply below_drew1 | (refine below_set ?_ (by first | exact trivial )) ) | exact HB.out)))).mono ?_); rintro e w10 ⟨rfl, hb⟩; have n0_ := Aside0.mk (below_step (by repeat (first | (with_reducible first | exact HB.out | apply below_alloc | apply pw_below_drewN | apply below_drew1) | exact HB.out)) hb); clear HB; have HB := n0_; clear n0_; (try clear hb); (try clear hb2); (try clear hk); (try clear hi)) | (go_at_call 10; (with_reducible refine (lex_Scan.calls k t221 t223 t224 t225 _ A4.out (Pure.Gl.below HG.out (by repeat (first | (with_reducible first | exact HB.out | apply below_alloc | apply pw_below_drewN | apply below_drew1 | (refine below_set ?_ (by first | exact trivial )) ) | exact HB.out)))).mono ?_); rintro e w11 ⟨v226, rfl, ho0, hb⟩; have n0_ := Aside0.mk (Kd.R_lower ho0 (below_size (by repeat (first | (with_reducible first | exact HB.out | apply below_alloc | apply pw_below_drewN | apply below_drew1) | exact HB.out)))); have n1_ := Aside0.mk (below_step (by repeat (first | (with_reducible first | exact HB.out | apply below_alloc | apply pw_below_drewN | apply below_drew1) | exact HB.out)) hb); clear HB; have HO227 := n0_; have HB := n1_; clear n0_ n1_; (try clear hb); (try clear hb2); (try clear hk); (try clear hi); (try clear ho0); obtain ⟨Ao12, co12, eo12⟩ := Kd.R_slice HO227.out; subst eo12))
            repeat (go_quiet (first | (go_at_call 19; (with_reducible refine (num_Text.calls k a0 0 t221 t222 _ A3.out (Pure.Gl.below HG.out (by repeat (first | (with_reducible first | exact HB.out | apply below_alloc | apply pw_below_drewN | apply below_drew1 | (refine below_set ?_ (by first | exact trivial )) ) | exact HB.out)))).mono ?_); rintro e w10 ⟨rfl, hb⟩; have n0_ := Aside0.mk (below_step (by repeat (first | (with_reducible first | exact HB.out | apply below_alloc | apply pw_below_drewN | apply below_drew1) | exact HB.out)) hb); clear HB; have HB := n0_; clear n0_; (try clear hb); (try clear hb2); (try clear hk); (try clear hi)) | (go_at_call 10; (with_reducible refine (lex_Scan.calls k t221 t223 t224 t225 _ A4.out (Pure.Gl.below HG.out (by repeat (first | (with_reducible first | exact HB.out | apply below_alloc | apply pw_below_drewN | apply below_drew1 | (refine below_set ?_ (by first | exact trivial )) ) | exact HB.out)))).mono ?_); rintro e w11 ⟨v226, rfl, ho0, hb⟩; have n0_ := Aside0.mk (Kd.R_lower ho0 (below_size (by repeat (first | (with_reducible first | exact HB.out | apply below_alloc | apply pw_below_drewN | apply below_drew1) | exact HB.out)))); have n1_ := Aside0.mk (below_step (by repeat (first | (with_reducible first | exact HB.out | apply below_alloc | apply pw_below_drewN | apply below_drew1) | exact HB.out)) hb); clear HB; have HO227 := n0_; have HB := n1_; clear n0_ n1_; (try clear hb); (try clear hb2); (try clear hk); (try clear hi); (try clear ho0); obtain ⟨Ao12, co12, eo12⟩ := Kd.R_slice HO227.out; subst eo12)); try go_wp2_with (first | (go_at_call 19; (with_reducible refine (num_Text.calls k a0 0 t221 t222 _ A3.out (Pure.Gl.below HG.out (by repeat (first | (with_reducible first | exact HB.out | apply below_alloc | apply pw_below_drewN | apply below_drew1 | (refine below_set ?_ (by first | exact trivial )) ) | exact HB.out)))).mono ?_); rintro e w10 ⟨rfl, hb⟩; have n0_ := Aside0.mk (below_step (by repeat (first | (with_reducible first | exact HB.out | apply below_alloc | apply pw_below_drewN | apply below_drew1) | exact HB.out)) hb); clear HB; have HB := n0_; clear n0_; (try clear hb); (try clear hb2); (try clear hk); (try clear hi)) | (go_at_call 10; (with_reducible refine (lex_Scan.calls k t221 t223 t224 t225 _ A4.out (Pure.Gl.below HG.out (by repeat (first | (with_reducible first | exact HB.out | apply below_alloc | apply pw_below_drewN | apply below_drew1 | (refine below_set ?_ (by first | exact trivial )) ) | exact HB.out)))).mono ?_); rintro e w11 ⟨v226, rfl, ho0, hb⟩; have n0_ := Aside0.mk (Kd.R_lower ho0 (below_size (by repeat (first | (with_reducible first | exact HB.out | apply below_alloc | apply pw_below_drewN | apply below_drew1) | exact HB.out)))); have n1_ := Aside0.mk (below_step (by repeat (first | (with_reducible first | exact HB.out | apply below_alloc | apply pw_below_drewN | apply below_drew1) | exact HB.out)) hb); clear HB; have HO227 := n0_; have HB := n1_; clear n0_ n1_; (try clear hb); (try clear hb2); (try clear hk); (try clear hi); (try clear ho0); obtain ⟨Ao12, co12, eo12⟩ := Kd.R_slice HO227.out; subst eo12)))
            go_ret
            exact ⟨by first | rfl | (simp [errW_none, errW_some] <;> rfl) | (simp [*, errW_none, errW_some] <;> rfl), by repeat (first | (with_reducible first | exact HB.out | apply below_alloc | apply pw_below_drewN | apply below_drew1) | exact HB.out)⟩
          · rw [if_neg c9] at H
            have c9b0 : (t224 == 1) = false := beq_eq_false_iff_ne.mpr c9
            have c9b1 : (t224 != 1) = true := bne_iff_ne.mpr c9
            exact absurd H (by simp)
        · rw [if_neg c8] at H
          have c8b0 : (t225 == 62) = false := beq_eq_false_iff_ne.mpr c8
          have c8b1 : (t225 != 62) = true := bne_iff_ne.mpr c8
          exact absurd H (by simp)
      · rw [if_neg c7] at H
        have c7b0 : (a0 == (-9223372036854775808)) = false := beq_eq_false_iff_ne.mpr c7
        have c7b1 : (a0 != (-9223372036854775808)) = true := bne_iff_ne.mpr c7
        by_cases c17 : t225 = 0
        · rw [if_pos c17] at H
          have c17b0 : (t225 == 0) = true := beq_iff_eq.mpr c17
          have c17b1 : (t225 != 0) = false := bne_eq_false_iff_eq.mpr c17
          clear c17
          by_cases c18 : (t223.length : Int) = 2
          · rw [if_pos c18] at H
            have c18b0 : ((t223.length : Int) == 2) = true := beq_iff_eq.mpr c18
            have c18b1 : ((t223.length : Int) != 2) = false := bne_eq_false_iff_eq.mpr c18
            clear c18
            by_cases c19 : 0 < (t223.length : Int)
            · rw [if_pos c19] at H
              have c19b0 : decide (0 < (t223.length : Int)) = true := decide_eq_true c19
              have c19b1 : decide (0 < t223.length) = true := decide_eq_true (by omega)
              have c19b9 : (0 < t223.length) = True := eq_true (by omega)
              clear c19
              by_cases c20 : ((rd_T32 t223 0).f1).toList = ([45] : List UInt8)
              · rw [if_pos c20] at H
                have c20b0 : (((rd_T32 t223 0).f1).toList == ([45] : List UInt8)) = true := beq_iff_eq.mpr c20
                have c20b1 : (((rd_T32 t223 0).f1).toList != ([45] : List UInt8)) = false := bne_eq_false_iff_eq.mpr c20
                clear c20
                by_cases c21 : 1 < (t223.length : Int)
                · rw [if_pos c21] at H
                  have c21b0 : decide (1 < (t223.length : Int)) = true := decide_eq_true c21
                  have c21b1 : decide (1 < t223.length) = true := decide_eq_true (by omega)
                  clear c21
                  by_cases c22 : 1 ≤ (t221.size : Int)
                  · rw [if_pos c22] at H
                    have c22b0 := eq_true c22
                    have c22b1 : decide (1 ≤ (t221.size : Int)) = true := decide_eq_true c22
                    clear c22
                    obtain rfl := Option.some.inj H
                    go_enter Tryd.func8, Tryd.ntmps8
                    go_wp2_with (first | (go_at_call 19; (with_reducible refine (num_Text.calls k a0 0 t221 t222 _ A3.out (Pure.Gl.below HG.out (by repeat (first | (with_reducible first | exact HB.out | apply below_alloc | apply pw_below_drewN | apply below_drew1 | (refine below_set ?_ (by first | exact trivial )) ) | exact HB.out)))).mono ?_); rintro e w23 ⟨rfl, hb⟩; have n0_ := Aside0.mk (below_step (by repeat (first | (with_reducible first | exact HB.out | apply below_alloc | apply pw_below_drewN | apply below_drew1) | exact HB.out)) hb); clear HB; have HB := n0_; clear n0_; (try clear hb); (try clear hb2); (try clear hk); (try clear hi)) | (go_at_call 10; (with_reducible refine (lex_Scan.calls k t221 t223 t224 t225 _ A4.out (Pure.Gl.below HG.out (by repeat (first | (with_reducible first | exact HB.out | apply below_alloc | apply pw_below_drewN | apply below_drew1 | (refine below_set ?_ (by first | exact trivial )) ) | exact HB.out)))).mono ?_); rintro e w24 ⟨v226, rfl, ho0, hb⟩; have n0_ := Aside0.mk (Kd.R_lower ho0 (below_size (by repeat (first | (with_reducible first | exact HB.out | apply below_alloc | apply pw_below_drewN | apply below_drew1) | exact HB.out)))); have n1_ := Aside0.mk (below_step (by repeat (first | (with_reducible first | exact HB.out | apply below_alloc | apply pw_below_drewN | apply below_drew1) | exact HB.out)) hb); clear HB; have HO227 := n0_; have HB := n1_; clear n0_ n1_; (try clear hb); (try clear hb2); (try clear hk); (try clear hi); (try clear ho0); obtain ⟨Ao25, co25, eo25⟩ := Kd.R_slice HO227.out; subst eo25; have p228 : 0 ≤ (0 : Int) := (by omega); have q228 : 0 < (t223.length : Int) := of_decide_eq_true (by first | (with_reducible assumption) | assumption); obtain ⟨ad228, e228, hx228_0, hx228_1, hx228_2, hx228_3, hx228_4, hx228_5, hx228_6, hx228_7, hx228_8⟩ := at_T32 (Kd.R_reads' HO227.out).2.2 0 p228 q228; cases e228; have qi228 : (0 < t223.length) = True := eq_true (by omega); (try rw [show ((0 : Int)).toNat = 0 from rfl] at hx228_0); (try rw [show 0 * 9 = 0 from rfl] at hx228_0); (try rw [Addr.add_zero'] at hx228_0); (try rw [show ((0 : Int)).toNat = 0 from rfl] at hx228_1); (try rw [show 0 * 9 = 0 from rfl] at hx228_1); (try rw [Addr.add_zero'] at hx228_1); (try rw [show ((0 : Int)).toNat = 0 from rfl] at hx228_2); (try rw [show 0 * 9 = 0 from rfl] at hx228_2); (try rw [Addr.add_zero'] at hx228_2); (try rw [show ((0 : Int)).toNat = 0 from rfl] at hx228_3); (try rw [show 0 * 9 = 0 from rfl] at hx228_3); (try rw [Addr.add_zero'] at hx228_3); (try rw [show ((0 : Int)).toNat = 0 from rfl] at hx228_4); (try rw [show 0 * 9 = 0 from rfl] at hx228_4); (try rw [Addr.add_zero'] at hx228_4); (try rw [show ((0 : Int)).toNat = 0 from rfl] at hx228_5); (try rw [show 0 * 9 = 0 from rfl] at hx228_5); (try rw [Addr.add_zero'] at hx228_5); (try rw [show ((0 : Int)).toNat = 0 from rfl] at hx228_6); (try rw [show 0 * 9 = 0 from rfl] at hx228_6); (try rw [Addr.add_zero'] at hx228_6); (try rw [show ((0 : Int)).toNat = 0 from rfl] at hx228_7); (try rw [show 0 * 9 = 0 from rfl] at hx228_7); (try rw [Addr.add_zero'] at hx228_7); (try rw [show ((0 : Int)).toNat = 0 from rfl] at hx228_8); (try rw [show 0 * 9 = 0 from rfl] at hx228_8); (try rw [Addr.add_zero'] at hx228_8); replace p228 := eq_true p228; replace q228 := eq_true q228; have p229 : 0 ≤ (1 : Int) := (by omega); have q229 : 1 < (t223.length : Int) := of_decide_eq_true (by first | (with_reducible assumption) | assumption); obtain ⟨ad229, e229, hx229_0, hx229_1, hx229_2, hx229_3, hx229_4, hx229_5, hx229_6, hx229_7, hx229_8⟩ := at_T32 (Kd.R_reads' HO227.out).2.2 1 p229 q229; obtain rfl : ad228 = ad229 := (by injection e229); (try simp only [show (1 : Int).toNat = 1 from rfl, Nat.reduceMul, Nat.reduceEqDiff, Go.Addr.add, ↓reduceIte] at hx229_0); (try simp only [show (1 : Int).toNat = 1 from rfl, Nat.reduceMul, Nat.reduceEqDiff, Go.Addr.add, ↓reduceIte] at hx229_1); (try simp only [show (1 : Int).toNat = 1 from rfl, Nat.reduceMul, Nat.reduceEqDiff, Go.Addr.add, ↓reduceIte] at hx229_2); (try simp only [show (1 : Int).toNat = 1 from rfl, Nat.reduceMul, Nat.reduceEqDiff, Go.Addr.add, ↓reduceIte] at hx229_3); (try simp only [show (1 : Int).toNat = 1 from rfl, Nat.reduceMul, Nat.reduceEqDiff, Go.Addr.add, ↓reduceIte] at hx229_4); (try simp only [show (1 : Int).toNat = 1 from rfl, Nat.reduceMul, Nat.reduceEqDiff, Go.Addr.add, ↓reduceIte] at hx229_5); (try simp only [show (1 : Int).toNat = 1 from rfl, Nat.reduceMul, Nat.reduceEqDiff, Go.Addr.add, ↓reduceIte] at hx229_6); (try simp only [show (1 : Int).toNat = 1 from rfl, Nat.reduceMul, Nat.reduceEqDiff, Go.Addr.add, ↓reduceIte] at hx229_7); (try simp only [show (1 : Int).toNat = 1 from rfl, Nat.reduceMul, Nat.reduceEqDiff, Go.Addr.add, ↓reduceIte] at hx229_8); have qi229 : (1 < t223.length) = True := eq_true (by omega); (try rw [show ((1 : Int)).toNat = 1 from rfl] at hx229_0); (try rw [show 1 * 9 = 9 from rfl] at hx229_0); (try rw [show ((1 : Int)).toNat = 1 from rfl] at hx229_1); (try rw [show 1 * 9 = 9 from rfl] at hx229_1); (try rw [show ((1 : Int)).toNat = 1 from rfl] at hx229_2); (try rw [show 1 * 9 = 9 from rfl] at hx229_2); (try rw [show ((1 : Int)).toNat = 1 from rfl] at hx229_3); (try rw [show 1 * 9 = 9 from rfl] at hx229_3); (try rw [show ((1 : Int)).toNat = 1 from rfl] at hx229_4); (try rw [show 1 * 9 = 9 from rfl] at hx229_4); (try rw [show ((1 : Int)).toNat = 1 from rfl] at hx229_5); (try rw [show 1 * 9 = 9 from rfl] at hx229_5); (try rw [show ((1 : Int)).toNat = 1 from rfl] at hx229_6); (try rw [show 1 * 9 = 9 from rfl] at hx229_6); (try rw [show ((1 : Int)).toNat = 1 from rfl] at hx229_7); (try rw [show 1 * 9 = 9 from rfl] at hx229_7); (try rw [show ((1 : Int)).toNat = 1 from rfl] at hx229_8); (try rw [show 1 * 9 = 9 from rfl] at hx229_8); replace p229 := eq_true p229; replace q229 := eq_true q229))
                    repeat (go_quiet (first | (go_at_call 19; (with_reducible refine (num_Text.calls k a0 0 t221 t222 _ A3.out (Pure.Gl.below HG.out (by repeat (first | (with_reducible first | exact HB.out | apply below_alloc | apply pw_below_drewN | apply below_drew1 | (refine below_set ?_ (by first | exact trivial )) ) | exact HB.out)))).mono ?_); rintro e w23 ⟨rfl, hb⟩; have n0_ := Aside0.mk (below_step (by repeat (first | (with_reducible first | exact HB.out | apply below_alloc | apply pw_below_drewN | apply below_drew1) | exact HB.out)) hb); clear HB; have HB := n0_; clear n0_; (try clear hb); (try clear hb2); (try clear hk); (try clear hi)) | (go_at_call 10; (with_reducible refine (lex_Scan.calls k t221 t223 t224 t225 _ A4.out (Pure.Gl.below HG.out (by repeat (first | (with_reducible first | exact HB.out | apply below_alloc | apply pw_below_drewN | apply below_drew1 | (refine below_set ?_ (by first | exact trivial )) ) | exact HB.out)))).mono ?_); rintro e w24 ⟨v226, rfl, ho0, hb⟩; have n0_ := Aside0.mk (Kd.R_lower ho0 (below_size (by repeat (first | (with_reducible first | exact HB.out | apply below_alloc | apply pw_below_drewN | apply below_drew1) | exact HB.out)))); have n1_ := Aside0.mk (below_step (by repeat (first | (with_reducible first | exact HB.out | apply below_alloc | apply pw_below_drewN | apply below_drew1) | exact HB.out)) hb); clear HB; have HO227 := n0_; have HB := n1_; clear n0_ n1_; (try clear hb); (try clear hb2); (try clear hk); (try clear hi); (try clear ho0); obtain ⟨Ao25, co25, eo25⟩ := Kd.R_slice HO227.out; subst eo25; have p228 : 0 ≤ (0 : Int) := (by omega); have q228 : 0 < (t223.length : Int) := of_decide_eq_true (by first | (with_reducible assumption) | assumption); obtain ⟨ad228, e228, hx228_0, hx228_1, hx228_2, hx228_3, hx228_4, hx228_5, hx228_6, hx228_7, hx228_8⟩ := at_T32 (Kd.R_reads' HO227.out).2.2 0 p228 q228; cases e228; have qi228 : (0 < t223.length) = True := eq_true (by omega); (try rw [show ((0 : Int)).toNat = 0 from rfl] at hx228_0); (try rw [show 0 * 9 = 0 from rfl] at hx228_0); (try rw [Addr.add_zero'] at hx228_0); (try rw [show ((0 : Int)).toNat = 0 from rfl] at hx228_1); (try rw [show 0 * 9 = 0 from rfl] at hx228_1); (try rw [Addr.add_zero'] at hx228_1); (try rw [show ((0 : Int)).toNat = 0 from rfl] at hx228_2); (try rw [show 0 * 9 = 0 from rfl] at hx228_2); (try rw [Addr.add_zero'] at hx228_2); (try rw [show ((0 : Int)).toNat = 0 from rfl] at hx228_3); (try rw [show 0 * 9 = 0 from rfl] at hx228_3); (try rw [Addr.add_zero'] at hx228_3); (try rw [show ((0 : Int)).toNat = 0 from rfl] at hx228_4); (try rw [show 0 * 9 = 0 from rfl] at hx228_4); (try rw [Addr.add_zero'] at hx228_4); (try rw [show ((0 : Int)).toNat = 0 from rfl] at hx228_5); (try rw [show 0 * 9 = 0 from rfl] at hx228_5); (try rw [Addr.add_zero'] at hx228_5); (try rw [show ((0 : Int)).toNat = 0 from rfl] at hx228_6); (try rw [show 0 * 9 = 0 from rfl] at hx228_6); (try rw [Addr.add_zero'] at hx228_6); (try rw [show ((0 : Int)).toNat = 0 from rfl] at hx228_7); (try rw [show 0 * 9 = 0 from rfl] at hx228_7); (try rw [Addr.add_zero'] at hx228_7); (try rw [show ((0 : Int)).toNat = 0 from rfl] at hx228_8); (try rw [show 0 * 9 = 0 from rfl] at hx228_8); (try rw [Addr.add_zero'] at hx228_8); replace p228 := eq_true p228; replace q228 := eq_true q228; have p229 : 0 ≤ (1 : Int) := (by omega); have q229 : 1 < (t223.length : Int) := of_decide_eq_true (by first | (with_reducible assumption) | assumption); obtain ⟨ad229, e229, hx229_0, hx229_1, hx229_2, hx229_3, hx229_4, hx229_5, hx229_6, hx229_7, hx229_8⟩ := at_T32 (Kd.R_reads' HO227.out).2.2 1 p229 q229; obtain rfl : ad228 = ad229 := (by injection e229); (try simp only [show (1 : Int).toNat = 1 from rfl, Nat.reduceMul, Nat.reduceEqDiff, Go.Addr.add, ↓reduceIte] at hx229_0); (try simp only [show (1 : Int).toNat = 1 from rfl, Nat.reduceMul, Nat.reduceEqDiff, Go.Addr.add, ↓reduceIte] at hx229_1); (try simp only [show (1 : Int).toNat = 1 from rfl, Nat.reduceMul, Nat.reduceEqDiff, Go.Addr.add, ↓reduceIte] at hx229_2); (try simp only [show (1 : Int).toNat = 1 from rfl, Nat.reduceMul, Nat.reduceEqDiff, Go.Addr.add, ↓reduceIte] at hx229_3); (try simp only [show (1 : Int).toNat = 1 from rfl, Nat.reduceMul, Nat.reduceEqDiff, Go.Addr.add, ↓reduceIte] at hx229_4); (try simp only [show (1 : Int).toNat = 1 from rfl, Nat.reduceMul, Nat.reduceEqDiff, Go.Addr.add, ↓reduceIte] at hx229_5); (try simp only [show (1 : Int).toNat = 1 from rfl, Nat.reduceMul, Nat.reduceEqDiff, Go.Addr.add, ↓reduceIte] at hx229_6); (try simp only [show (1 : Int).toNat = 1 from rfl, Nat.reduceMul, Nat.reduceEqDiff, Go.Addr.add, ↓reduceIte] at hx229_7); (try simp only [show (1 : Int).toNat = 1 from rfl, Nat.reduceMul, Nat.reduceEqDiff, Go.Addr.add, ↓reduceIte] at hx229_8); have qi229 : (1 < t223.length) = True := eq_true (by omega); (try rw [show ((1 : Int)).toNat = 1 from rfl] at hx229_0); (try rw [show 1 * 9 = 9 from rfl] at hx229_0); (try rw [show ((1 : Int)).toNat = 1 from rfl] at hx229_1); (try rw [show 1 * 9 = 9 from rfl] at hx229_1); (try rw [show ((1 : Int)).toNat = 1 from rfl] at hx229_2); (try rw [show 1 * 9 = 9 from rfl] at hx229_2); (try rw [show ((1 : Int)).toNat = 1 from rfl] at hx229_3); (try rw [show 1 * 9 = 9 from rfl] at hx229_3); (try rw [show ((1 : Int)).toNat = 1 from rfl] at hx229_4); (try rw [show 1 * 9 = 9 from rfl] at hx229_4); (try rw [show ((1 : Int)).toNat = 1 from rfl] at hx229_5); (try rw [show 1 * 9 = 9 from rfl] at hx229_5); (try rw [show ((1 : Int)).toNat = 1 from rfl] at hx229_6); (try rw [show 1 * 9 = 9 from rfl] at hx229_6); (try rw [show ((1 : Int)).toNat = 1 from rfl] at hx229_7); (try rw [show 1 * 9 = 9 from rfl] at hx229_7); (try rw [show ((1 : Int)).toNat = 1 from rfl] at hx229_8); (try rw [show 1 * 9 = 9 from rfl] at hx229_8); replace p229 := eq_true p229; replace q229 := eq_true q229)); try go_wp2_with (first | (go_at_call 19; (with_reducible refine (num_Text.calls k a0 0 t221 t222 _ A3.out (Pure.Gl.below HG.out (by repeat (first | (with_reducible first | exact HB.out | apply below_alloc | apply pw_below_drewN | apply below_drew1 | (refine below_set ?_ (by first | exact trivial )) ) | exact HB.out)))).mono ?_); rintro e w23 ⟨rfl, hb⟩; have n0_ := Aside0.mk (below_step (by repeat (first | (with_reducible first | exact HB.out | apply below_alloc | apply pw_below_drewN | apply below_drew1) | exact HB.out)) hb); clear HB; have HB := n0_; clear n0_; (try clear hb); (try clear hb2); (try clear hk); (try clear hi)) | (go_at_call 10; (with_reducible refine (lex_Scan.calls k t221 t223 t224 t225 _ A4.out (Pure.Gl.below HG.out (by repeat (first | (with_reducible first | exact HB.out | apply below_alloc | apply pw_below_drewN | apply below_drew1 | (refine below_set ?_ (by first | exact trivial )) ) | exact HB.out)))).mono ?_); rintro e w24 ⟨v226, rfl, ho0, hb⟩; have n0_ := Aside0.mk (Kd.R_lower ho0 (below_size (by repeat (first | (with_reducible first | exact HB.out | apply below_alloc | apply pw_below_drewN | apply below_drew1) | exact HB.out)))); have n1_ := Aside0.mk (below_step (by repeat (first | (with_reducible first | exact HB.out | apply below_alloc | apply pw_below_drewN | apply below_drew1) | exact HB.out)) hb); clear HB; have HO227 := n0_; have HB := n1_; clear n0_ n1_; (try clear hb); (try clear hb2); (try clear hk); (try clear hi); (try clear ho0); obtain ⟨Ao25, co25, eo25⟩ := Kd.R_slice HO227.out; subst eo25; have p228 : 0 ≤ (0 : Int) := (by omega); have q228 : 0 < (t223.length : Int) := of_decide_eq_true (by first | (with_reducible assumption) | assumption); obtain ⟨ad228, e228, hx228_0, hx228_1, hx228_2, hx228_3, hx228_4, hx228_5, hx228_6, hx228_7, hx228_8⟩ := at_T32 (Kd.R_reads' HO227.out).2.2 0 p228 q228; cases e228; have qi228 : (0 < t223.length) = True := eq_true (by omega); (try rw [show ((0 : Int)).toNat = 0 from rfl] at hx228_0); (try rw [show 0 * 9 = 0 from rfl] at hx228_0); (try rw [Addr.add_zero'] at hx228_0); (try rw [show ((0 : Int)).toNat = 0 from rfl] at hx228_1); (try rw [show 0 * 9 = 0 from rfl] at hx228_1); (try rw [Addr.add_zero'] at hx228_1); (try rw [show ((0 : Int)).toNat = 0 from rfl] at hx228_2); (try rw [show 0 * 9 = 0 from rfl] at hx228_2); (try rw [Addr.add_zero'] at hx228_2); (try rw [show ((0 : Int)).toNat = 0 from rfl] at hx228_3); (try rw [show 0 * 9 = 0 from rfl] at hx228_3); (try rw [Addr.add_zero'] at hx228_3); (try rw [show ((0 : Int)).toNat = 0 from rfl] at hx228_4); (try rw [show 0 * 9 = 0 from rfl] at hx228_4); (try rw [Addr.add_zero'] at hx228_4); (try rw [show ((0 : Int)).toNat = 0 from rfl] at hx228_5); (try rw [show 0 * 9 = 0 from rfl] at hx228_5); (try rw [Addr.add_zero'] at hx228_5); (try rw [show ((0 : Int)).toNat = 0 from rfl] at hx228_6); (try rw [show 0 * 9 = 0 from rfl] at hx228_6); (try rw [Addr.add_zero'] at hx228_6); (try rw [show ((0 : Int)).toNat = 0 from rfl] at hx228_7); (try rw [show 0 * 9 = 0 from rfl] at hx228_7); (try rw [Addr.add_zero'] at hx228_7); (try rw [show ((0 : Int)).toNat = 0 from rfl] at hx228_8); (try rw [show 0 * 9 = 0 from rfl] at hx228_8); (try rw [Addr.add_zero'] at hx228_8); replace p228 := eq_true p228; replace q228 := eq_true q228; have p229 : 0 ≤ (1 : Int) := (by omega); have q229 : 1 < (t223.length : Int) := of_decide_eq_true (by first | (with_reducible assumption) | assumption); obtain ⟨ad229, e229, hx229_0, hx229_1, hx229_2, hx229_3, hx229_4, hx229_5, hx229_6, hx229_7, hx229_8⟩ := at_T32 (Kd.R_reads' HO227.out).2.2 1 p229 q229; obtain rfl : ad228 = ad229 := (by injection e229); (try simp only [show (1 : Int).toNat = 1 from rfl, Nat.reduceMul, Nat.reduceEqDiff, Go.Addr.add, ↓reduceIte] at hx229_0); (try simp only [show (1 : Int).toNat = 1 from rfl, Nat.reduceMul, Nat.reduceEqDiff, Go.Addr.add, ↓reduceIte] at hx229_1); (try simp only [show (1 : Int).toNat = 1 from rfl, Nat.reduceMul, Nat.reduceEqDiff, Go.Addr.add, ↓reduceIte] at hx229_2); (try simp only [show (1 : Int).toNat = 1 from rfl, Nat.reduceMul, Nat.reduceEqDiff, Go.Addr.add, ↓reduceIte] at hx229_3); (try simp only [show (1 : Int).toNat = 1 from rfl, Nat.reduceMul, Nat.reduceEqDiff, Go.Addr.add, ↓reduceIte] at hx229_4); (try simp only [show (1 : Int).toNat = 1 from rfl, Nat.reduceMul, Nat.reduceEqDiff, Go.Addr.add, ↓reduceIte] at hx229_5); (try simp only [show (1 : Int).toNat = 1 from rfl, Nat.reduceMul, Nat.reduceEqDiff, Go.Addr.add, ↓reduceIte] at hx229_6); (try simp only [show (1 : Int).toNat = 1 from rfl, Nat.reduceMul, Nat.reduceEqDiff, Go.Addr.add, ↓reduceIte] at hx229_7); (try simp only [show (1 : Int).toNat = 1 from rfl, Nat.reduceMul, Nat.reduceEqDiff, Go.Addr.add, ↓reduceIte] at hx229_8); have qi229 : (1 < t223.length) = True := eq_true (by omega); (try rw [show ((1 : Int)).toNat = 1 from rfl] at hx229_0); (try rw [show 1 * 9 = 9 from rfl] at hx229_0); (try rw [show ((1 : Int)).toNat = 1 from rfl] at hx229_1); (try rw [show 1 * 9 = 9 from rfl] at hx229_1); (try rw [show ((1 : Int)).toNat = 1 from rfl] at hx229_2); (try rw [show 1 * 9 = 9 from rfl] at hx229_2); (try rw [show ((1 : Int)).toNat = 1 from rfl] at hx229_3); (try rw [show 1 * 9 = 9 from rfl] at hx229_3); (try rw [show ((1 : Int)).toNat = 1 from rfl] at hx229_4); (try rw [show 1 * 9 = 9 from rfl] at hx229_4); (try rw [show ((1 : Int)).toNat = 1 from rfl] at hx229_5); (try rw [show 1 * 9 = 9 from rfl] at hx229_5); (try rw [show ((1 : Int)).toNat = 1 from rfl] at hx229_6); (try rw [show 1 * 9 = 9 from rfl] at hx229_6); (try rw [show ((1 : Int)).toNat = 1 from rfl] at hx229_7); (try rw [show 1 * 9 = 9 from rfl] at hx229_7); (try rw [show ((1 : Int)).toNat = 1 from rfl] at hx229_8); (try rw [show 1 * 9 = 9 from rfl] at hx229_8); replace p229 := eq_true p229; replace q229 := eq_true q229)))
                    go_ret
                    exact ⟨by first | rfl | (simp [errW_none, errW_some] <;> rfl) | (simp [*, errW_none, errW_some] <;> rfl), by repeat (first | (with_reducible first | exact HB.out | apply below_alloc | apply pw_below_drewN | apply below_drew1) | exact HB.out)⟩
                  · rw [if_neg c22] at H
                    exact absurd H (by simp)
                · rw [if_neg c21] at H
                  exact absurd H (by simp)
              · rw [if_neg c20] at H
                have c20b0 : (((rd_T32 t223 0).f1).toList == ([45] : List UInt8)) = false := beq_eq_false_iff_ne.mpr c20
                have c20b1 : (((rd_T32 t223 0).f1).toList != ([45] : List UInt8)) = true := bne_iff_ne.mpr c20
                exact absurd H (by simp)
            · rw [if_neg c19] at H
              exact absurd H (by simp)
          · rw [if_neg c18] at H
            have c18b0 : ((t223.length : Int) == 2) = false := beq_eq_false_iff_ne.mpr c18
            have c18b1 : ((t223.length : Int) != 2) = true := bne_iff_ne.mpr c18
            exact absurd H (by simp)
        · rw [if_neg c17] at H
          have c17b0 : (t225 == 0) = false := beq_eq_false_iff_ne.mpr c17
          have c17b1 : (t225 != 0) = true := bne_iff_ne.mpr c17
          exact absurd H (by simp)
    · rw [if_neg c6] at H
      have c6b0 : decide (a0 < 0) = false := decide_eq_false c6
      clear c6
      have HC34 := Aside0.mk H
      clear H
      go_enter Tryd.func8, Tryd.ntmps8
      go_upto_region 9 with (first | (go_at_call 19; (with_reducible refine (num_Text.calls k a0 0 t221 t222 _ A3.out (Pure.Gl.below HG.out (by repeat (first | (with_reducible first | exact HB.out | apply below_alloc | apply pw_below_drewN | apply below_drew1 | (refine below_set ?_ (by first | exact trivial )) ) | exact HB.out)))).mono ?_); rintro e w35 ⟨rfl, hb⟩; have n0_ := Aside0.mk (below_step (by repeat (first | (with_reducible first | exact HB.out | apply below_alloc | apply pw_below_drewN | apply below_drew1) | exact HB.out)) hb); clear HB; have HB := n0_; clear n0_; (try clear hb); (try clear hb2); (try clear hk); (try clear hi)) | (go_at_call 10; (with_reducible refine (lex_Scan.calls k t221 t223 t224 t225 _ A4.out (Pure.Gl.below HG.out (by repeat (first | (with_reducible first | exact HB.out | apply below_alloc | apply pw_below_drewN | apply below_drew1 | (refine below_set ?_ (by first | exact trivial )) ) | exact HB.out)))).mono ?_); rintro e w36 ⟨v226, rfl, ho0, hb⟩; have n0_ := Aside0.mk (Kd.R_lower ho0 (below_size (by repeat (first | (with_reducible first | exact HB.out | apply below_alloc | apply pw_below_drewN | apply below_drew1) | exact HB.out)))); have n1_ := Aside0.mk (below_step (by repeat (first | (with_reducible first | exact HB.out | apply below_alloc | apply pw_below_drewN | apply below_drew1) | exact HB.out)) hb); clear HB; have HO227 := n0_; have HB := n1_; clear n0_ n1_; (try clear hb); (try clear hb2); (try clear hk); (try clear hi); (try clear ho0)))
      repeat (go_quiet (first | (go_at_call 19; (with_reducible refine (num_Text.calls k a0 0 t221 t222 _ A3.out (Pure.Gl.below HG.out (by repeat (first | (with_reducible first | exact HB.out | apply below_alloc | apply pw_below_drewN | apply below_drew1 | (refine below_set ?_ (by first | exact trivial )) ) | exact HB.out)))).mono ?_); rintro e w35 ⟨rfl, hb⟩; have n0_ := Aside0.mk (below_step (by repeat (first | (with_reducible first | exact HB.out | apply below_alloc | apply pw_below_drewN | apply below_drew1) | exact HB.out)) hb); clear HB; have HB := n0_; clear n0_; (try clear hb); (try clear hb2); (try clear hk); (try clear hi)) | (go_at_call 10; (with_reducible refine (lex_Scan.calls k t221 t223 t224 t225 _ A4.out (Pure.Gl.below HG.out (by repeat (first | (with_reducible first | exact HB.out | apply below_alloc | apply pw_below_drewN | apply below_drew1 | (refine below_set ?_ (by first | exact trivial )) ) | exact HB.out)))).mono ?_); rintro e w36 ⟨v226, rfl, ho0, hb⟩; have n0_ := Aside0.mk (Kd.R_lower ho0 (below_size (by repeat (first | (with_reducible first | exact HB.out | apply below_alloc | apply pw_below_drewN | apply below_drew1) | exact HB.out)))); have n1_ := Aside0.mk (below_step (by repeat (first | (with_reducible first | exact HB.out | apply below_alloc | apply pw_below_drewN | apply below_drew1) | exact HB.out)) hb); clear HB; have HO227 := n0_; have HB := n1_; clear n0_ n1_; (try clear hb); (try clear hb2); (try clear hk); (try clear hi); (try clear ho0))); go_upto_region 9 with (first | (go_at_call 19; (with_reducible refine (num_Text.calls k a0 0 t221 t222 _ A3.out (Pure.Gl.below HG.out (by repeat (first | (with_reducible first | exact HB.out | apply below_alloc | apply pw_below_drewN | apply below_drew1 | (refine below_set ?_ (by first | exact trivial )) ) | exact HB.out)))).mono ?_); rintro e w35 ⟨rfl, hb⟩; have n0_ := Aside0.mk (below_step (by repeat (first | (with_reducible first | exact HB.out | apply below_alloc | apply pw_below_drewN | apply below_drew1) | exact HB.out)) hb); clear HB; have HB := n0_; clear n0_; (try clear hb); (try clear hb2); (try clear hk); (try clear hi)) | (go_at_call 10; (with_reducible refine (lex_Scan.calls k t221 t223 t224 t225 _ A4.out (Pure.Gl.below HG.out (by repeat (first | (with_reducible first | exact HB.out | apply below_alloc | apply pw_below_drewN | apply below_drew1 | (refine below_set ?_ (by first | exact trivial )) ) | exact HB.out)))).mono ?_); rintro e w36 ⟨v226, rfl, ho0, hb⟩; have n0_ := Aside0.mk (Kd.R_lower ho0 (below_size (by repeat (first | (with_reducible first | exact HB.out | apply below_alloc | apply pw_below_drewN | apply below_drew1) | exact HB.out)))); have n1_ := Aside0.mk (below_step (by repeat (first | (with_reducible first | exact HB.out | apply below_alloc | apply pw_below_drewN | apply below_drew1) | exact HB.out)) hb); clear HB; have HO227 := n0_; have HB := n1_; clear n0_ n1_; (try clear hb); (try clear hb2); (try clear hk); (try clear hi); (try clear ho0))))
      (try simp only [Act.put, List.setIfInBounds_toArray, List.set_cons_zero, List.set_cons_succ])
      go_cut [80] (fun v80 wc => ∃ (kq : Nat) (x80_33 : Bool), v80 = .bool x80_33 ∧ Aside0 (payofflaw06_LexNumbers.j0 kq a0 a1 t221 x80_33 = some r) ∧ Aside0 (kq ≤ k) ∧ Aside0 (Below w.heap.size w wc))
      case first =>
        have H := HC34.out
        clear HC34
        by_cases c37 : t225 = 0
        · rw [if_pos c37] at H
          have c37b0 : (t225 == 0) = true := beq_iff_eq.mpr c37
          have c37b1 : (t225 != 0) = false := bne_eq_false_iff_eq.mpr c37
          clear c37
          (first | rw [c37b0] | (simp only [i64_w, i32_w]; rw [c37b0]) | skip)
          by_cases c38 : (t223.length : Int) = 1
          · rw [if_pos c38] at H
            have c38b0 : ((t223.length : Int) == 1) = true := beq_iff_eq.mpr c38
            have c38b1 : ((t223.length : Int) != 1) = false := bne_eq_false_iff_eq.mpr c38
            clear c38
            by_cases c39 : 0 < (t223.length : Int)
            · rw [if_pos c39] at H
              have c39b0 : decide (0 < (t223.length : Int)) = true := decide_eq_true c39
              have c39b1 : decide (0 < t223.length) = true := decide_eq_true (by omega)
              have c39b9 : (0 < t223.length) = True := eq_true (by omega)
              clear c39
              have H' := Aside0.mk H
              clear H
              obtain ⟨Ao40, co40, eo40⟩ := Kd.R_slice HO227.out
              subst eo40
              have p230 : 0 ≤ (0 : Int) := (by omega)
              have q230 : 0 < (t223.length : Int) := of_decide_eq_true (by first | (with_reducible assumption) | assumption)
              obtain ⟨ad230, e230, hx230_0, hx230_1, hx230_2, hx230_3, hx230_4, hx230_5, hx230_6, hx230_7, hx230_8⟩ := at_T32 (Kd.R_reads' HO227.out).2.2 0 p230 q230
              cases e230
              have qi230 : (0 < t223.length) = True := eq_true (by omega)
              (try rw [show ((0 : Int)).toNat = 0 from rfl] at hx230_0)
              (try rw [show 0 * 9 = 0 from rfl] at hx230_0)
              (try rw [Addr.add_zero'] at hx230_0)
              (try rw [show ((0 : Int)).toNat = 0 from rfl] at hx230_1)
              (try rw [show 0 * 9 = 0 from rfl] at hx230_1)
              (try rw [Addr.add_zero'] at hx230_1)
              (try rw [show ((0 : Int)).toNat = 0 from rfl] at hx230_2)
              (try rw [show 0 * 9 = 0 from rfl] at hx230_2)
              (try rw [Addr.add_zero'] at hx230_2)
              (try rw [show ((0 : Int)).toNat = 0 from rfl] at hx230_3)
              (try rw [show 0 * 9 = 0 from rfl] at hx230_3)
              (try rw [Addr.add_zero'] at hx230_3)
              (try rw [show ((0 : Int)).toNat = 0 from rfl] at hx230_4)
              (try rw [show 0 * 9 = 0 from rfl] at hx230_4)
              (try rw [Addr.add_zero'] at hx230_4)
              (try rw [show ((0 : Int)).toNat = 0 from rfl] at hx230_5)
              (try rw [show 0 * 9 = 0 from rfl] at hx230_5)
              (try rw [Addr.add_zero'] at hx230_5)
              (try rw [show ((0 : Int)).toNat = 0 from rfl] at hx230_6)
              (try rw [show 0 * 9 = 0 from rfl] at hx230_6)
              (try rw [Addr.add_zero'] at hx230_6)
              (try rw [show ((0 : Int)).toNat = 0 from rfl] at hx230_7)
              (try rw [show 0 * 9 = 0 from rfl] at hx230_7)
              (try rw [Addr.add_zero'] at hx230_7)
              (try rw [show ((0 : Int)).toNat = 0 from rfl] at hx230_8)
              (try rw [show 0 * 9 = 0 from rfl] at hx230_8)
              (try rw [Addr.add_zero'] at hx230_8)
              replace p230 := eq_true p230
              replace q230 := eq_true q230
              go_wp2
              repeat (go_quiet (fail); try go_wp2)
              go_meet
              case rel => exact ⟨_, ((!(((rd_T32 t223 0).f0) == 3) || (!((((rd_T32 t223 0).f1).toList) == t221.toList) || (!(((rd_T32 t223 0).f2) == 0) || (!(((rd_T32 t223 0).f3) == a0) || ((!(((rd_T32 t223 0).f4.f0) == 0) || (!(((rd_T32 t223 0).f4.f1) == 0) || (!(((rd_T32 t223 0).f4.f2) == 0)))) || ((!(((rd_T32 t223 0).f5.f0) == 0) || (!(((rd_T32 t223 0).f5.f1) == 0)))))))))), (by first | rfl | (simp; done) | (simp [*]; done)), H', ⟨by first | omega | exact Nat.le_refl _⟩, ⟨by repeat (first | (with_reducible first | exact HB.out | apply below_alloc | apply pw_below_drewN | apply below_drew1) | exact HB.out)⟩⟩
            · rw [if_neg c39] at H
              exact absurd H (by simp)
          · rw [if_neg c38] at H
            have c38b0 : ((t223.length : Int) == 1) = false := beq_eq_false_iff_ne.mpr c38
            have c38b1 : ((t223.length : Int) != 1) = true := bne_iff_ne.mpr c38
            have H' := Aside0.mk H
            clear H
            obtain ⟨Ao41, co41, eo41⟩ := Kd.R_slice HO227.out
            subst eo41
            go_wp2
            repeat (go_quiet (fail); try go_wp2)
            go_meet
            case rel => exact ⟨_, (true), (by first | rfl | (simp; done) | (simp [*]; done)), H', ⟨by first | omega | exact Nat.le_refl _⟩, ⟨by repeat (first | (with_reducible first | exact HB.out | apply below_alloc | apply pw_below_drewN | apply below_drew1) | exact HB.out)⟩⟩
        · rw [if_neg c37] at H
          have c37b0 : (t225 == 0) = false := beq_eq_false_iff_ne.mpr c37
          have c37b1 : (t225 != 0) = true := bne_iff_ne.mpr c37
          (first | rw [c37b0] | (simp only [i64_w, i32_w]; rw [c37b0]) | skip)
          have H' := Aside0.mk H
          clear H
          go_wp2
          repeat (go_quiet (fail); try go_wp2)
          go_meet
          case rel => exact ⟨_, (true), (by first | rfl | (simp; done) | (simp [*]; done)), H', ⟨by first | omega | exact Nat.le_refl _⟩, ⟨by repeat (first | (with_reducible first | exact HB.out | apply below_alloc | apply pw_below_drewN | apply below_drew1) | exact HB.out)⟩⟩
      case rest =>
        clear HC34; try clear c1; try clear c2; try clear p2; try clear q2; try clear hx2; try clear qi2; try clear c3; try clear c5; try clear c5b0; try clear c5b1; try clear c6; try clear c6b0; try clear p6; try clear c7; try clear c7b0; try clear c7b1; try clear c8; try clear c8b0; try clear c8b1; try clear c9; try clear c9b0; try clear c9b1; try clear c17; try clear c17b0; try clear c17b1; try clear c18; try clear c18b0; try clear c18b1; try clear c19; try clear c19b0; try clear c19b1; try clear c20; try clear c20b0; try clear c20b1; try clear c21; try clear c21b0; try clear c21b1; try clear c22; try clear c22b0; try clear c22b1; try clear p22; try clear q22; try clear hx22; try clear qi22; try clear p23; try clear q23; try clear hx23; try clear qi23; try clear c37; try clear c37b0; try clear c37b1; try clear c38; try clear c38b0; try clear c38b1; try clear c39; try clear c39b0; try clear c39b1; try clear hx228_0; try clear hx228_1; try clear hx228_2; try clear hx228_3; try clear hx228_4; try clear hx228_5; try clear hx228_6; try clear hx228_7; try clear hx228_8; try clear hx229_0; try clear hx229_1; try clear hx229_2; try clear hx229_3; try clear hx229_4; try clear hx229_5; try clear hx229_6; try clear hx229_7; try clear hx229_8; try clear hx230_0; try clear hx230_1; try clear hx230_2; try clear hx230_3; try clear hx230_4; try clear hx230_5; try clear hx230_6; try clear hx230_7; try clear hx230_8; try clear p228; try clear p229; try clear p230; try clear q228; try clear q229; try clear q230
        obtain ⟨kq, x80_33, rfl, HA, HJ33, HB⟩ := hcut
        cases kq with
        | zero => exact absurd HA.out (by simp [payofflaw06_LexNumbers.j0])
        | succ kj33 =>
          have H := HA.out
          clear HA
          simp only [payofflaw06_LexNumbers.j0] at H
          by_cases c42 : x80_33 = true
          · subst c42
            have H1 : (none) = some r := by rw [if_pos rfl] at H; exact H
            clear H
            have H := H1
            clear H1
            exact absurd H (by simp)
          · replace c42 := Bool.eq_false_iff.mpr c42
            subst c42
            have H1 : (if 1 + t221.size ≤ 9223372036854775807 then ((lex_Scan.f kj33 ((⟨#[48]⟩ : ByteArray) ++ t221)).bind fun bt231 => (if bt231.2.2 = 62 then (payofflaw06_LexNumbers.j1 kj33 a0 a1 t221 (bt231.2.1 != 0)) else (payofflaw06_LexNumbers.j1 kj33 a0 a1 t221 true))) else (none)) = some r := by rw [if_neg (show ¬ (false = true) by decide)] at H; exact H
            clear H
            have H := H1
            clear H1
            by_cases c43 : 1 + t221.size ≤ 9223372036854775807
            · rw [if_pos c43] at H
              have c43b0 := eq_true c43
              have c43b1 : decide (1 + t221.size ≤ 9223372036854775807) = true := decide_eq_true c43
              try have c43b2 : (9223372036854775807 < 1 + t221.size) = False := eq_false (Nat.not_lt.2 c43)
              replace H := Option.bind_eq_some_iff.mp H
              obtain ⟨⟨t231, t232, t233⟩, A440, H⟩ := H
              replace H : (if t233 = 62 then (payofflaw06_LexNumbers.j1 kj33 a0 a1 t221 (t232 != 0)) else (payofflaw06_LexNumbers.j1 kj33 a0 a1 t221 true)) = some r := H
              have A44 := Aside0.mk A440
              clear A440
              have HC45 := Aside0.mk H
              clear H
              go_upto_region 12 with (first | (go_at_call 10; (with_reducible refine (lex_Scan.calls kj33 ((⟨#[48]⟩ : ByteArray) ++ t221) t231 t232 t233 _ A44.out (Pure.Gl.below HG.out (by repeat (first | (with_reducible first | exact HB.out | apply below_alloc | apply pw_below_drewN | apply below_drew1 | (refine below_set ?_ (by first | exact trivial )) ) | exact HB.out)))).mono ?_); rintro e w46 ⟨v234, rfl, ho0, hb⟩; have n0_ := Aside0.mk (Kd.R_lower ho0 (below_size (by repeat (first | (with_reducible first | exact HB.out | apply below_alloc | apply pw_below_drewN | apply below_drew1) | exact HB.out)))); have n1_ := Aside0.mk (below_step (by repeat (first | (with_reducible first | exact HB.out | apply below_alloc | apply pw_below_drewN | apply below_drew1) | exact HB.out)) hb); clear HB; have HO235 := n0_; have HB := n1_; clear n0_ n1_; (try clear hb); (try clear hb2); (try clear hk); (try clear hi); (try clear ho0)))
              repeat (go_quiet (first | (go_at_call 10; (with_reducible refine (lex_Scan.calls kj33 ((⟨#[48]⟩ : ByteArray) ++ t221) t231 t232 t233 _ A44.out (Pure.Gl.below HG.out (by repeat (first | (with_reducible first | exact HB.out | apply below_alloc | apply pw_below_drewN | apply below_drew1 | (refine below_set ?_ (by first | exact trivial )) ) | exact HB.out)))).mono ?_); rintro e w46 ⟨v234, rfl, ho0, hb⟩; have n0_ := Aside0.mk (Kd.R_lower ho0 (below_size (by repeat (first | (with_reducible first | exact HB.out | apply below_alloc | apply pw_below_drewN | apply below_drew1) | exact HB.out)))); have n1_ := Aside0.mk (below_step (by repeat (first | (with_reducible first | exact HB.out | apply below_alloc | apply pw_below_drewN | apply below_drew1) | exact HB.out)) hb); clear HB; have HO235 := n0_; have HB := n1_; clear n0_ n1_; (try clear hb); (try clear hb2); (try clear hk); (try clear hi); (try clear ho0))); go_upto_region 12 with (first | (go_at_call 10; (with_reducible refine (lex_Scan.calls kj33 ((⟨#[48]⟩ : ByteArray) ++ t221) t231 t232 t233 _ A44.out (Pure.Gl.below HG.out (by repeat (first | (with_reducible first | exact HB.out | apply below_alloc | apply pw_below_drewN | apply below_drew1 | (refine below_set ?_ (by first | exact trivial )) ) | exact HB.out)))).mono ?_); rintro e w46 ⟨v234, rfl, ho0, hb⟩; have n0_ := Aside0.mk (Kd.R_lower ho0 (below_size (by repeat (first | (with_reducible first | exact HB.out | apply below_alloc | apply pw_below_drewN | apply below_drew1) | exact HB.out)))); have n1_ := Aside0.mk (below_step (by repeat (first | (with_reducible first | exact HB.out | apply below_alloc | apply pw_below_drewN | apply below_drew1) | exact HB.out)) hb); clear HB; have HO235 := n0_; have HB := n1_; clear n0_ n1_; (try clear hb); (try clear hb2); (try clear hk); (try clear hi); (try clear ho0))))
              (try simp only [Act.put, List.setIfInBounds_toArray, List.set_cons_zero, List.set_cons_succ])
              go_cut [93] (fun v93 wc => ∃ (kq : Nat) (x93_44 : Bool), v93 = .bool x93_44 ∧ Aside0 (payofflaw06_LexNumbers.j1 kq a0 a1 t221 x93_44 = some r) ∧ Aside0 (kq ≤ kj33) ∧ Aside0 (Below w.heap.size w wc))
              case first =>
                have H := HC45.out
                clear HC45
                by_cases c47 : t233 = 62
                · rw [if_pos c47] at H
                  have c47b0 : (t233 == 62) = true := beq_iff_eq.mpr c47
                  have c47b1 : (t233 != 62) = false := bne_eq_false_iff_eq.mpr c47
                  clear c47
                  (first | rw [c47b0] | (simp only [i64_w, i32_w]; rw [c47b0]) | skip)
                  have H' := Aside0.mk H
                  clear H
                  go_wp2
                  repeat (go_quiet (fail); try go_wp2)
                  go_meet
                  case rel => exact ⟨_, ((t232 != 0)), (by first | rfl | (simp; done) | (simp [*]; done)), H', ⟨by have := HJ33.out; first | omega | exact Nat.le_refl _⟩, ⟨by repeat (first | (with_reducible first | exact HB.out | apply below_alloc | apply pw_below_drewN | apply below_drew1) | exact HB.out)⟩⟩
                · rw [if_neg c47] at H
                  have c47b0 : (t233 == 62) = false := beq_eq_false_iff_ne.mpr c47
                  have c47b1 : (t233 != 62) = true := bne_iff_ne.mpr c47
                  (first | rw [c47b0] | (simp only [i64_w, i32_w]; rw [c47b0]) | skip)
                  have H' := Aside0.mk H
                  clear H
                  go_wp2
                  repeat (go_quiet (fail); try go_wp2)
                  go_meet
                  case rel => exact ⟨_, (true), (by first | rfl | (simp; done) | (simp [*]; done)), H', ⟨by have := HJ33.out; first | omega | exact Nat.le_refl _⟩, ⟨by repeat (first | (with_reducible first | exact HB.out | apply below_alloc | apply pw_below_drewN | apply below_drew1) | exact HB.out)⟩⟩
              case rest =>
                clear HC45; try clear c1; try clear c2; try clear p2; try clear q2; try clear hx2; try clear qi2; try clear c3; try clear c4; try clear c5; try clear c5b0; try clear c5b1; try clear c6; try clear c6b0; try clear p6; try clear c7; try clear c7b0; try clear c7b1; try clear c8; try clear c8b0; try clear c8b1; try clear c9; try clear c9b0; try clear c9b1; try clear c17; try clear c17b0; try clear c17b1; try clear c18; try clear c18b0; try clear c18b1; try clear c19; try clear c19b0; try clear c19b1; try clear c20; try clear c20b0; try clear c20b1; try clear c21; try clear c21b0; try clear c21b1; try clear c22; try clear c22b0; try clear c22b1; try clear p22; try clear q22; try clear hx22; try clear qi22; try clear p23; try clear q23; try clear hx23; try clear qi23; try clear c37; try clear c37b0; try clear c37b1; try clear c38; try clear c38b0; try clear c38b1; try clear c39; try clear c39b0; try clear c39b1; try clear c42; try clear c43; try clear c43b0; try clear c43b1; try clear c43b2; try clear c47; try clear c47b0; try clear c47b1; try clear hx228_0; try clear hx228_1; try clear hx228_2; try clear hx228_3; try clear hx228_4; try clear hx228_5; try clear hx228_6; try clear hx228_7; try clear hx228_8; try clear hx229_0; try clear hx229_1; try clear hx229_2; try clear hx229_3; try clear hx229_4; try clear hx229_5; try clear hx229_6; try clear hx229_7; try clear hx229_8; try clear hx230_0; try clear hx230_1; try clear hx230_2; try clear hx230_3; try clear hx230_4; try clear hx230_5; try clear hx230_6; try clear hx230_7; try clear hx230_8; try clear p2; try clear p22; try clear p228; try clear p229; try clear p23; try clear p230; try clear p6; try clear q2; try clear q22; try clear q228; try clear q229; try clear q23; try clear q230
                obtain ⟨kq, x93_44, rfl, HA, HJ44, HB⟩ := hcut
                cases kq with
                | zero => exact absurd HA.out (by simp [payofflaw06_LexNumbers.j1])
                | succ kj44 =>
                  have H := HA.out
                  clear HA
                  simp only [payofflaw06_LexNumbers.j1] at H
                  by_cases c48 : x93_44 = true
                  · subst c48
                    have H1 : (none) = some r := by rw [if_pos rfl] at H; exact H
                    clear H
                    have H := H1
                    clear H1
                    exact absurd H (by simp)
                  · replace c48 := Bool.eq_false_iff.mpr c48
                    subst c48
                    have H1 : (if 0 ≤ (Go.bits .and .i64 a1 3) then (if (Go.bits .and .i64 a1 3) ≤ (wrap64 ((Go.bits .and .i64 a1 3) + 1)) then (if (wrap64 ((Go.bits .and .i64 a1 3) + 1)) ≤ 4 then (if t221.size + ((⟨#[100, 119, 109, 121]⟩ : ByteArray).extract ((Go.bits .and .i64 a1 3) : Int).toNat ((wrap64 ((Go.bits .and .i64 a1 3) + 1)) : Int).toNat).size ≤ 9223372036854775807 then ((lex_Scan.f kj44 (t221 ++ ((⟨#[100, 119, 109, 121]⟩ : ByteArray).extract ((Go.bits .and .i64 a1 3) : Int).toNat ((wrap64 ((Go.bits .and .i64 a1 3) + 1)) : Int).toNat))).bind fun bt236 => (if a0 < 1 then (if bt236.2.2 = 62 then (some ((bt236.1.length : Int) == 0)) else (none)) else (if a0 > 999 then (if bt236.2.2 = 62 then (some ((bt236.1.length : Int) == 0)) else (none)) else (if bt236.2.2 = 0 then (if (bt236.1.length : Int) = 1 then (if 0 < (bt236.1.length : Int) then (some (((rd_T32 bt236.1 0).f0) == 5 && ((((rd_T32 bt236.1 0).f1).toList) == ((t221 ++ ((⟨#[100, 119, 109, 121]⟩ : ByteArray).extract ((Go.bits .and .i64 a1 3) : Int).toNat ((wrap64 ((Go.bits .and .i64 a1 3) + 1)) : Int).toNat)).toList) && (((rd_T32 bt236.1 0).f2) == 0 && (((rd_T32 bt236.1 0).f3) == 0 && ((((rd_T32 bt236.1 0).f4.f0) == 0 && (((rd_T32 bt236.1 0).f4.f1) == 0 && (((rd_T32 bt236.1 0).f4.f2) == 0))) && ((((rd_T32 bt236.1 0).f5.f0) == a0 && (((rd_T32 bt236.1 0).f5.f1) == (wrap64 ((Go.bits .and .i64 a1 3) + 1))))))))))) else (none)) else (none)) else (none))))) else (none)) else (none)) else (none)) else (none)) = some r := by rw [if_neg (show ¬ (false = true) by decide)] at H; exact H
                    clear H
                    have H := H1
                    clear H1
                    by_cases c49 : 0 ≤ (Go.bits .and .i64 a1 3)
                    · rw [if_pos c49] at H
                      have c49b0 := eq_true c49
                      have c49b1 : decide (0 ≤ (Go.bits .and .i64 a1 3)) = true := decide_eq_true c49
                      clear c49
                      by_cases c50 : (Go.bits .and .i64 a1 3) ≤ (wrap64 ((Go.bits .and .i64 a1 3) + 1))
                      · rw [if_pos c50] at H
                        have c50b0 := eq_true c50
                        have c50b1 : decide ((Go.bits .and .i64 a1 3) ≤ (wrap64 ((Go.bits .and .i64 a1 3) + 1))) = true := decide_eq_true c50
                        by_cases c51 : (wrap64 ((Go.bits .and .i64 a1 3) + 1)) ≤ 4
                        · rw [if_pos c51] at H
                          have c51b0 := eq_true c51
                          have c51b1 : decide ((wrap64 ((Go.bits .and .i64 a1 3) + 1)) ≤ 4) = true := decide_eq_true c51
                          by_cases c52 : t221.size + ((⟨#[100, 119, 109, 121]⟩ : ByteArray).extract ((Go.bits .and .i64 a1 3) : Int).toNat ((wrap64 ((Go.bits .and .i64 a1 3) + 1)) : Int).toNat).size ≤ 9223372036854775807
                          · rw [if_pos c52] at H
                            have c52b0 := eq_true c52
                            have c52b1 : decide (t221.size + ((⟨#[100, 119, 109, 121]⟩ : ByteArray).extract ((Go.bits .and .i64 a1 3) : Int).toNat ((wrap64 ((Go.bits .and .i64 a1 3) + 1)) : Int).toNat).size ≤ 9223372036854775807) = true := decide_eq_true c52
                            try have c52b2 : (9223372036854775807 < t221.size + ((⟨#[100, 119, 109, 121]⟩ : ByteArray).extract ((Go.bits .and .i64 a1 3) : Int).toNat ((wrap64 ((Go.bits .and .i64 a1 3) + 1)) : Int).toNat).size) = False := eq_false (Nat.not_lt.2 c52)
                            replace H := Option.bind_eq_some_iff.mp H
                            obtain ⟨⟨t236, t237, t238⟩, A530, H⟩ := H
                            replace H : (if a0 < 1 then (if t238 = 62 then (some ((t236.length : Int) == 0)) else (none)) else (if a0 > 999 then (if t238 = 62 then (some ((t236.length : Int) == 0)) else (none)) else (if t238 = 0 then (if (t236.length : Int) = 1 then (if 0 < (t236.length : Int) then (some (((rd_T32 t236 0).f0) == 5 && ((((rd_T32 t236 0).f1).toList) == ((t221 ++ ((⟨#[100, 119, 109, 121]⟩ : ByteArray).extract ((Go.bits .and .i64 a1 3) : Int).toNat ((wrap64 ((Go.bits .and .i64 a1 3) + 1)) : Int).toNat)).toList) && (((rd_T32 t236 0).f2) == 0 && (((rd_T32 t236 0).f3) == 0 && ((((rd_T32 t236 0).f4.f0) == 0 && (((rd_T32 t236 0).f4.f1) == 0 && (((rd_T32 t236 0).f4.f2) == 0))) && ((((rd_T32 t236 0).f5.f0) == a0 && (((rd_T32 t236 0).f5.f1) == (wrap64 ((Go.bits .and .i64 a1 3) + 1))))))))))) else (none)) else (none)) else (none)))) = some r := H
                            have A53 := Aside0.mk A530
                            clear A530
                            by_cases c54 : a0 < 1
                            · rw [if_pos c54] at H
                              have c54b0 : decide (a0 < 1) = true := decide_eq_true c54
                              clear c54
                              by_cases c55 : t238 = 62
                              · rw [if_pos c55] at H
                                have c55b0 : (t238 == 62) = true := beq_iff_eq.mpr c55
                                have c55b1 : (t238 != 62) = false := bne_eq_false_iff_eq.mpr c55
                                clear c55
                                obtain rfl := Option.some.inj H
                                go_wp2_with (first | (go_at_call 10; (with_reducible refine (lex_Scan.calls kj44 (t221 ++ ((⟨#[100, 119, 109, 121]⟩ : ByteArray).extract ((Go.bits .and .i64 a1 3) : Int).toNat ((wrap64 ((Go.bits .and .i64 a1 3) + 1)) : Int).toNat)) t236 t237 t238 _ A53.out (Pure.Gl.below HG.out (by repeat (first | (with_reducible first | exact HB.out | apply below_alloc | apply pw_below_drewN | apply below_drew1 | (refine below_set ?_ (by first | exact trivial )) ) | exact HB.out)))).mono ?_); rintro e w56 ⟨v239, rfl, ho0, hb⟩; have n0_ := Aside0.mk (Kd.R_lower ho0 (below_size (by repeat (first | (with_reducible first | exact HB.out | apply below_alloc | apply pw_below_drewN | apply below_drew1) | exact HB.out)))); have n1_ := Aside0.mk (below_step (by repeat (first | (with_reducible first | exact HB.out | apply below_alloc | apply pw_below_drewN | apply below_drew1) | exact HB.out)) hb); clear HB; have HO240 := n0_; have HB := n1_; clear n0_ n1_; (try clear hb); (try clear hb2); (try clear hk); (try clear hi); (try clear ho0); obtain ⟨Ao57, co57, eo57⟩ := Kd.R_slice HO240.out; subst eo57))
                                repeat (go_quiet (first | (go_at_call 10; (with_reducible refine (lex_Scan.calls kj44 (t221 ++ ((⟨#[100, 119, 109, 121]⟩ : ByteArray).extract ((Go.bits .and .i64 a1 3) : Int).toNat ((wrap64 ((Go.bits .and .i64 a1 3) + 1)) : Int).toNat)) t236 t237 t238 _ A53.out (Pure.Gl.below HG.out (by repeat (first | (with_reducible first | exact HB.out | apply below_alloc | apply pw_below_drewN | apply below_drew1 | (refine below_set ?_ (by first | exact trivial )) ) | exact HB.out)))).mono ?_); rintro e w56 ⟨v239, rfl, ho0, hb⟩; have n0_ := Aside0.mk (Kd.R_lower ho0 (below_size (by repeat (first | (with_reducible first | exact HB.out | apply below_alloc | apply pw_below_drewN | apply below_drew1) | exact HB.out)))); have n1_ := Aside0.mk (below_step (by repeat (first | (with_reducible first | exact HB.out | apply below_alloc | apply pw_below_drewN | apply below_drew1) | exact HB.out)) hb); clear HB; have HO240 := n0_; have HB := n1_; clear n0_ n1_; (try clear hb); (try clear hb2); (try clear hk); (try clear hi); (try clear ho0); obtain ⟨Ao57, co57, eo57⟩ := Kd.R_slice HO240.out; subst eo57)); try go_wp2_with (first | (go_at_call 10; (with_reducible refine (lex_Scan.calls kj44 (t221 ++ ((⟨#[100, 119, 109, 121]⟩ : ByteArray).extract ((Go.bits .and .i64 a1 3) : Int).toNat ((wrap64 ((Go.bits .and .i64 a1 3) + 1)) : Int).toNat)) t236 t237 t238 _ A53.out (Pure.Gl.below HG.out (by repeat (first | (with_reducible first | exact HB.out | apply below_alloc | apply pw_below_drewN | apply below_drew1 | (refine below_set ?_ (by first | exact trivial )) ) | exact HB.out)))).mono ?_); rintro e w56 ⟨v239, rfl, ho0, hb⟩; have n0_ := Aside0.mk (Kd.R_lower ho0 (below_size (by repeat (first | (with_reducible first | exact HB.out | apply below_alloc | apply pw_below_drewN | apply below_drew1) | exact HB.out)))); have n1_ := Aside0.mk (below_step (by repeat (first | (with_reducible first | exact HB.out | apply below_alloc | apply pw_below_drewN | apply below_drew1) | exact HB.out)) hb); clear HB; have HO240 := n0_; have HB := n1_; clear n0_ n1_; (try clear hb); (try clear hb2); (try clear hk); (try clear hi); (try clear ho0); obtain ⟨Ao57, co57, eo57⟩ := Kd.R_slice HO240.out; subst eo57)))
                                go_ret
                                exact ⟨by first | rfl | (simp [errW_none, errW_some] <;> rfl) | (simp [*, errW_none, errW_some] <;> rfl), by repeat (first | (with_reducible first | exact HB.out | apply below_alloc | apply pw_below_drewN | apply below_drew1) | exact HB.out)⟩
                              · rw [if_neg c55] at H
                                have c55b0 : (t238 == 62) = false := beq_eq_false_iff_ne.mpr c55
                                have c55b1 : (t238 != 62) = true := bne_iff_ne.mpr c55
                                exact absurd H (by simp)
                            · rw [if_neg c54] at H
                              have c54b0 : decide (a0 < 1) = false := decide_eq_false c54
                              clear c54
                              by_cases c59 : a0 > 999
                              · rw [if_pos c59] at H
                                have c59b0 : decide (999 < a0) = true := decide_eq_true c59
                                clear c59
                                by_cases c60 : t238 = 62
                                · rw [if_pos c60] at H
                                  have c60b0 : (t238 == 62) = true := beq_iff_eq.mpr c60
                                  have c60b1 : (t238 != 62) = false := bne_eq_false_iff_eq.mpr c60
                                  clear c60
                                  obtain rfl := Option.some.inj H
                                  go_wp2_with (first | (go_at_call 10; (with_reducible refine (lex_Scan.calls kj44 (t221 ++ ((⟨#[100, 119, 109, 121]⟩ : ByteArray).extract ((Go.bits .and .i64 a1 3) : Int).toNat ((wrap64 ((Go.bits .and .i64 a1 3) + 1)) : Int).toNat)) t236 t237 t238 _ A53.out (Pure.Gl.below HG.out (by repeat (first | (with_reducible first | exact HB.out | apply below_alloc | apply pw_below_drewN | apply below_drew1 | (refine below_set ?_ (by first | exact trivial )) ) | exact HB.out)))).mono ?_); rintro e w61 ⟨v239, rfl, ho0, hb⟩; have n0_ := Aside0.mk (Kd.R_lower ho0 (below_size (by repeat (first | (with_reducible first | exact HB.out | apply below_alloc | apply pw_below_drewN | apply below_drew1) | exact HB.out)))); have n1_ := Aside0.mk (below_step (by repeat (first | (with_reducible first | exact HB.out | apply below_alloc | apply pw_below_drewN | apply below_drew1) | exact HB.out)) hb); clear HB; have HO240 := n0_; have HB := n1_; clear n0_ n1_; (try clear hb); (try clear hb2); (try clear hk); (try clear hi); (try clear ho0); obtain ⟨Ao62, co62, eo62⟩ := Kd.R_slice HO240.out; subst eo62))
                                  repeat (go_quiet (first | (go_at_call 10; (with_reducible refine (lex_Scan.calls kj44 (t221 ++ ((⟨#[100, 119, 109, 121]⟩ : ByteArray).extract ((Go.bits .and .i64 a1 3) : Int).toNat ((wrap64 ((Go.bits .and .i64 a1 3) + 1)) : Int).toNat)) t236 t237 t238 _ A53.out (Pure.Gl.below HG.out (by repeat (first | (with_reducible first | exact HB.out | apply below_alloc | apply pw_below_drewN | apply below_drew1 | (refine below_set ?_ (by first | exact trivial )) ) | exact HB.out)))).mono ?_); rintro e w61 ⟨v239, rfl, ho0, hb⟩; have n0_ := Aside0.mk (Kd.R_lower ho0 (below_size (by repeat (first | (with_reducible first | exact HB.out | apply below_alloc | apply pw_below_drewN | apply below_drew1) | exact HB.out)))); have n1_ := Aside0.mk (below_step (by repeat (first | (with_reducible first | exact HB.out | apply below_alloc | apply pw_below_drewN | apply below_drew1) | exact HB.out)) hb); clear HB; have HO240 := n0_; have HB := n1_; clear n0_ n1_; (try clear hb); (try clear hb2); (try clear hk); (try clear hi); (try clear ho0); obtain ⟨Ao62, co62, eo62⟩ := Kd.R_slice HO240.out; subst eo62)); try go_wp2_with (first | (go_at_call 10; (with_reducible refine (lex_Scan.calls kj44 (t221 ++ ((⟨#[100, 119, 109, 121]⟩ : ByteArray).extract ((Go.bits .and .i64 a1 3) : Int).toNat ((wrap64 ((Go.bits .and .i64 a1 3) + 1)) : Int).toNat)) t236 t237 t238 _ A53.out (Pure.Gl.below HG.out (by repeat (first | (with_reducible first | exact HB.out | apply below_alloc | apply pw_below_drewN | apply below_drew1 | (refine below_set ?_ (by first | exact trivial )) ) | exact HB.out)))).mono ?_); rintro e w61 ⟨v239, rfl, ho0, hb⟩; have n0_ := Aside0.mk (Kd.R_lower ho0 (below_size (by repeat (first | (with_reducible first | exact HB.out | apply below_alloc | apply pw_below_drewN | apply below_drew1) | exact HB.out)))); have n1_ := Aside0.mk (below_step (by repeat (first | (with_reducible first | exact HB.out | apply below_alloc | apply pw_below_drewN | apply below_drew1) | exact HB.out)) hb); clear HB; have HO240 := n0_; have HB := n1_; clear n0_ n1_; (try clear hb); (try clear hb2); (try clear hk); (try clear hi); (try clear ho0); obtain ⟨Ao62, co62, eo62⟩ := Kd.R_slice HO240.out; subst eo62)))
                                  go_ret
                                  exact ⟨by first | rfl | (simp [errW_none, errW_some] <;> rfl) | (simp [*, errW_none, errW_some] <;> rfl), by repeat (first | (with_reducible first | exact HB.out | apply below_alloc | apply pw_below_drewN | apply below_drew1) | exact HB.out)⟩
                                · rw [if_neg c60] at H
                                  have c60b0 : (t238 == 62) = false := beq_eq_false_iff_ne.mpr c60
                                  have c60b1 : (t238 != 62) = true := bne_iff_ne.mpr c60
                                  exact absurd H (by simp)
                              · rw [if_neg c59] at H
                                have c59b0 : decide (999 < a0) = false := decide_eq_false c59
                                clear c59
                                by_cases c64 : t238 = 0
                                · rw [if_pos c64] at H
                                  have c64b0 : (t238 == 0) = true := beq_iff_eq.mpr c64
                                  have c64b1 : (t238 != 0) = false := bne_eq_false_iff_eq.mpr c64
                                  clear c64
                                  by_cases c65 : (t236.length : Int) = 1
                                  · rw [if_pos c65] at H
                                    have c65b0 : ((t236.length : Int) == 1) = true := beq_iff_eq.mpr c65
                                    have c65b1 : ((t236.length : Int) != 1) = false := bne_eq_false_iff_eq.mpr c65
                                    clear c65
                                    by_cases c66 : 0 < (t236.length : Int)
                                    · rw [if_pos c66] at H
                                      have c66b0 : decide (0 < (t236.length : Int)) = true := decide_eq_true c66
                                      have c66b1 : decide (0 < t236.length) = true := decide_eq_true (by omega)
                                      have c66b9 : (0 < t236.length) = True := eq_true (by omega)
                                      clear c66
                                      obtain rfl := Option.some.inj H
                                      go_wp2_with (first | (go_at_call 10; (with_reducible refine (lex_Scan.calls kj44 (t221 ++ ((⟨#[100, 119, 109, 121]⟩ : ByteArray).extract ((Go.bits .and .i64 a1 3) : Int).toNat ((wrap64 ((Go.bits .and .i64 a1 3) + 1)) : Int).toNat)) t236 t237 t238 _ A53.out (Pure.Gl.below HG.out (by repeat (first | (with_reducible first | exact HB.out | apply below_alloc | apply pw_below_drewN | apply below_drew1 | (refine below_set ?_ (by first | exact trivial )) ) | exact HB.out)))).mono ?_); rintro e w67 ⟨v239, rfl, ho0, hb⟩; have n0_ := Aside0.mk (Kd.R_lower ho0 (below_size (by repeat (first | (with_reducible first | exact HB.out | apply below_alloc | apply pw_below_drewN | apply below_drew1) | exact HB.out)))); have n1_ := Aside0.mk (below_step (by repeat (first | (with_reducible first | exact HB.out | apply below_alloc | apply pw_below_drewN | apply below_drew1) | exact HB.out)) hb); clear HB; have HO240 := n0_; have HB := n1_; clear n0_ n1_; (try clear hb); (try clear hb2); (try clear hk); (try clear hi); (try clear ho0); obtain ⟨Ao68, co68, eo68⟩ := Kd.R_slice HO240.out; subst eo68; have p241 : 0 ≤ (0 : Int) := (by omega); have q241 : 0 < (t236.length : Int) := of_decide_eq_true (by first | (with_reducible assumption) | assumption); obtain ⟨ad241, e241, hx241_0, hx241_1, hx241_2, hx241_3, hx241_4, hx241_5, hx241_6, hx241_7, hx241_8⟩ := at_T32 (Kd.R_reads' HO240.out).2.2 0 p241 q241; cases e241; have qi241 : (0 < t236.length) = True := eq_true (by omega); (try rw [show ((0 : Int)).toNat = 0 from rfl] at hx241_0); (try rw [show 0 * 9 = 0 from rfl] at hx241_0); (try rw [Addr.add_zero'] at hx241_0); (try rw [show ((0 : Int)).toNat = 0 from rfl] at hx241_1); (try rw [show 0 * 9 = 0 from rfl] at hx241_1); (try rw [Addr.add_zero'] at hx241_1); (try rw [show ((0 : Int)).toNat = 0 from rfl] at hx241_2); (try rw [show 0 * 9 = 0 from rfl] at hx241_2); (try rw [Addr.add_zero'] at hx241_2); (try rw [show ((0 : Int)).toNat = 0 from rfl] at hx241_3); (try rw [show 0 * 9 = 0 from rfl] at hx241_3); (try rw [Addr.add_zero'] at hx241_3); (try rw [show ((0 : Int)).toNat = 0 from rfl] at hx241_4); (try rw [show 0 * 9 = 0 from rfl] at hx241_4); (try rw [Addr.add_zero'] at hx241_4); (try rw [show ((0 : Int)).toNat = 0 from rfl] at hx241_5); (try rw [show 0 * 9 = 0 from rfl] at hx241_5); (try rw [Addr.add_zero'] at hx241_5); (try rw [show ((0 : Int)).toNat = 0 from rfl] at hx241_6); (try rw [show 0 * 9 = 0 from rfl] at hx241_6); (try rw [Addr.add_zero'] at hx241_6); (try rw [show ((0 : Int)).toNat = 0 from rfl] at hx241_7); (try rw [show 0 * 9 = 0 from rfl] at hx241_7); (try rw [Addr.add_zero'] at hx241_7); (try rw [show ((0 : Int)).toNat = 0 from rfl] at hx241_8); (try rw [show 0 * 9 = 0 from rfl] at hx241_8); (try rw [Addr.add_zero'] at hx241_8); replace p241 := eq_true p241; replace q241 := eq_true q241))
                                      repeat (go_quiet (first | (go_at_call 10; (with_reducible refine (lex_Scan.calls kj44 (t221 ++ ((⟨#[100, 119, 109, 121]⟩ : ByteArray).extract ((Go.bits .and .i64 a1 3) : Int).toNat ((wrap64 ((Go.bits .and .i64 a1 3) + 1)) : Int).toNat)) t236 t237 t238 _ A53.out (Pure.Gl.below HG.out (by repeat (first | (with_reducible first | exact HB.out | apply below_alloc | apply pw_below_drewN | apply below_drew1 | (refine below_set ?_ (by first | exact trivial )) ) | exact HB.out)))).mono ?_); rintro e w67 ⟨v239, rfl, ho0, hb⟩; have n0_ := Aside0.mk (Kd.R_lower ho0 (below_size (by repeat (first | (with_reducible first | exact HB.out | apply below_alloc | apply pw_below_drewN | apply below_drew1) | exact HB.out)))); have n1_ := Aside0.mk (below_step (by repeat (first | (with_reducible first | exact HB.out | apply below_alloc | apply pw_below_drewN | apply below_drew1) | exact HB.out)) hb); clear HB; have HO240 := n0_; have HB := n1_; clear n0_ n1_; (try clear hb); (try clear hb2); (try clear hk); (try clear hi); (try clear ho0); obtain ⟨Ao68, co68, eo68⟩ := Kd.R_slice HO240.out; subst eo68; have p241 : 0 ≤ (0 : Int) := (by omega); have q241 : 0 < (t236.length : Int) := of_decide_eq_true (by first | (with_reducible assumption) | assumption); obtain ⟨ad241, e241, hx241_0, hx241_1, hx241_2, hx241_3, hx241_4, hx241_5, hx241_6, hx241_7, hx241_8⟩ := at_T32 (Kd.R_reads' HO240.out).2.2 0 p241 q241; cases e241; have qi241 : (0 < t236.length) = True := eq_true (by omega); (try rw [show ((0 : Int)).toNat = 0 from rfl] at hx241_0); (try rw [show 0 * 9 = 0 from rfl] at hx241_0); (try rw [Addr.add_zero'] at hx241_0); (try rw [show ((0 : Int)).toNat = 0 from rfl] at hx241_1); (try rw [show 0 * 9 = 0 from rfl] at hx241_1); (try rw [Addr.add_zero'] at hx241_1); (try rw [show ((0 : Int)).toNat = 0 from rfl] at hx241_2); (try rw [show 0 * 9 = 0 from rfl] at hx241_2); (try rw [Addr.add_zero'] at hx241_2); (try rw [show ((0 : Int)).toNat = 0 from rfl] at hx241_3); (try rw [show 0 * 9 = 0 from rfl] at hx241_3); (try rw [Addr.add_zero'] at hx241_3); (try rw [show ((0 : Int)).toNat = 0 from rfl] at hx241_4); (try rw [show 0 * 9 = 0 from rfl] at hx241_4); (try rw [Addr.add_zero'] at hx241_4); (try rw [show ((0 : Int)).toNat = 0 from rfl] at hx241_5); (try rw [show 0 * 9 = 0 from rfl] at hx241_5); (try rw [Addr.add_zero'] at hx241_5); (try rw [show ((0 : Int)).toNat = 0 from rfl] at hx241_6); (try rw [show 0 * 9 = 0 from rfl] at hx241_6); (try rw [Addr.add_zero'] at hx241_6); (try rw [show ((0 : Int)).toNat = 0 from rfl] at hx241_7); (try rw [show 0 * 9 = 0 from rfl] at hx241_7); (try rw [Addr.add_zero'] at hx241_7); (try rw [show ((0 : Int)).toNat = 0 from rfl] at hx241_8); (try rw [show 0 * 9 = 0 from rfl] at hx241_8); (try rw [Addr.add_zero'] at hx241_8); replace p241 := eq_true p241; replace q241 := eq_true q241)); try go_wp2_with (first | (go_at_call 10; (with_reducible refine (lex_Scan.calls kj44 (t221 ++ ((⟨#[100, 119, 109, 121]⟩ : ByteArray).extract ((Go.bits .and .i64 a1 3) : Int).toNat ((wrap64 ((Go.bits .and .i64 a1 3) + 1)) : Int).toNat)) t236 t237 t238 _ A53.out (Pure.Gl.below HG.out (by repeat (first | (with_reducible first | exact HB.out | apply below_alloc | apply pw_below_drewN | apply below_drew1 | (refine below_set ?_ (by first | exact trivial )) ) | exact HB.out)))).mono ?_); rintro e w67 ⟨v239, rfl, ho0, hb⟩; have n0_ := Aside0.mk (Kd.R_lower ho0 (below_size (by repeat (first | (with_reducible first | exact HB.out | apply below_alloc | apply pw_below_drewN | apply below_drew1) | exact HB.out)))); have n1_ := Aside0.mk (below_step (by repeat (first | (with_reducible first | exact HB.out | apply below_alloc | apply pw_below_drewN | apply below_drew1) | exact HB.out)) hb); clear HB; have HO240 := n0_; have HB := n1_; clear n0_ n1_; (try clear hb); (try clear hb2); (try clear hk); (try clear hi); (try clear ho0); obtain ⟨Ao68, co68, eo68⟩ := Kd.R_slice HO240.out; subst eo68; have p241 : 0 ≤ (0 : Int) := (by omega); have q241 : 0 < (t236.length : Int) := of_decide_eq_true (by first | (with_reducible assumption) | assumption); obtain ⟨ad241, e241, hx241_0, hx241_1, hx241_2, hx241_3, hx241_4, hx241_5, hx241_6, hx241_7, hx241_8⟩ := at_T32 (Kd.R_reads' HO240.out).2.2 0 p241 q241; cases e241; have qi241 : (0 < t236.length) = True := eq_true (by omega); (try rw [show ((0 : Int)).toNat = 0 from rfl] at hx241_0); (try rw [show 0 * 9 = 0 from rfl] at hx241_0); (try rw [Addr.add_zero'] at hx241_0); (try rw [show ((0 : Int)).toNat = 0 from rfl] at hx241_1); (try rw [show 0 * 9 = 0 from rfl] at hx241_1); (try rw [Addr.add_zero'] at hx241_1); (try rw [show ((0 : Int)).toNat = 0 from rfl] at hx241_2); (try rw [show 0 * 9 = 0 from rfl] at hx241_2); (try rw [Addr.add_zero'] at hx241_2); (try rw [show ((0 : Int)).toNat = 0 from rfl] at hx241_3); (try rw [show 0 * 9 = 0 from rfl] at hx241_3); (try rw [Addr.add_zero'] at hx241_3); (try rw [show ((0 : Int)).toNat = 0 from rfl] at hx241_4); (try rw [show 0 * 9 = 0 from rfl] at hx241_4); (try rw [Addr.add_zero'] at hx241_4); (try rw [show ((0 : Int)).toNat = 0 from rfl] at hx241_5); (try rw [show 0 * 9 = 0 from rfl] at hx241_5); (try rw [Addr.add_zero'] at hx241_5); (try rw [show ((0 : Int)).toNat = 0 from rfl] at hx241_6); (try rw [show 0 * 9 = 0 from rfl] at hx241_6); (try rw [Addr.add_zero'] at hx241_6); (try rw [show ((0 : Int)).toNat = 0 from rfl] at hx241_7); (try rw [show 0 * 9 = 0 from rfl] at hx241_7); (try rw [Addr.add_zero'] at hx241_7); (try rw [show ((0 : Int)).toNat = 0 from rfl] at hx241_8); (try rw [show 0 * 9 = 0 from rfl] at hx241_8); (try rw [Addr.add_zero'] at hx241_8); replace p241 := eq_true p241; replace q241 := eq_true q241)))
                                      go_ret
                                      exact ⟨by first | rfl | (simp [errW_none, errW_some] <;> rfl) | (simp [*, errW_none, errW_some] <;> rfl), by repeat (first | (with_reducible first | exact HB.out | apply below_alloc | apply pw_below_drewN | apply below_drew1) | exact HB.out)⟩
                                    · rw [if_neg c66] at H
                                      exact absurd H (by simp)
                                  · rw [if_neg c65] at H
                                    have c65b0 : ((t236.length : Int) == 1) = false := beq_eq_false_iff_ne.mpr c65
                                    have c65b1 : ((t236.length : Int) != 1) = true := bne_iff_ne.mpr c65
                                    exact absurd H (by simp)
                                · rw [if_neg c64] at H
                                  have c64b0 : (t238 == 0) = false := beq_eq_false_iff_ne.mpr c64
                                  have c64b1 : (t238 != 0) = true := bne_iff_ne.mpr c64
                                  exact absurd H (by simp)
                          · rw [if_neg c52] at H
                            exact absurd H (by simp)
                        · rw [if_neg c51] at H
                          exact absurd H (by simp)
                      · rw [if_neg c50] at H
                        exact absurd H (by simp)
                    · rw [if_neg c49] at H
                      exact absurd H (by simp)
            · rw [if_neg c43] at H
              exact absurd H (by simp)
  · rw [if_neg c5] at H
    have c5b0 : (t222 == 0) = false := beq_eq_false_iff_ne.mpr c5
    have c5b1 : (t222 != 0) = true := bne_iff_ne.mpr c5
    exact absurd H (by simp)end Go.Proofs.YtkfdninngcakpaaDoor.PLex
