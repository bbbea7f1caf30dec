/- Own text: functions of law CodeEncodes, after the text that the kit's printer writes, with this session's contracts for those that read the table. -/
import Derived.Test.YtknlcpojglhbnaaDoorGl
import Derived.Test.YtknlcpojglhbnaaDoorGt
import Derived.Test.YtknlcpojglhbnaaDoorTable
import Derived.Deep.DeepMust
import Derived.Outline
import Derived.Deep.RegionWith
import Derived.Test.YtknlcpojglhbnaaDoorQCodeEncodesx0
import Derived.Test.YtknlcpojglhbnaaDoorQCodeEncodesx1
import Derived.Test.YtknlcpojglhbnaaDoorQCodeEncodesx2
import Derived.Test.YtknlcpojglhbnaaDoorQCodeEncodesx3
import Derived.Test.YtknlcpojglhbnaaDoorQCodeEncodesxa
namespace Go.Proofs.YtknlcpojglhbnaaDoor.PCodeEncodes
open Go.RowKit Go.Proofs.YtknlcpojglhbnaaDoorW.PrintWords Go.Proofs.YtknlcpojglhbnaaDoorW.PrintLast Go.Proofs.YtknlcpojglhbnaaDoorW.PrintMore
attribute [local go_sem] max2_int min2_int max_two min_two max_three min_three max_four min_four   -- for this text's walks alone
set_option linter.unusedVariables false
set_option linter.unusedSimpArgs false

attribute [local go_sem high] eqA27
/-! ### payofflaw11_CodeEncodes: function 7 -/
mutual
def payofflaw11_CodeEncodes.l0 : Nat → List (S27) → List (S27) → Int → Option (Bool)
  | 0, _, _, _ => none
  | k + 1, x0, x3, x4 => if x4 < (x3.length : Int) then (if 0 ≤ x4 then (payofflaw11_CodeEncodes.l0 k x0 (x3.set (x4 : Int).toNat (⟨77, 0, 0⟩ : S27)) (wrap64 (x4 + 1))) else (none)) else (if 0 ≤ (x0.length : Int) then (if (x0.length : Int) ≤ (x3.length : Int) then ((code_Encode.f k (x3.take ((x0.length : Int) : Int).toNat)).bind fun bt189 => ((code_Encode.f k (([(⟨12, 0, 0⟩ : S27), (⟨0, 0, 0⟩ : S27)] : List (S27)))).bind fun bt196 => ((code_Encode.f k (x3.take ((x0.length : Int) : Int).toNat)).bind fun bt204 => ((payoffref11_Encode.f k x0).bind fun bt208 => ((payoffref11_Encode.f k (([(⟨12, 0, 0⟩ : S27), (⟨0, 0, 0⟩ : S27)] : List (S27)))).bind fun bt215 => (if bt189.2 = bt208.2 then ((payofflaw11_sameBytes.f k bt189.1 bt208.1).bind fun t219 => (if t219 = true then ((payofflaw11_sameBytes.f k bt204.1 bt208.1).bind fun t220 => (if t220 = true then ((payofflaw11_sameBytes.f k bt196.1 bt215.1).bind fun t221 => (if t221 = true then ((payofflaw11_sameCode.f k (x3.take ((x0.length : Int) : Int).toNat) x0).bind fun t226 => (payofflaw11_CodeEncodes.j1 k x0 x3 bt189.1 bt196.1 bt204.1 bt208.1 bt208.2 bt215.1 (!t226))) else (payofflaw11_CodeEncodes.j1 k x0 x3 bt189.1 bt196.1 bt204.1 bt208.1 bt208.2 bt215.1 true))) else (payofflaw11_CodeEncodes.j1 k x0 x3 bt189.1 bt196.1 bt204.1 bt208.1 bt208.2 bt215.1 true))) else (payofflaw11_CodeEncodes.j1 k x0 x3 bt189.1 bt196.1 bt204.1 bt208.1 bt208.2 bt215.1 true))) else (payofflaw11_CodeEncodes.j1 k x0 x3 bt189.1 bt196.1 bt204.1 bt208.1 bt208.2 bt215.1 true))))))) else (none)) else (none))
def payofflaw11_CodeEncodes.j1 : Nat → List (S27) → List (S27) → List Int → List Int → List Int → List Int → Int → List Int → Bool → Option (Bool)
  | 0, _, _, _, _, _, _, _, _, _ => none
  | k + 1, x0, x3, x5, x7, x9, x11, x12, x13, x109 => if x109 = true then (none) else (payofflaw11_CodeEncodes.l1 k x0 x3 x5 x7 x9 x11 x12 x13 (x0.length : Int))
def payofflaw11_CodeEncodes.l1 : Nat → List (S27) → List (S27) → List Int → List Int → List Int → List Int → Int → List Int → Int → Option (Bool)
  | 0, _, _, _, _, _, _, _, _, _ => none
  | k + 1, x0, x3, x5, x7, x9, x11, x12, x13, x15 => if x15 < (x3.length : Int) then (if 0 ≤ x15 then (if (!(((rd_T27 x3 x15).f0) == 77) || (!(((rd_T27 x3 x15).f1) == 0) || (!(((rd_T27 x3 x15).f2) == 0)))) = true then (none) else (payofflaw11_CodeEncodes.l1 k x0 x3 x5 x7 x9 x11 x12 x13 (wrap64 (x15 + 1)))) else (none)) else (payofflaw11_CodeEncodes.l2 k x0 x3 x5 x7 x9 x11 x12 x13 0)
def payofflaw11_CodeEncodes.l2 : Nat → List (S27) → List (S27) → List Int → List Int → List Int → List Int → Int → List Int → Int → Option (Bool)
  | 0, _, _, _, _, _, _, _, _, _ => none
  | k + 1, x0, x3, x5, x7, x9, x11, x12, x13, x16 => if x16 < (x5.length : Int) then (if 0 ≤ x16 then (payofflaw11_CodeEncodes.l2 k x0 x3 (x5.set (x16 : Int).toNat 238) x7 x9 x11 x12 x13 (wrap64 (x16 + 1))) else (none)) else ((some (([] : List Int) : List Int)).bind fun y229 => (if y229.length + x5.length < 140737488355328 then (payofflaw11_CodeEncodes.l3 k x0 x3 x5 x7 x9 x11 x12 x13 (y229 ++ x5) 0) else (none)))
def payofflaw11_CodeEncodes.l3 : Nat → List (S27) → List (S27) → List Int → List Int → List Int → List Int → Int → List Int → List Int → Int → Option (Bool)
  | 0, _, _, _, _, _, _, _, _, _, _ => none
  | k + 1, x0, x3, x5, x7, x9, x11, x12, x13, x17, x18 => if x18 < 70 then (if x17.length < 140737488355328 then (payofflaw11_CodeEncodes.l3 k x0 x3 x5 x7 x9 x11 x12 x13 (x17 ++ [239]) (wrap64 (x18 + 1))) else (none)) else (if 0 ≤ (x0.length : Int) then (if (x0.length : Int) ≤ (x3.length : Int) then ((code_Encode.f k (x3.take ((x0.length : Int) : Int).toNat)).bind fun bt242 => (payofflaw11_CodeEncodes.l4 k x0 x3 x5 x7 x9 x11 x12 x13 x17 bt242.1 bt242.2 0)) else (none)) else (none))
def payofflaw11_CodeEncodes.l4 : Nat → List (S27) → List (S27) → List Int → List Int → List Int → List Int → Int → List Int → List Int → List Int → Int → Int → Option (Bool)
  | 0, _, _, _, _, _, _, _, _, _, _, _, _ => none
  | k + 1, x0, x3, x5, x7, x9, x11, x12, x13, x17, x19, x20, x21 => if x21 < (x17.length : Int) then (if x21 < (x5.length : Int) then (if 0 ≤ x21 then (if (rd x5 x21) = 238 then (if (rd x17 x21) = 238 then (if x21 ≥ (x5.length : Int) then (if (rd x17 x21) = 239 then (payofflaw11_CodeEncodes.l4 k x0 x3 x5 x7 x9 x11 x12 x13 x17 x19 x20 (wrap64 (x21 + 1))) else (none)) else (payofflaw11_CodeEncodes.l4 k x0 x3 x5 x7 x9 x11 x12 x13 x17 x19 x20 (wrap64 (x21 + 1)))) else (none)) else (none)) else (none)) else (if x21 ≥ (x5.length : Int) then (if 0 ≤ x21 then (if (rd x17 x21) = 239 then (payofflaw11_CodeEncodes.l4 k x0 x3 x5 x7 x9 x11 x12 x13 x17 x19 x20 (wrap64 (x21 + 1))) else (none)) else (none)) else (payofflaw11_CodeEncodes.l4 k x0 x3 x5 x7 x9 x11 x12 x13 x17 x19 x20 (wrap64 (x21 + 1))))) else (if x20 = x12 then ((payofflaw11_sameBytes.f k x19 x11).bind fun t250 => (if t250 = true then ((payofflaw11_sameBytes.f k x9 x11).bind fun t251 => (if t251 = true then ((payofflaw11_sameBytes.f k x7 x13).bind fun t252 => (payofflaw11_CodeEncodes.j6 k x0 x3 x9 x11 (!t252))) else (payofflaw11_CodeEncodes.j6 k x0 x3 x9 x11 true))) else (payofflaw11_CodeEncodes.j6 k x0 x3 x9 x11 true))) else (payofflaw11_CodeEncodes.j6 k x0 x3 x9 x11 true))
def payofflaw11_CodeEncodes.j6 : Nat → List (S27) → List (S27) → List Int → List Int → Bool → Option (Bool)
  | 0, _, _, _, _, _ => none
  | k + 1, x0, x3, x9, x11, x206 => if x206 = true then (none) else ((some (([] : List (S27)) : List (S27))).bind fun y253 => (if y253.length + x0.length < 5864062014805 then (payofflaw11_CodeEncodes.l5 k x0 x3 x9 x11 (y253 ++ x0) 0) else (none)))
def payofflaw11_CodeEncodes.l5 : Nat → List (S27) → List (S27) → List Int → List Int → List (S27) → Int → Option (Bool)
  | 0, _, _, _, _, _, _ => none
  | k + 1, x0, x3, x9, x11, x22, x23 => if x23 < (x0.length : Int) then (if 0 ≤ (wrap64 ((wrap64 ((x0.length : Int) - 1)) - x23)) then (if (wrap64 ((wrap64 ((x0.length : Int) - 1)) - x23)) < (x0.length : Int) then (if 0 ≤ x23 then (if x23 < (x22.length : Int) then ((some (x22.set (x23 : Int).toNat (⟨(rd_T27 x0 (wrap64 ((wrap64 ((x0.length : Int) - 1)) - x23))).f0, (rd_T27 x0 (wrap64 ((wrap64 ((x0.length : Int) - 1)) - x23))).f1, (rd_T27 x0 (wrap64 ((wrap64 ((x0.length : Int) - 1)) - x23))).f2⟩ : S27) : List (S27))).bind fun y260 => (if x23 < (x3.length : Int) then (payofflaw11_CodeEncodes.l5 k x0 (x3.set (x23 : Int).toNat (⟨(rd_T27 y260 x23).f0, (rd_T27 y260 x23).f1, (rd_T27 y260 x23).f2⟩ : S27)) x9 x11 y260 (wrap64 (x23 + 1))) else (none))) else (none)) else (none)) else (none)) else (none)) else (if 0 ≤ (x0.length : Int) then (if (x0.length : Int) ≤ (x3.length : Int) then ((code_Encode.f k (x3.take ((x0.length : Int) : Int).toNat)).bind fun bt267 => ((payoffref11_Encode.f k x22).bind fun bt271 => (if bt267.2 = bt271.2 then ((payofflaw11_sameBytes.f k bt267.1 bt271.1).bind fun t275 => (if t275 = true then ((payofflaw11_sameBytes.f k x9 x11).bind fun t276 => (some t276)) else (none))) else (none)))) else (none)) else (none))
end
def payofflaw11_CodeEncodes.f (k : Nat) (l0 : List (S27)) : Option (Bool) := if 0 ≤ (wrap64 ((l0.length : Int) + 3)) then (if (wrap64 ((l0.length : Int) + 3) : Int).toNat ≤ 11728124029610 then (payofflaw11_CodeEncodes.l0 k l0 (l0 ++ (List.replicate (wrap64 ((l0.length : Int) + 3) : Int).toNat z27).drop l0.length) (l0.length : Int)) else (none)) else (none)
set_option maxHeartbeats 8000000 in
set_option maxRecDepth 100000 in
theorem payofflaw11_CodeEncodes.calls (k : Nat) (A0 : Option Addr) (c0 : Nat) (l0 : List (S27)) (r : Bool) (w : World) (hr0 : Kd.C k27 w A0 l0.length l0) (hc0 : l0.length ≤ c0) (h : payofflaw11_CodeEncodes.f k l0 = some r) (hG : Pure.G2 w) :
    Calls Tryd.prog 7 #[.slice A0 l0.length c0] w fun e w' => e = .returned (.bool r) ∧ Below w.heap.size w w' := by
  have HG := Aside0.mk hG
  clear hG
  have hu27 := Tryd.underlying27
  have HR0 := Aside0.mk hr0
  have HC0 := Aside0.mk hc0
  clear hr0 hc0
  have HB := Aside0.mk (Below.refl w.heap.size w)
  have H : (if 0 ≤ (wrap64 ((l0.length : Int) + 3)) then (if (wrap64 ((l0.length : Int) + 3) : Int).toNat ≤ 11728124029610 then (payofflaw11_CodeEncodes.l0 k l0 (l0 ++ (List.replicate (wrap64 ((l0.length : Int) + 3) : Int).toNat z27).drop l0.length) (l0.length : Int)) else (none)) else (none)) = some r := h
  clear h
  obtain ⟨ji2, hji2⟩ : ∃ j_ : Int, (wrap64 ((l0.length : Int) + 3)) = j_ := ⟨_, rfl⟩
  replace H : (if 0 ≤ (ji2) then (if (ji2 : Int).toNat ≤ 11728124029610 then (payofflaw11_CodeEncodes.l0 k l0 (l0 ++ (List.replicate (ji2 : Int).toNat z27).drop l0.length) (l0.length : Int)) else (none)) else (none)) = some r := by first | (rw [hji2] at H; exact H) | (simp only [hji2] at H ⊢; exact H)
  have hji2w : (IntKind.i64.wrap ((l0.length : Int) + 3)) = ji2 := (i64_w _).trans hji2
  by_cases c3 : 0 ≤ (ji2)
  · rw [if_pos c3] at H
    have c3b0 := eq_true c3
    have c3b1 : decide (0 ≤ (ji2)) = true := decide_eq_true c3
    clear c3
    by_cases c4 : (ji2 : Int).toNat ≤ 11728124029610
    · rw [if_pos c4] at H
      have c4b0 := eq_true c4
      have c4b1 : decide ((ji2 : Int).toNat ≤ 11728124029610) = true := decide_eq_true c4
      clear c4
      obtain ⟨y181, hy181⟩ : ∃ y_ : List (S27), y_ = (List.replicate (ji2 : Int).toNat z27) := ⟨_, rfl⟩
      replace H : (payofflaw11_CodeEncodes.l0 k l0 (l0 ++ y181.drop l0.length) (l0.length : Int)) = some r := by first | (rw [hy181]; with_reducible exact H) | (have H2_ := (Option.bind_some _ _).symm.trans H; rw [hy181]; with_reducible exact H2_) | (have H2_ := (Option.bind_some _ _).symm.trans H; with_reducible exact H2_) | with_reducible exact H | (rw [hy181]; exact H) | exact H
      have Ny181 := Aside0.mk hy181
      clear hy181
      have H' := Aside0.mk H
      clear H
      have HLE := Aside0.mk (show l0.length ≤ y181.length from by rw [Ny181.out, List.length_replicate]; exact le_make l0.length ji2 hji2 (of_eq_true c3b0) HR0.out.2.1)
      go_enter Tryd.func7, Tryd.ntmps7
      go_wp2_with (first | ((with_reducible refine gate_dst (N := 32) rfl ?_); go_must (refine R_copy27 (w0 := w) w.heap.size rfl _ _ 37 37 27 rfl Tryd.underlying37 (by kernel_rfl) v182 y181 l0 A0 l0.length c0 (fun _ => True) rfl rfl (by (with_reducible repeat (first | apply Kd.R_alloc | apply Kd.R_drewN | apply Kd.R_drew)); exact HO183.out) (Kd.C_below HR0.out (by repeat (first | (with_reducible first | exact HB.out | apply below_alloc | apply pw_below_drewN | apply below_drew1) | exact HB.out))) (by repeat (first | (with_reducible first | exact HB.out | apply below_alloc | apply pw_below_drewN | apply below_drew1) | exact HB.out)) (below_size (by repeat (first | (with_reducible first | exact HB.out | apply below_alloc | apply pw_below_drewN | apply below_drew1) | exact HB.out))) HLE.out ?_; intro w8 ho9 hb9 hg9; have n0_ := Aside0.mk ho9; have n1_ := Aside0.mk hb9; clear HO183 HB ho9 hb9 hg9; have HO183 := n0_; have HB := n1_; clear n0_ n1_)) | ((with_reducible refine gate_dst (N := 29) rfl ?_); (try (refine gate_guard (by rfl) ?_; dsimp only)); refine Kd.R_make k27 _ 27 rfl (N := 29) rfl 37 _ _ rfl ji2 rfl rfl Tryd.underlying37 (.agg #[(.int .i64 0), (.int .i64 0), (.int .i64 0)]) 24 info27 rfl (by decide) (by omega) z27 (ok := fun _ => True) (okp := fun _ => True) (k27_mkM _ _ _ z27 ) (fun _ hk => hk) trivial (of_decide_eq_true (by first | (with_reducible assumption) | assumption)) (Nat.le_trans (Nat.mul_le_mul_right _ (of_decide_eq_true (by first | (with_reducible assumption) | assumption) : ji2.toNat ≤ 11728124029610)) (by omega)) (Below.refl _ _) (Nat.le_refl _) ?_; intro v182 w5 ho6 hb hg_ hnew_; clear hg_ hnew_; (first | rw [← Ny181.out] at ho6 | (simp only [Int.reduceToNat] at ho6; rw [← Ny181.out] at ho6)); have n0_ := Aside0.mk (Kd.R_lower ho6 (below_size (by repeat (first | (with_reducible first | exact HB.out | apply below_alloc | apply pw_below_drewN | apply below_drew1) | exact HB.out)))); have n1_ := Aside0.mk (below_step (by repeat (first | (with_reducible first | exact HB.out | apply below_alloc | apply pw_below_drewN | apply below_drew1) | exact HB.out)) hb); clear HB; have HO183 := n0_; have HB := n1_; clear n0_ n1_; clear hb ho6))
      go_loopg [4] k (fun kq v4 w' => ∃ (x3_1 : List (S27)) (x4_1 : Int), v4 = .int .i64 x4_1 ∧ Aside0 (payofflaw11_CodeEncodes.l0 kq l0 x3_1 x4_1 = some r) ∧ Aside0 (kq ≤ k) ∧ Aside0 (Kd.R k27 27 w' w.heap.size (fun _ => True) v182 x3_1) ∧ Aside0 (Below w.heap.size w w'))
      case atStart => exact ⟨(l0 ++ y181.drop l0.length), ((l0.length : Int)), (by first | rfl | (simp; done) | (simp [*]; done)), H', ⟨Nat.le_refl _⟩, ⟨by (with_reducible repeat (first | apply Kd.R_alloc | apply Kd.R_drewN | apply Kd.R_drew)); exact HO183.out⟩, ⟨by repeat (first | (with_reducible first | exact HB.out | apply below_alloc | apply pw_below_drewN | apply below_drew1) | exact HB.out)⟩⟩
      case round =>
        clear H'
        try clear p2
        try clear c3
        try clear c3b0
        try clear c3b1
        try clear c4
        try clear c4b0
        try clear c4b1
        try clear p6
        obtain ⟨x3_1, x4_1, rfl, HA, HK1, HO_3, HB⟩ := hrel
        cases gk with
        | zero => exact absurd HA.out (by simp [payofflaw11_CodeEncodes.l0])
        | succ k1 =>
          have H := HA.out
          clear HA
          simp only [payofflaw11_CodeEncodes.l0] at H
          by_cases c7 : x4_1 < (x3_1.length : Int)
          · rw [if_pos c7] at H
            have c7b0 : decide (x4_1 < (x3_1.length : Int)) = true := decide_eq_true c7
            clear c7
            by_cases c8 : 0 ≤ x4_1
            · rw [if_pos c8] at H
              have c8b0 : decide (0 ≤ x4_1) = true := decide_eq_true c8
              clear c8
              obtain ⟨y184, hy184⟩ : ∃ y_ : List (S27), y_ = (x3_1.set (x4_1 : Int).toNat (⟨77, 0, 0⟩ : S27)) := ⟨_, rfl⟩
              replace H : (payofflaw11_CodeEncodes.l0 k1 l0 y184 (wrap64 (x4_1 + 1))) = some r := by first | (rw [hy184]; with_reducible exact H) | (have H2_ := (Option.bind_some _ _).symm.trans H; rw [hy184]; with_reducible exact H2_) | (have H2_ := (Option.bind_some _ _).symm.trans H; with_reducible exact H2_) | with_reducible exact H | (rw [hy184]; exact H) | exact H
              have Ny184 := Aside0.mk hy184
              clear hy184
              have H' := Aside0.mk H
              clear H
              obtain ⟨Ao10, co10, eo10⟩ := Kd.R_slice HO_3.out
              subst eo10
              have p9 : 0 ≤ (x4_1 : Int) := of_decide_eq_true (by first | (with_reducible assumption) | assumption)
              have q9 : (x4_1 : Int) < ((x3_1.length : Int) : Int) := of_decide_eq_true (by first | (with_reducible assumption) | assumption)
              obtain ⟨go9, co9, eo9, gb9, gl9, cl9, HG9⟩ := Kd.R_form HO_3.out (by omega)
              (first | cases eo9 | (injection eo9 with ea_ en_ ec_; (first | subst ea_ | (injection ea_ with ea_; subst ea_)); subst ec_; clear en_))
              have GB9 := Aside0.mk gb9
              have GG9 := Aside0.mk HG9
              clear gb9 gl9 HG9
              obtain ⟨ce9, hcl9, hM9, hcc9, hfr9⟩ := Kd.R_elem HO_3.out z27 (x4_1 : Int) p9 q9
              obtain rfl := k27_openM hM9
              have hx9_0 : wr.cell? ⟨go9, (x4_1 : Int).toNat * 3, none⟩ = some (.int .i64 ((rd_T27 x3_1 x4_1).f0)) := hcc9 0 _ rfl
              have hx9_1 : wr.cell? ⟨go9, (x4_1 : Int).toNat * 3 + 1, none⟩ = some (.int .i64 ((rd_T27 x3_1 x4_1).f1)) := hcc9 1 _ rfl
              have hx9_2 : wr.cell? ⟨go9, (x4_1 : Int).toNat * 3 + 2, none⟩ = some (.int .i64 ((rd_T27 x3_1 x4_1).f2)) := hcc9 2 _ rfl
              have hf9_0 : wr.frozen? ⟨go9, (x4_1 : Int).toNat * 3, none⟩ = false := hfr9 0
              have hf9_1 : wr.frozen? ⟨go9, (x4_1 : Int).toNat * 3 + 1, none⟩ = false := hfr9 1
              have hf9_2 : wr.frozen? ⟨go9, (x4_1 : Int).toNat * 3 + 2, none⟩ = false := hfr9 2
              clear hcl9 hcc9 hfr9 hM9
              replace p9 := eq_true p9
              replace q9 := eq_true q9
              have HX11 := Aside0.mk (show Kd.R k27 27 wr w.heap.size (fun _ => True) (.slice (some ⟨go9, 0, none⟩) x3_1.length co10) x3_1 from (by (with_reducible repeat (first | apply Kd.R_alloc | apply Kd.R_drewN | apply Kd.R_drew)); exact HO_3.out))
              obtain ⟨ce11, hcl11, hM11, hcc11, hfr11⟩ := Kd.R_elem HX11.out z27 (x4_1 : Int) (of_decide_eq_true (by first | (with_reducible assumption) | assumption)) (by have h_ : (x4_1 : Int) < ((x3_1.length : Int) : Int) := of_decide_eq_true (by first | (with_reducible assumption) | assumption); first | exact h_ | (have e_ := (Kd.R_reads' HO_3.out).1; omega) | simpa using h_)
              obtain rfl := k27_openM hM11
              have HP11 := Kd.R_seg HX11.out (x4_1 : Int) (of_decide_eq_true (by first | (with_reducible assumption) | assumption)) (by have h_ : (x4_1 : Int) < ((x3_1.length : Int) : Int) := of_decide_eq_true (by first | (with_reducible assumption) | assumption); first | exact h_ | (have e_ := (Kd.R_reads' HO_3.out).1; omega) | simpa using h_) (seg := [.int .i64 77, .int .i64 0, .int .i64 0]) (j := 0) hcl11 hcc11 (show 3 ≤ 3 from by decide) (x' := (⟨77, 0, 0⟩ : S27)) (k27_mkM _ _ _ (⟨77, 0, 0⟩ : S27) ) (fun _ hk => hk)
              have hx11_0 := hcc11 0 _ rfl
              (try simp only [show (k27).sz = 3 from rfl, Nat.mul_one, Nat.add_zero] at hx11_0)
              have hf11_0 := hfr11 0
              (try simp only [show (k27).sz = 3 from rfl, Nat.mul_one, Nat.add_zero] at hf11_0)
              have hx11_1 := hcc11 1 _ rfl
              (try simp only [show (k27).sz = 3 from rfl, Nat.mul_one, Nat.add_zero] at hx11_1)
              have hf11_1 := hfr11 1
              (try simp only [show (k27).sz = 3 from rfl, Nat.mul_one, Nat.add_zero] at hf11_1)
              have hx11_2 := hcc11 2 _ rfl
              (try simp only [show (k27).sz = 3 from rfl, Nat.mul_one, Nat.add_zero] at hx11_2)
              have hf11_2 := hfr11 2
              (try simp only [show (k27).sz = 3 from rfl, Nat.mul_one, Nat.add_zero] at hf11_2)
              clear hcl11 hcc11 hfr11 hM11
              go_wp2_with (first | ((with_reducible refine gate_store (t := 27) (p := 44) rfl ?_); refine store_event (t := 27) (p := 44) (v := ?vo_w12) (w1 := (((wr.setCell ⟨go9, (x4_1 : Int).toNat * 3, none⟩ (.int .i64 77)).setCell ⟨go9, (x4_1 : Int).toNat * 3 + 1, none⟩ (.int .i64 0)).setCell ⟨go9, (x4_1 : Int).toNat * 3 + 2, none⟩ (.int .i64 0))) ?hg ?ho ?hn ?hr ?_; (case ho => rfl); (case hg => rfl); (case hn => rfl); (case hr => first | (go_simp; done) | (go_simp; rfl)); intro w12 hw; have hg : wr.grownBy w12 (some go9) := (by rw [hw]; exact HP11.2); have hp_ : Kd.R k27 27 w12 w.heap.size (fun _ => True) (.slice (some ⟨go9, 0, none⟩) x3_1.length co10) y184 := (by rw [hw, Ny184.out]; exact HP11.1); clear HP11; have n0_ := Aside0.mk (hp_); have n1_ := Aside0.mk ((by rw [hw]; exact below_set (below_set (below_set (HB.out) GB9.out) GB9.out) GB9.out : Below w.heap.size w w12)); clear HO_3; clear HB; have HO_3 := n0_; have HB := n1_; clear n0_ n1_; clear hg hw hp_))
              go_roundg k1
              case measure => have := HK1.out; omega
              case rel => exact ⟨(y184), (wrap64 (x4_1 + 1)), (by first | rfl | (simp; done) | (simp [*]; done)), H', ⟨by have := HK1.out; omega⟩, ⟨by (with_reducible repeat (first | apply Kd.R_alloc | apply Kd.R_drewN | apply Kd.R_drew)); exact HO_3.out⟩, ⟨by repeat (first | (with_reducible first | exact HB.out | apply below_alloc | apply pw_below_drewN | apply below_drew1) | exact HB.out)⟩⟩
            · rw [if_neg c8] at H
              exact absurd H (by simp)
          · rw [if_neg c7] at H
            have c7b0 : decide (x4_1 < (x3_1.length : Int)) = false := decide_eq_false c7
            clear c7
            by_cases c13 : 0 ≤ (l0.length : Int)
            · rw [if_pos c13] at H
              have c13b0 := eq_true c13
              have c13b1 : decide (0 ≤ (l0.length : Int)) = true := decide_eq_true c13
              clear c13
              by_cases c14 : (l0.length : Int) ≤ (x3_1.length : Int)
              · rw [if_pos c14] at H
                have c14b0 := eq_true c14
                have c14b1 : decide ((l0.length : Int) ≤ (x3_1.length : Int)) = true := decide_eq_true c14
                clear c14
                obtain ⟨y185, hy185⟩ : ∃ y_ : List (S27), y_ = (x3_1.take ((l0.length : Int) : Int).toNat) := ⟨_, rfl⟩
                replace H : ((code_Encode.f k1 y185).bind fun bt189 => ((code_Encode.f k1 (([(⟨12, 0, 0⟩ : S27), (⟨0, 0, 0⟩ : S27)] : List (S27)))).bind fun bt196 => ((code_Encode.f k1 (x3_1.take ((l0.length : Int) : Int).toNat)).bind fun bt204 => ((payoffref11_Encode.f k1 l0).bind fun bt208 => ((payoffref11_Encode.f k1 (([(⟨12, 0, 0⟩ : S27), (⟨0, 0, 0⟩ : S27)] : List (S27)))).bind fun bt215 => (if bt189.2 = bt208.2 then ((payofflaw11_sameBytes.f k1 bt189.1 bt208.1).bind fun t219 => (if t219 = true then ((payofflaw11_sameBytes.f k1 bt204.1 bt208.1).bind fun t220 => (if t220 = true then ((payofflaw11_sameBytes.f k1 bt196.1 bt215.1).bind fun t221 => (if t221 = true then ((payofflaw11_sameCode.f k1 (x3_1.take ((l0.length : Int) : Int).toNat) l0).bind fun t226 => (payofflaw11_CodeEncodes.j1 k1 l0 x3_1 bt189.1 bt196.1 bt204.1 bt208.1 bt208.2 bt215.1 (!t226))) else (payofflaw11_CodeEncodes.j1 k1 l0 x3_1 bt189.1 bt196.1 bt204.1 bt208.1 bt208.2 bt215.1 true))) else (payofflaw11_CodeEncodes.j1 k1 l0 x3_1 bt189.1 bt196.1 bt204.1 bt208.1 bt208.2 bt215.1 true))) else (payofflaw11_CodeEncodes.j1 k1 l0 x3_1 bt189.1 bt196.1 bt204.1 bt208.1 bt208.2 bt215.1 true))) else (payofflaw11_CodeEncodes.j1 k1 l0 x3_1 bt189.1 bt196.1 bt204.1 bt208.1 bt208.2 bt215.1 true))))))) = some r := by first | (rw [hy185]; with_reducible exact H) | (have H2_ := (Option.bind_some _ _).symm.trans H; rw [hy185]; with_reducible exact H2_) | (have H2_ := (Option.bind_some _ _).symm.trans H; with_reducible exact H2_) | with_reducible exact H | (rw [hy185]; exact H) | exact H
                have Ny185 := Aside0.mk hy185
                clear hy185
                replace H := Option.bind_eq_some_iff.mp H
                obtain ⟨⟨t189, t190⟩, A150, H⟩ := H
                replace H : ((code_Encode.f k1 (([(⟨12, 0, 0⟩ : S27), (⟨0, 0, 0⟩ : S27)] : List (S27)))).bind fun bt196 => ((code_Encode.f k1 (x3_1.take ((l0.length : Int) : Int).toNat)).bind fun bt204 => ((payoffref11_Encode.f k1 l0).bind fun bt208 => ((payoffref11_Encode.f k1 (([(⟨12, 0, 0⟩ : S27), (⟨0, 0, 0⟩ : S27)] : List (S27)))).bind fun bt215 => (if t190 = bt208.2 then ((payofflaw11_sameBytes.f k1 t189 bt208.1).bind fun t219 => (if t219 = true then ((payofflaw11_sameBytes.f k1 bt204.1 bt208.1).bind fun t220 => (if t220 = true then ((payofflaw11_sameBytes.f k1 bt196.1 bt215.1).bind fun t221 => (if t221 = true then ((payofflaw11_sameCode.f k1 (x3_1.take ((l0.length : Int) : Int).toNat) l0).bind fun t226 => (payofflaw11_CodeEncodes.j1 k1 l0 x3_1 t189 bt196.1 bt204.1 bt208.1 bt208.2 bt215.1 (!t226))) else (payofflaw11_CodeEncodes.j1 k1 l0 x3_1 t189 bt196.1 bt204.1 bt208.1 bt208.2 bt215.1 true))) else (payofflaw11_CodeEncodes.j1 k1 l0 x3_1 t189 bt196.1 bt204.1 bt208.1 bt208.2 bt215.1 true))) else (payofflaw11_CodeEncodes.j1 k1 l0 x3_1 t189 bt196.1 bt204.1 bt208.1 bt208.2 bt215.1 true))) else (payofflaw11_CodeEncodes.j1 k1 l0 x3_1 t189 bt196.1 bt204.1 bt208.1 bt208.2 bt215.1 true)))))) = some r := H
                have A15 := Aside0.mk A150
                clear A150
                obtain ⟨y193, hy193⟩ : ∃ y_ : List (S27), y_ = (([(⟨12, 0, 0⟩ : S27), (⟨0, 0, 0⟩ : S27)] : List (S27))) := ⟨_, rfl⟩
                replace H : ((code_Encode.f k1 y193).bind fun bt196 => ((code_Encode.f k1 (x3_1.take ((l0.length : Int) : Int).toNat)).bind fun bt204 => ((payoffref11_Encode.f k1 l0).bind fun bt208 => ((payoffref11_Encode.f k1 (([(⟨12, 0, 0⟩ : S27), (⟨0, 0, 0⟩ : S27)] : List (S27)))).bind fun bt215 => (if t190 = bt208.2 then ((payofflaw11_sameBytes.f k1 t189 bt208.1).bind fun t219 => (if t219 = true then ((payofflaw11_sameBytes.f k1 bt204.1 bt208.1).bind fun t220 => (if t220 = true then ((payofflaw11_sameBytes.f k1 bt196.1 bt215.1).bind fun t221 => (if t221 = true then ((payofflaw11_sameCode.f k1 (x3_1.take ((l0.length : Int) : Int).toNat) l0).bind fun t226 => (payofflaw11_CodeEncodes.j1 k1 l0 x3_1 t189 bt196.1 bt204.1 bt208.1 bt208.2 bt215.1 (!t226))) else (payofflaw11_CodeEncodes.j1 k1 l0 x3_1 t189 bt196.1 bt204.1 bt208.1 bt208.2 bt215.1 true))) else (payofflaw11_CodeEncodes.j1 k1 l0 x3_1 t189 bt196.1 bt204.1 bt208.1 bt208.2 bt215.1 true))) else (payofflaw11_CodeEncodes.j1 k1 l0 x3_1 t189 bt196.1 bt204.1 bt208.1 bt208.2 bt215.1 true))) else (payofflaw11_CodeEncodes.j1 k1 l0 x3_1 t189 bt196.1 bt204.1 bt208.1 bt208.2 bt215.1 true)))))) = some r := by first | (rw [hy193]; with_reducible exact H) | (have H2_ := (Option.bind_some _ _).symm.trans H; rw [hy193]; with_reducible exact H2_) | (have H2_ := (Option.bind_some _ _).symm.trans H; with_reducible exact H2_) | with_reducible exact H | (rw [hy193]; exact H) | exact H
                have Ny193 := Aside0.mk hy193
                clear hy193
                replace H := Option.bind_eq_some_iff.mp H
                obtain ⟨⟨t196, t197⟩, A160, H⟩ := H
                replace H : ((code_Encode.f k1 (x3_1.take ((l0.length : Int) : Int).toNat)).bind fun bt204 => ((payoffref11_Encode.f k1 l0).bind fun bt208 => ((payoffref11_Encode.f k1 (([(⟨12, 0, 0⟩ : S27), (⟨0, 0, 0⟩ : S27)] : List (S27)))).bind fun bt215 => (if t190 = bt208.2 then ((payofflaw11_sameBytes.f k1 t189 bt208.1).bind fun t219 => (if t219 = true then ((payofflaw11_sameBytes.f k1 bt204.1 bt208.1).bind fun t220 => (if t220 = true then ((payofflaw11_sameBytes.f k1 t196 bt215.1).bind fun t221 => (if t221 = true then ((payofflaw11_sameCode.f k1 (x3_1.take ((l0.length : Int) : Int).toNat) l0).bind fun t226 => (payofflaw11_CodeEncodes.j1 k1 l0 x3_1 t189 t196 bt204.1 bt208.1 bt208.2 bt215.1 (!t226))) else (payofflaw11_CodeEncodes.j1 k1 l0 x3_1 t189 t196 bt204.1 bt208.1 bt208.2 bt215.1 true))) else (payofflaw11_CodeEncodes.j1 k1 l0 x3_1 t189 t196 bt204.1 bt208.1 bt208.2 bt215.1 true))) else (payofflaw11_CodeEncodes.j1 k1 l0 x3_1 t189 t196 bt204.1 bt208.1 bt208.2 bt215.1 true))) else (payofflaw11_CodeEncodes.j1 k1 l0 x3_1 t189 t196 bt204.1 bt208.1 bt208.2 bt215.1 true))))) = some r := H
                have A16 := Aside0.mk A160
                clear A160
                have c17b0 := eq_true (of_decide_eq_true (by first | (with_reducible assumption) | assumption) : 0 ≤ (l0.length : Int))
                have c18b0 := eq_true (of_decide_eq_true (by first | (with_reducible assumption) | assumption) : (l0.length : Int) ≤ (x3_1.length : Int))
                obtain ⟨y200, hy200⟩ : ∃ y_ : List (S27), y_ = (x3_1.take ((l0.length : Int) : Int).toNat) := ⟨_, rfl⟩
                replace H : ((code_Encode.f k1 y200).bind fun bt204 => ((payoffref11_Encode.f k1 l0).bind fun bt208 => ((payoffref11_Encode.f k1 (([(⟨12, 0, 0⟩ : S27), (⟨0, 0, 0⟩ : S27)] : List (S27)))).bind fun bt215 => (if t190 = bt208.2 then ((payofflaw11_sameBytes.f k1 t189 bt208.1).bind fun t219 => (if t219 = true then ((payofflaw11_sameBytes.f k1 bt204.1 bt208.1).bind fun t220 => (if t220 = true then ((payofflaw11_sameBytes.f k1 t196 bt215.1).bind fun t221 => (if t221 = true then ((payofflaw11_sameCode.f k1 (x3_1.take ((l0.length : Int) : Int).toNat) l0).bind fun t226 => (payofflaw11_CodeEncodes.j1 k1 l0 x3_1 t189 t196 bt204.1 bt208.1 bt208.2 bt215.1 (!t226))) else (payofflaw11_CodeEncodes.j1 k1 l0 x3_1 t189 t196 bt204.1 bt208.1 bt208.2 bt215.1 true))) else (payofflaw11_CodeEncodes.j1 k1 l0 x3_1 t189 t196 bt204.1 bt208.1 bt208.2 bt215.1 true))) else (payofflaw11_CodeEncodes.j1 k1 l0 x3_1 t189 t196 bt204.1 bt208.1 bt208.2 bt215.1 true))) else (payofflaw11_CodeEncodes.j1 k1 l0 x3_1 t189 t196 bt204.1 bt208.1 bt208.2 bt215.1 true))))) = some r := by first | (rw [hy200]; with_reducible exact H) | (have H2_ := (Option.bind_some _ _).symm.trans H; rw [hy200]; with_reducible exact H2_) | (have H2_ := (Option.bind_some _ _).symm.trans H; with_reducible exact H2_) | with_reducible exact H | (rw [hy200]; exact H) | exact H
                have Ny200 := Aside0.mk hy200
                clear hy200
                replace H := Option.bind_eq_some_iff.mp H
                obtain ⟨⟨t204, t205⟩, A190, H⟩ := H
                replace H : ((payoffref11_Encode.f k1 l0).bind fun bt208 => ((payoffref11_Encode.f k1 (([(⟨12, 0, 0⟩ : S27), (⟨0, 0, 0⟩ : S27)] : List (S27)))).bind fun bt215 => (if t190 = bt208.2 then ((payofflaw11_sameBytes.f k1 t189 bt208.1).bind fun t219 => (if t219 = true then ((payofflaw11_sameBytes.f k1 t204 bt208.1).bind fun t220 => (if t220 = true then ((payofflaw11_sameBytes.f k1 t196 bt215.1).bind fun t221 => (if t221 = true then ((payofflaw11_sameCode.f k1 (x3_1.take ((l0.length : Int) : Int).toNat) l0).bind fun t226 => (payofflaw11_CodeEncodes.j1 k1 l0 x3_1 t189 t196 t204 bt208.1 bt208.2 bt215.1 (!t226))) else (payofflaw11_CodeEncodes.j1 k1 l0 x3_1 t189 t196 t204 bt208.1 bt208.2 bt215.1 true))) else (payofflaw11_CodeEncodes.j1 k1 l0 x3_1 t189 t196 t204 bt208.1 bt208.2 bt215.1 true))) else (payofflaw11_CodeEncodes.j1 k1 l0 x3_1 t189 t196 t204 bt208.1 bt208.2 bt215.1 true))) else (payofflaw11_CodeEncodes.j1 k1 l0 x3_1 t189 t196 t204 bt208.1 bt208.2 bt215.1 true)))) = some r := H
                have A19 := Aside0.mk A190
                clear A190
                replace H := Option.bind_eq_some_iff.mp H
                obtain ⟨⟨t208, t209⟩, A200, H⟩ := H
                replace H : ((payoffref11_Encode.f k1 (([(⟨12, 0, 0⟩ : S27), (⟨0, 0, 0⟩ : S27)] : List (S27)))).bind fun bt215 => (if t190 = t209 then ((payofflaw11_sameBytes.f k1 t189 t208).bind fun t219 => (if t219 = true then ((payofflaw11_sameBytes.f k1 t204 t208).bind fun t220 => (if t220 = true then ((payofflaw11_sameBytes.f k1 t196 bt215.1).bind fun t221 => (if t221 = true then ((payofflaw11_sameCode.f k1 (x3_1.take ((l0.length : Int) : Int).toNat) l0).bind fun t226 => (payofflaw11_CodeEncodes.j1 k1 l0 x3_1 t189 t196 t204 t208 t209 bt215.1 (!t226))) else (payofflaw11_CodeEncodes.j1 k1 l0 x3_1 t189 t196 t204 t208 t209 bt215.1 true))) else (payofflaw11_CodeEncodes.j1 k1 l0 x3_1 t189 t196 t204 t208 t209 bt215.1 true))) else (payofflaw11_CodeEncodes.j1 k1 l0 x3_1 t189 t196 t204 t208 t209 bt215.1 true))) else (payofflaw11_CodeEncodes.j1 k1 l0 x3_1 t189 t196 t204 t208 t209 bt215.1 true))) = some r := H
                have A20 := Aside0.mk A200
                clear A200
                obtain ⟨y212, hy212⟩ : ∃ y_ : List (S27), y_ = (([(⟨12, 0, 0⟩ : S27), (⟨0, 0, 0⟩ : S27)] : List (S27))) := ⟨_, rfl⟩
                replace H : ((payoffref11_Encode.f k1 y212).bind fun bt215 => (if t190 = t209 then ((payofflaw11_sameBytes.f k1 t189 t208).bind fun t219 => (if t219 = true then ((payofflaw11_sameBytes.f k1 t204 t208).bind fun t220 => (if t220 = true then ((payofflaw11_sameBytes.f k1 t196 bt215.1).bind fun t221 => (if t221 = true then ((payofflaw11_sameCode.f k1 (x3_1.take ((l0.length : Int) : Int).toNat) l0).bind fun t226 => (payofflaw11_CodeEncodes.j1 k1 l0 x3_1 t189 t196 t204 t208 t209 bt215.1 (!t226))) else (payofflaw11_CodeEncodes.j1 k1 l0 x3_1 t189 t196 t204 t208 t209 bt215.1 true))) else (payofflaw11_CodeEncodes.j1 k1 l0 x3_1 t189 t196 t204 t208 t209 bt215.1 true))) else (payofflaw11_CodeEncodes.j1 k1 l0 x3_1 t189 t196 t204 t208 t209 bt215.1 true))) else (payofflaw11_CodeEncodes.j1 k1 l0 x3_1 t189 t196 t204 t208 t209 bt215.1 true))) = some r := by first | (rw [hy212]; with_reducible exact H) | (have H2_ := (Option.bind_some _ _).symm.trans H; rw [hy212]; with_reducible exact H2_) | (have H2_ := (Option.bind_some _ _).symm.trans H; with_reducible exact H2_) | with_reducible exact H | (rw [hy212]; exact H) | exact H
                have Ny212 := Aside0.mk hy212
                clear hy212
                replace H := Option.bind_eq_some_iff.mp H
                obtain ⟨⟨t215, t216⟩, A210, H⟩ := H
                replace H : (if t190 = t209 then ((payofflaw11_sameBytes.f k1 t189 t208).bind fun t219 => (if t219 = true then ((payofflaw11_sameBytes.f k1 t204 t208).bind fun t220 => (if t220 = true then ((payofflaw11_sameBytes.f k1 t196 t215).bind fun t221 => (if t221 = true then ((payofflaw11_sameCode.f k1 (x3_1.take ((l0.length : Int) : Int).toNat) l0).bind fun t226 => (payofflaw11_CodeEncodes.j1 k1 l0 x3_1 t189 t196 t204 t208 t209 t215 (!t226))) else (payofflaw11_CodeEncodes.j1 k1 l0 x3_1 t189 t196 t204 t208 t209 t215 true))) else (payofflaw11_CodeEncodes.j1 k1 l0 x3_1 t189 t196 t204 t208 t209 t215 true))) else (payofflaw11_CodeEncodes.j1 k1 l0 x3_1 t189 t196 t204 t208 t209 t215 true))) else (payofflaw11_CodeEncodes.j1 k1 l0 x3_1 t189 t196 t204 t208 t209 t215 true)) = some r := H
                have A21 := Aside0.mk A210
                clear A210
                have HC22 := Aside0.mk H
                clear H
                obtain ⟨Ao23, co23, eo23⟩ := Kd.R_slice HO_3.out
                subst eo23
                have q24 : ((l0.length : Int) : Int) ≤ ((x3_1.length : Int) : Int) := of_decide_eq_true (by first | (with_reducible assumption) | assumption)
                obtain ⟨i024, hi024, _, hsz24, _⟩ := info_parts info27
                have hroom24 : x3_1.length ≤ co23 := (Kd.R_reads' HO_3.out).2.1
                have hC24 : Kd.C k27 _ Ao23 x3_1.length x3_1 := (Kd.R_reads' HO_3.out).2.2
                have hcut24 := cut_to (P := Tryd.prog) 37 27 .i64 Tryd.underlying37 hi024 Ao23 x3_1.length co23 (l0.length : Int) (of_decide_eq_true (by first | (with_reducible assumption) | assumption)) q24 hroom24
                have hr24 := Kd.C_take (m := ((l0.length : Int) : Int).toNat) hC24 (by omega)
                have hy24 : y185.length = ((l0.length : Int) : Int).toNat := (by rw [Ny185.out, List.length_take]; omega)
                rw [← Ny185.out] at hr24
                rw [← hy24] at hcut24
                have HR188 := Aside0.mk hr24
                have HC188 := Aside0.mk (show y185.length ≤ co23 from by omega)
                clear hr24 hC24 hroom24 hi024 hsz24
                have KY24 := Aside0.mk hy24
                clear hy24
                have KL24 := Aside0.mk (show ((l0.length : Int) : Int).toNat ≤ x3_1.length from by omega)
                replace q24 := eq_true q24
                go_upto_region 12 with (first | ((with_reducible refine gate_callee (f := 24) rfl ?_); refine goesL_ (some 50) rfl rfl Tryd.func24 (by kernel_rfl) rfl #[.slice Ao23 y185.length co23] rfl (by (try simp only [List.map_toArray, List.map_cons, List.map_nil]); first | done | rfl | (simp only [List.length_drop, List.length_take]; rfl)) ?_; (with_reducible refine (code_Encode.calls k1 _ _ y185 t189 t190 _ ?side1 ?side2 A15.out (Pure.G2.below HG.out (by repeat (first | (with_reducible first | exact HB.out | apply below_alloc | apply pw_below_drewN | apply below_drew1 | (refine below_set ?_ (by first | exact trivial )) ) | exact HB.out)))).mono ?_); (case side1 => repeat (first | exact (by repeat (first | (with_reducible exact HR188.out) | (with_reducible refine Kd.C_alloc ?_ _) | (with_reducible refine Kd.C_drewN ?_ _) | (with_reducible refine Kd.C_drew ?_) | exact HR188.out)) | (with_reducible refine Kd.C_alloc ?_ _) | (with_reducible refine Kd.C_drewN ?_ _) | (with_reducible refine Kd.C_drew ?_))); (case side2 => exact HC188.out); rintro e w25 ⟨v191, rfl, ho0, hb⟩; refine ⟨_, rfl, ?_⟩; have n0_ := Aside0.mk (Kd.R_below (by (with_reducible repeat (first | apply Kd.R_alloc | apply Kd.R_drewN | apply Kd.R_drew)); exact HO_3.out) hb); have n1_ := Aside0.mk (Kd.R_lower ho0 (below_size (by repeat (first | (with_reducible first | exact HB.out | apply below_alloc | apply pw_below_drewN | apply below_drew1) | exact HB.out)))); have n2_ := Aside0.mk (Kd.C_below (by repeat (first | (with_reducible exact HR188.out) | (with_reducible refine Kd.C_alloc ?_ _) | (with_reducible refine Kd.C_drewN ?_ _) | (with_reducible refine Kd.C_drew ?_) | exact HR188.out)) hb); have n3_ := Aside0.mk (below_step (by repeat (first | (with_reducible first | exact HB.out | apply below_alloc | apply pw_below_drewN | apply below_drew1) | exact HB.out)) hb); clear HO_3; clear HR188; clear HB; have HO_3 := n0_; have HO192 := n1_; have HR188 := n2_; have HB := n3_; clear n0_ n1_ n2_ n3_; (try clear hb); (try clear hb2); (try clear hk); (try clear hi); (try clear ho0)) | ((with_reducible refine gate_dst (N := 56) rfl ?_); (try (refine gate_guard (by rfl) ?_; dsimp only)); refine Kd.R_lit k27 _ 27 ?hg (N := 56) ?hd (xs := ([(⟨12, 0, 0⟩ : S27), (⟨0, 0, 0⟩ : S27)] : List (S27))) (inner := [.int .i64 12, .int .i64 0, .int .i64 0, .int .i64 0, .int .i64 0, .int .i64 0]) (ok := fun _ => True) (okp := fun _ => True) ?hr ?hp (fun _ hk => hk) trivial (Below.refl _ _) (Nat.le_refl _) (by simp) ?_; (case hd => rfl); (case hg => rfl); (case hr => first | (go_simp; done) | (go_simp; rfl)); (case hp => exact (Reps.c3 (show Kd.M k27 _ _ _ (⟨12, 0, 0⟩ : S27) [.int .i64 12, .int .i64 0, .int .i64 0] from (k27_mkM _ _ _ (⟨12, 0, 0⟩ : S27) )) (Reps.c3 (show Kd.M k27 _ _ _ (⟨0, 0, 0⟩ : S27) [.int .i64 0, .int .i64 0, .int .i64 0] from (k27_mkM _ _ _ (⟨0, 0, 0⟩ : S27) )) (Reps.none _ _)))); intro v194 w26 ho27 hb hg_ hnew_; clear hg_ hnew_; (first | rw [← Ny193.out] at ho27 | (simp only [Int.reduceToNat] at ho27; rw [← Ny193.out] at ho27)); have n0_ := Aside0.mk (Kd.R_elder' (by (with_reducible repeat (first | apply Kd.R_alloc | apply Kd.R_drewN | apply Kd.R_drew)); exact HO_3.out) (Kd.R_base ho27) hb); have n1_ := Aside0.mk (Kd.R_below (by (with_reducible repeat (first | apply Kd.R_alloc | apply Kd.R_drewN | apply Kd.R_drew)); exact HO192.out) hb); have n2_ := Aside0.mk (Kd.R_lower (Kd.R_new' ho27 (Kd.R_lt (by (with_reducible repeat (first | apply Kd.R_alloc | apply Kd.R_drewN | apply Kd.R_drew)); exact HO_3.out))) (below_size (by repeat (first | (with_reducible first | exact HB.out | apply below_alloc | apply pw_below_drewN | apply below_drew1) | exact HB.out)))); have n3_ := Aside0.mk (Kd.C_below (by repeat (first | (with_reducible exact HR188.out) | (with_reducible refine Kd.C_alloc ?_ _) | (with_reducible refine Kd.C_drewN ?_ _) | (with_reducible refine Kd.C_drew ?_) | exact HR188.out)) hb); have n4_ := Aside0.mk (below_step (by repeat (first | (with_reducible first | exact HB.out | apply below_alloc | apply pw_below_drewN | apply below_drew1) | exact HB.out)) hb); clear HO_3; clear HO192; clear HR188; clear HB; have HO_3 := n0_; have HO192 := n1_; have HO195 := n2_; have HR188 := n3_; have HB := n4_; clear n0_ n1_ n2_ n3_ n4_; clear hb ho27; obtain ⟨Ao28, co28, eo28⟩ := Kd.R_slice HO195.out; subst eo28) | ((with_reducible refine gate_callee (f := 24) rfl ?_); refine goesL_ (some 57) rfl rfl Tryd.func24 (by kernel_rfl) rfl #[.slice Ao28 y193.length co28] rfl (by (try simp only [List.map_toArray, List.map_cons, List.map_nil]); first | done | rfl | (simp only [List.length_drop, List.length_take]; rfl)) ?_; (with_reducible refine (code_Encode.calls k1 _ _ y193 t196 t197 _ ?side1 ?side2 A16.out (Pure.G2.below HG.out (by repeat (first | (with_reducible first | exact HB.out | apply below_alloc | apply pw_below_drewN | apply below_drew1 | (refine below_set ?_ (by first | exact trivial )) ) | exact HB.out)))).mono ?_); (case side1 => repeat (first | exact (Kd.R_reads' HO195.out).2.2 | (with_reducible refine Kd.C_alloc ?_ _) | (with_reducible refine Kd.C_drewN ?_ _) | (with_reducible refine Kd.C_drew ?_))); (case side2 => exact (Kd.R_reads' HO195.out).2.1); rintro e w29 ⟨v198, rfl, ho0, hb⟩; refine ⟨_, rfl, ?_⟩; have n0_ := Aside0.mk (Kd.R_below (by (with_reducible repeat (first | apply Kd.R_alloc | apply Kd.R_drewN | apply Kd.R_drew)); exact HO_3.out) hb); have n1_ := Aside0.mk (Kd.R_elder' (by (with_reducible repeat (first | apply Kd.R_alloc | apply Kd.R_drewN | apply Kd.R_drew)); exact HO192.out) (Kd.R_base ho0) hb); have n2_ := Aside0.mk (Kd.R_below (by (with_reducible repeat (first | apply Kd.R_alloc | apply Kd.R_drewN | apply Kd.R_drew)); exact HO195.out) hb); have n3_ := Aside0.mk (Kd.R_lower (Kd.R_new' ho0 (Kd.R_lt (by (with_reducible repeat (first | apply Kd.R_alloc | apply Kd.R_drewN | apply Kd.R_drew)); exact HO192.out))) (below_size (by repeat (first | (with_reducible first | exact HB.out | apply below_alloc | apply pw_below_drewN | apply below_drew1) | exact HB.out)))); have n4_ := Aside0.mk (Kd.C_below (by repeat (first | (with_reducible exact HR188.out) | (with_reducible refine Kd.C_alloc ?_ _) | (with_reducible refine Kd.C_drewN ?_ _) | (with_reducible refine Kd.C_drew ?_) | exact HR188.out)) hb); have n5_ := Aside0.mk (below_step (by repeat (first | (with_reducible first | exact HB.out | apply below_alloc | apply pw_below_drewN | apply below_drew1) | exact HB.out)) hb); clear HO_3; clear HO192; clear HO195; clear HR188; clear HB; have HO_3 := n0_; have HO192 := n1_; have HO195 := n2_; have HO199 := n3_; have HR188 := n4_; have HB := n5_; clear n0_ n1_ n2_ n3_ n4_ n5_; (try clear hb); (try clear hb2); (try clear hk); (try clear hi); (try clear ho0); have q30 : ((l0.length : Int) : Int) ≤ ((x3_1.length : Int) : Int) := of_decide_eq_true (by first | (with_reducible assumption) | assumption); obtain ⟨i030, hi030, _, hsz30, _⟩ := info_parts info27; have hroom30 : x3_1.length ≤ co23 := (Kd.R_reads' HO_3.out).2.1; have hC30 : Kd.C k27 _ Ao23 x3_1.length x3_1 := (Kd.R_reads' HO_3.out).2.2; (try clear hcut24); have hcut30 := cut_to (P := Tryd.prog) 37 27 .i64 Tryd.underlying37 hi030 Ao23 x3_1.length co23 (l0.length : Int) (of_decide_eq_true (by first | (with_reducible assumption) | assumption)) q30 hroom30; have hr30 := Kd.C_take (m := ((l0.length : Int) : Int).toNat) hC30 (by omega); have hy30 : y200.length = ((l0.length : Int) : Int).toNat := (by rw [Ny200.out, List.length_take]; omega); rw [← Ny200.out] at hr30; rw [← hy30] at hcut30; have HR203 := Aside0.mk hr30; have HC203 := Aside0.mk (show y200.length ≤ co23 from by omega); clear hr30 hC30 hroom30 hi030 hsz30; have KY30 := Aside0.mk hy30; clear hy30; have KL30 := Aside0.mk (show ((l0.length : Int) : Int).toNat ≤ x3_1.length from by omega); replace q30 := eq_true q30) | ((with_reducible refine gate_callee (f := 24) rfl ?_); refine goesL_ (some 65) rfl rfl Tryd.func24 (by kernel_rfl) rfl #[.slice Ao23 y200.length co23] rfl (by (try simp only [List.map_toArray, List.map_cons, List.map_nil]); first | done | rfl | (simp only [List.length_drop, List.length_take]; rfl)) ?_; (with_reducible refine (code_Encode.calls k1 _ _ y200 t204 t205 _ ?side1 ?side2 A19.out (Pure.G2.below HG.out (by repeat (first | (with_reducible first | exact HB.out | apply below_alloc | apply pw_below_drewN | apply below_drew1 | (refine below_set ?_ (by first | exact trivial )) ) | exact HB.out)))).mono ?_); (case side1 => repeat (first | exact (by repeat (first | (with_reducible exact HR203.out) | (with_reducible refine Kd.C_alloc ?_ _) | (with_reducible refine Kd.C_drewN ?_ _) | (with_reducible refine Kd.C_drew ?_) | exact HR203.out)) | (with_reducible refine Kd.C_alloc ?_ _) | (with_reducible refine Kd.C_drewN ?_ _) | (with_reducible refine Kd.C_drew ?_))); (case side2 => exact HC203.out); rintro e w31 ⟨v206, rfl, ho0, hb⟩; refine ⟨_, rfl, ?_⟩; have n0_ := Aside0.mk (Kd.R_below (by (with_reducible repeat (first | apply Kd.R_alloc | apply Kd.R_drewN | apply Kd.R_drew)); exact HO_3.out) hb); have n1_ := Aside0.mk (Kd.R_elder' (by (with_reducible repeat (first | apply Kd.R_alloc | apply Kd.R_drewN | apply Kd.R_drew)); exact HO192.out) (Kd.R_base ho0) hb); have n2_ := Aside0.mk (Kd.R_below (by (with_reducible repeat (first | apply Kd.R_alloc | apply Kd.R_drewN | apply Kd.R_drew)); exact HO195.out) hb); have n3_ := Aside0.mk (Kd.R_elder' (by (with_reducible repeat (first | apply Kd.R_alloc | apply Kd.R_drewN | apply Kd.R_drew)); exact HO199.out) (Kd.R_base ho0) hb); have n4_ := Aside0.mk (Kd.R_lower (Kd.R_new' (Kd.R_new' ho0 (Kd.R_lt (by (with_reducible repeat (first | apply Kd.R_alloc | apply Kd.R_drewN | apply Kd.R_drew)); exact HO192.out))) (Kd.R_lt (by (with_reducible repeat (first | apply Kd.R_alloc | apply Kd.R_drewN | apply Kd.R_drew)); exact HO199.out))) (below_size (by repeat (first | (with_reducible first | exact HB.out | apply below_alloc | apply pw_below_drewN | apply below_drew1) | exact HB.out)))); have n5_ := Aside0.mk (Kd.C_below (by repeat (first | (with_reducible exact HR188.out) | (with_reducible refine Kd.C_alloc ?_ _) | (with_reducible refine Kd.C_drewN ?_ _) | (with_reducible refine Kd.C_drew ?_) | exact HR188.out)) hb); have n6_ := Aside0.mk (Kd.C_below (by repeat (first | (with_reducible exact HR203.out) | (with_reducible refine Kd.C_alloc ?_ _) | (with_reducible refine Kd.C_drewN ?_ _) | (with_reducible refine Kd.C_drew ?_) | exact HR203.out)) hb); have n7_ := Aside0.mk (below_step (by repeat (first | (with_reducible first | exact HB.out | apply below_alloc | apply pw_below_drewN | apply below_drew1) | exact HB.out)) hb); clear HO_3; clear HO192; clear HO195; clear HO199; clear HR188; clear HR203; clear HB; have HO_3 := n0_; have HO192 := n1_; have HO195 := n2_; have HO199 := n3_; have HO207 := n4_; have HR188 := n5_; have HR203 := n6_; have HB := n7_; clear n0_ n1_ n2_ n3_ n4_ n5_ n6_ n7_; (try clear hb); (try clear hb2); (try clear hk); (try clear hi); (try clear ho0)) | ((with_reducible refine gate_callee (f := 25) rfl ?_); refine goesL_ (some 70) rfl rfl Tryd.func25 (by kernel_rfl) rfl #[.slice A0 l0.length c0] rfl (by (try simp only [List.map_toArray, List.map_cons, List.map_nil]); first | done | rfl | (simp only [List.length_drop, List.length_take]; rfl)) ?_; (with_reducible refine (payoffref11_Encode.calls k1 _ _ l0 t208 t209 _ ?side1 ?side2 A20.out (Pure.G2.below HG.out (by repeat (first | (with_reducible first | exact HB.out | apply below_alloc | apply pw_below_drewN | apply below_drew1 | (refine below_set ?_ (by first | exact trivial )) ) | exact HB.out)))).mono ?_); (case side1 => repeat (first | exact (Kd.C_below HR0.out HB.out) | (with_reducible refine Kd.C_alloc ?_ _) | (with_reducible refine Kd.C_drewN ?_ _) | (with_reducible refine Kd.C_drew ?_))); (case side2 => exact HC0.out); rintro e w32 ⟨v210, rfl, ho0, hb⟩; refine ⟨_, rfl, ?_⟩; have n0_ := Aside0.mk (Kd.R_below (by (with_reducible repeat (first | apply Kd.R_alloc | apply Kd.R_drewN | apply Kd.R_drew)); exact HO_3.out) hb); have n1_ := Aside0.mk (Kd.R_elder' (by (with_reducible repeat (first | apply Kd.R_alloc | apply Kd.R_drewN | apply Kd.R_drew)); exact HO192.out) (Kd.R_base ho0) hb); have n2_ := Aside0.mk (Kd.R_below (by (with_reducible repeat (first | apply Kd.R_alloc | apply Kd.R_drewN | apply Kd.R_drew)); exact HO195.out) hb); have n3_ := Aside0.mk (Kd.R_elder' (by (with_reducible repeat (first | apply Kd.R_alloc | apply Kd.R_drewN | apply Kd.R_drew)); exact HO199.out) (Kd.R_base ho0) hb); have n4_ := Aside0.mk (Kd.R_elder' (by (with_reducible repeat (first | apply Kd.R_alloc | apply Kd.R_drewN | apply Kd.R_drew)); exact HO207.out) (Kd.R_base ho0) hb); have n5_ := Aside0.mk (Kd.R_lower (Kd.R_new' (Kd.R_new' (Kd.R_new' ho0 (Kd.R_lt (by (with_reducible repeat (first | apply Kd.R_alloc | apply Kd.R_drewN | apply Kd.R_drew)); exact HO192.out))) (Kd.R_lt (by (with_reducible repeat (first | apply Kd.R_alloc | apply Kd.R_drewN | apply Kd.R_drew)); exact HO199.out))) (Kd.R_lt (by (with_reducible repeat (first | apply Kd.R_alloc | apply Kd.R_drewN | apply Kd.R_drew)); exact HO207.out))) (below_size (by repeat (first | (with_reducible first | exact HB.out | apply below_alloc | apply pw_below_drewN | apply below_drew1) | exact HB.out)))); have n6_ := Aside0.mk (Kd.C_below (by repeat (first | (with_reducible exact HR188.out) | (with_reducible refine Kd.C_alloc ?_ _) | (with_reducible refine Kd.C_drewN ?_ _) | (with_reducible refine Kd.C_drew ?_) | exact HR188.out)) hb); have n7_ := Aside0.mk (Kd.C_below (by repeat (first | (with_reducible exact HR203.out) | (with_reducible refine Kd.C_alloc ?_ _) | (with_reducible refine Kd.C_drewN ?_ _) | (with_reducible refine Kd.C_drew ?_) | exact HR203.out)) hb); have n8_ := Aside0.mk (below_step (by repeat (first | (with_reducible first | exact HB.out | apply below_alloc | apply pw_below_drewN | apply below_drew1) | exact HB.out)) hb); clear HO_3; clear HO192; clear HO195; clear HO199; clear HO207; clear HR188; clear HR203; clear HB; have HO_3 := n0_; have HO192 := n1_; have HO195 := n2_; have HO199 := n3_; have HO207 := n4_; have HO211 := n5_; have HR188 := n6_; have HR203 := n7_; have HB := n8_; clear n0_ n1_ n2_ n3_ n4_ n5_ n6_ n7_ n8_; (try clear hb); (try clear hb2); (try clear hk); (try clear hi); (try clear ho0)) | ((with_reducible refine gate_dst (N := 76) rfl ?_); (try (refine gate_guard (by rfl) ?_; dsimp only)); refine Kd.R_lit k27 _ 27 ?hg (N := 76) ?hd (xs := ([(⟨12, 0, 0⟩ : S27), (⟨0, 0, 0⟩ : S27)] : List (S27))) (inner := [.int .i64 12, .int .i64 0, .int .i64 0, .int .i64 0, .int .i64 0, .int .i64 0]) (ok := fun _ => True) (okp := fun _ => True) ?hr ?hp (fun _ hk => hk) trivial (Below.refl _ _) (Nat.le_refl _) (by simp) ?_; (case hd => rfl); (case hg => rfl); (case hr => first | (go_simp; done) | (go_simp; rfl)); (case hp => exact (Reps.c3 (show Kd.M k27 _ _ _ (⟨12, 0, 0⟩ : S27) [.int .i64 12, .int .i64 0, .int .i64 0] from (k27_mkM _ _ _ (⟨12, 0, 0⟩ : S27) )) (Reps.c3 (show Kd.M k27 _ _ _ (⟨0, 0, 0⟩ : S27) [.int .i64 0, .int .i64 0, .int .i64 0] from (k27_mkM _ _ _ (⟨0, 0, 0⟩ : S27) )) (Reps.none _ _)))); intro v213 w33 ho34 hb hg_ hnew_; clear hg_ hnew_; (first | rw [← Ny212.out] at ho34 | (simp only [Int.reduceToNat] at ho34; rw [← Ny212.out] at ho34)); have n0_ := Aside0.mk (Kd.R_elder' (by (with_reducible repeat (first | apply Kd.R_alloc | apply Kd.R_drewN | apply Kd.R_drew)); exact HO_3.out) (Kd.R_base ho34) hb); have n1_ := Aside0.mk (Kd.R_below (by (with_reducible repeat (first | apply Kd.R_alloc | apply Kd.R_drewN | apply Kd.R_drew)); exact HO192.out) hb); have n2_ := Aside0.mk (Kd.R_elder' (by (with_reducible repeat (first | apply Kd.R_alloc | apply Kd.R_drewN | apply Kd.R_drew)); exact HO195.out) (Kd.R_base ho34) hb); have n3_ := Aside0.mk (Kd.R_below (by (with_reducible repeat (first | apply Kd.R_alloc | apply Kd.R_drewN | apply Kd.R_drew)); exact HO199.out) hb); have n4_ := Aside0.mk (Kd.R_below (by (with_reducible repeat (first | apply Kd.R_alloc | apply Kd.R_drewN | apply Kd.R_drew)); exact HO207.out) hb); have n5_ := Aside0.mk (Kd.R_below (by (with_reducible repeat (first | apply Kd.R_alloc | apply Kd.R_drewN | apply Kd.R_drew)); exact HO211.out) hb); have n6_ := Aside0.mk (Kd.R_lower (Kd.R_new' (Kd.R_new' ho34 (Kd.R_lt (by (with_reducible repeat (first | apply Kd.R_alloc | apply Kd.R_drewN | apply Kd.R_drew)); exact HO_3.out))) (Kd.R_lt (by (with_reducible repeat (first | apply Kd.R_alloc | apply Kd.R_drewN | apply Kd.R_drew)); exact HO195.out))) (below_size (by repeat (first | (with_reducible first | exact HB.out | apply below_alloc | apply pw_below_drewN | apply below_drew1) | exact HB.out)))); have n7_ := Aside0.mk (Kd.C_below (by repeat (first | (with_reducible exact HR188.out) | (with_reducible refine Kd.C_alloc ?_ _) | (with_reducible refine Kd.C_drewN ?_ _) | (with_reducible refine Kd.C_drew ?_) | exact HR188.out)) hb); have n8_ := Aside0.mk (Kd.C_below (by repeat (first | (with_reducible exact HR203.out) | (with_reducible refine Kd.C_alloc ?_ _) | (with_reducible refine Kd.C_drewN ?_ _) | (with_reducible refine Kd.C_drew ?_) | exact HR203.out)) hb); have n9_ := Aside0.mk (below_step (by repeat (first | (with_reducible first | exact HB.out | apply below_alloc | apply pw_below_drewN | apply below_drew1) | exact HB.out)) hb); clear HO_3; clear HO192; clear HO195; clear HO199; clear HO207; clear HO211; clear HR188; clear HR203; clear HB; have HO_3 := n0_; have HO192 := n1_; have HO195 := n2_; have HO199 := n3_; have HO207 := n4_; have HO211 := n5_; have HO214 := n6_; have HR188 := n7_; have HR203 := n8_; have HB := n9_; clear n0_ n1_ n2_ n3_ n4_ n5_ n6_ n7_ n8_ n9_; clear hb ho34; obtain ⟨Ao35, co35, eo35⟩ := Kd.R_slice HO214.out; subst eo35) | ((with_reducible refine gate_callee (f := 25) rfl ?_); refine goesL_ (some 77) rfl rfl Tryd.func25 (by kernel_rfl) rfl #[.slice Ao35 y212.length co35] rfl (by (try simp only [List.map_toArray, List.map_cons, List.map_nil]); first | done | rfl | (simp only [List.length_drop, List.length_take]; rfl)) ?_; (with_reducible refine (payoffref11_Encode.calls k1 _ _ y212 t215 t216 _ ?side1 ?side2 A21.out (Pure.G2.below HG.out (by repeat (first | (with_reducible first | exact HB.out | apply below_alloc | apply pw_below_drewN | apply below_drew1 | (refine below_set ?_ (by first | exact trivial )) ) | exact HB.out)))).mono ?_); (case side1 => repeat (first | exact (Kd.R_reads' HO214.out).2.2 | (with_reducible refine Kd.C_alloc ?_ _) | (with_reducible refine Kd.C_drewN ?_ _) | (with_reducible refine Kd.C_drew ?_))); (case side2 => exact (Kd.R_reads' HO214.out).2.1); rintro e w36 ⟨v217, rfl, ho0, hb⟩; refine ⟨_, rfl, ?_⟩; have n0_ := Aside0.mk (Kd.R_below (by (with_reducible repeat (first | apply Kd.R_alloc | apply Kd.R_drewN | apply Kd.R_drew)); exact HO_3.out) hb); have n1_ := Aside0.mk (Kd.R_elder' (by (with_reducible repeat (first | apply Kd.R_alloc | apply Kd.R_drewN | apply Kd.R_drew)); exact HO192.out) (Kd.R_base ho0) hb); have n2_ := Aside0.mk (Kd.R_below (by (with_reducible repeat (first | apply Kd.R_alloc | apply Kd.R_drewN | apply Kd.R_drew)); exact HO195.out) hb); have n3_ := Aside0.mk (Kd.R_elder' (by (with_reducible repeat (first | apply Kd.R_alloc | apply Kd.R_drewN | apply Kd.R_drew)); exact HO199.out) (Kd.R_base ho0) hb); have n4_ := Aside0.mk (Kd.R_elder' (by (with_reducible repeat (first | apply Kd.R_alloc | apply Kd.R_drewN | apply Kd.R_drew)); exact HO207.out) (Kd.R_base ho0) hb); have n5_ := Aside0.mk (Kd.R_elder' (by (with_reducible repeat (first | apply Kd.R_alloc | apply Kd.R_drewN | apply Kd.R_drew)); exact HO211.out) (Kd.R_base ho0) hb); have n6_ := Aside0.mk (Kd.R_below (by (with_reducible repeat (first | apply Kd.R_alloc | apply Kd.R_drewN | apply Kd.R_drew)); exact HO214.out) hb); have n7_ := Aside0.mk (Kd.R_lower (Kd.R_new' (Kd.R_new' (Kd.R_new' (Kd.R_new' ho0 (Kd.R_lt (by (with_reducible repeat (first | apply Kd.R_alloc | apply Kd.R_drewN | apply Kd.R_drew)); exact HO192.out))) (Kd.R_lt (by (with_reducible repeat (first | apply Kd.R_alloc | apply Kd.R_drewN | apply Kd.R_drew)); exact HO199.out))) (Kd.R_lt (by (with_reducible repeat (first | apply Kd.R_alloc | apply Kd.R_drewN | apply Kd.R_drew)); exact HO207.out))) (Kd.R_lt (by (with_reducible repeat (first | apply Kd.R_alloc | apply Kd.R_drewN | apply Kd.R_drew)); exact HO211.out))) (below_size (by repeat (first | (with_reducible first | exact HB.out | apply below_alloc | apply pw_below_drewN | apply below_drew1) | exact HB.out)))); have n8_ := Aside0.mk (Kd.C_below (by repeat (first | (with_reducible exact HR188.out) | (with_reducible refine Kd.C_alloc ?_ _) | (with_reducible refine Kd.C_drewN ?_ _) | (with_reducible refine Kd.C_drew ?_) | exact HR188.out)) hb); have n9_ := Aside0.mk (Kd.C_below (by repeat (first | (with_reducible exact HR203.out) | (with_reducible refine Kd.C_alloc ?_ _) | (with_reducible refine Kd.C_drewN ?_ _) | (with_reducible refine Kd.C_drew ?_) | exact HR203.out)) hb); have n10_ := Aside0.mk (below_step (by repeat (first | (with_reducible first | exact HB.out | apply below_alloc | apply pw_below_drewN | apply below_drew1) | exact HB.out)) hb); clear HO_3; clear HO192; clear HO195; clear HO199; clear HO207; clear HO211; clear HO214; clear HR188; clear HR203; clear HB; have HO_3 := n0_; have HO192 := n1_; have HO195 := n2_; have HO199 := n3_; have HO207 := n4_; have HO211 := n5_; have HO214 := n6_; have HO218 := n7_; have HR188 := n8_; have HR203 := n9_; have HB := n10_; clear n0_ n1_ n2_ n3_ n4_ n5_ n6_ n7_ n8_ n9_ n10_; (try clear hb); (try clear hb2); (try clear hk); (try clear hi); (try clear ho0)))
                (try simp only [Act.put, List.setIfInBounds_toArray, List.set_cons_zero, List.set_cons_succ])
                go_cut [109] (fun v109 wc => ∃ (kq : Nat) (x109_21 : Bool), v109 = .bool x109_21 ∧ Aside0 (payofflaw11_CodeEncodes.j1 kq l0 x3_1 t189 t196 t204 t208 t209 t215 x109_21 = some r) ∧ Aside0 (kq ≤ k1) ∧ Aside0 (Kd.R k27 27 wc w.heap.size (fun _ => True) (.slice Ao23 x3_1.length co23) x3_1) ∧ Aside0 (Kd.R (Kd.int .u8) 5 wc w.heap.size (fun k_ => some k_ ≠ (v198 : Value).ownBlock ∧ some k_ ≠ (v206 : Value).ownBlock ∧ some k_ ≠ (v210 : Value).ownBlock ∧ some k_ ≠ (v217 : Value).ownBlock) v191 t189) ∧ Aside0 (Kd.R (Kd.int .u8) 5 wc w.heap.size (fun k_ => some k_ ≠ (v191 : Value).ownBlock ∧ some k_ ≠ (v206 : Value).ownBlock ∧ some k_ ≠ (v210 : Value).ownBlock ∧ some k_ ≠ (v217 : Value).ownBlock) v198 t196) ∧ Aside0 (Kd.R (Kd.int .u8) 5 wc w.heap.size (fun k_ => some k_ ≠ (v191 : Value).ownBlock ∧ some k_ ≠ (v198 : Value).ownBlock ∧ some k_ ≠ (v210 : Value).ownBlock ∧ some k_ ≠ (v217 : Value).ownBlock) v206 t204) ∧ Aside0 (Kd.R (Kd.int .u8) 5 wc w.heap.size (fun k_ => some k_ ≠ (v191 : Value).ownBlock ∧ some k_ ≠ (v198 : Value).ownBlock ∧ some k_ ≠ (v206 : Value).ownBlock ∧ some k_ ≠ (v217 : Value).ownBlock) v210 t208) ∧ Aside0 (Kd.R (Kd.int .u8) 5 wc w.heap.size (fun k_ => some k_ ≠ (v191 : Value).ownBlock ∧ some k_ ≠ (v198 : Value).ownBlock ∧ some k_ ≠ (v206 : Value).ownBlock ∧ some k_ ≠ (v210 : Value).ownBlock) v217 t215) ∧ Aside0 (Below w.heap.size w wc))
                case first => as_aux_lemma =>
                  have H := HC22.out
                  clear HC22
                  by_cases c37 : t190 = t209
                  · rw [if_pos c37] at H
                    have c37b0 : (t190 == t209) = true := beq_iff_eq.mpr c37
                    have c37b1 : (t190 != t209) = false := bne_eq_false_iff_eq.mpr c37
                    clear c37
                    (first | rw [c37b0] | (simp only [i64_w, i32_w]; rw [c37b0]) | skip)
                    replace H := Option.bind_eq_some_iff.mp H
                    obtain ⟨t219, A380, H⟩ := H
                    replace H : (if t219 = true then ((payofflaw11_sameBytes.f k1 t204 t208).bind fun t220 => (if t220 = true then ((payofflaw11_sameBytes.f k1 t196 t215).bind fun t221 => (if t221 = true then ((payofflaw11_sameCode.f k1 (x3_1.take ((l0.length : Int) : Int).toNat) l0).bind fun t226 => (payofflaw11_CodeEncodes.j1 k1 l0 x3_1 t189 t196 t204 t208 t209 t215 (!t226))) else (payofflaw11_CodeEncodes.j1 k1 l0 x3_1 t189 t196 t204 t208 t209 t215 true))) else (payofflaw11_CodeEncodes.j1 k1 l0 x3_1 t189 t196 t204 t208 t209 t215 true))) else (payofflaw11_CodeEncodes.j1 k1 l0 x3_1 t189 t196 t204 t208 t209 t215 true)) = some r := H
                    have A38 := Aside0.mk A380
                    clear A380
                    by_cases c39 : t219 = true
                    · subst c39
                      have H1 : ((payofflaw11_sameBytes.f k1 t204 t208).bind fun t220 => (if t220 = true then ((payofflaw11_sameBytes.f k1 t196 t215).bind fun t221 => (if t221 = true then ((payofflaw11_sameCode.f k1 (x3_1.take ((l0.length : Int) : Int).toNat) l0).bind fun t226 => (payofflaw11_CodeEncodes.j1 k1 l0 x3_1 t189 t196 t204 t208 t209 t215 (!t226))) else (payofflaw11_CodeEncodes.j1 k1 l0 x3_1 t189 t196 t204 t208 t209 t215 true))) else (payofflaw11_CodeEncodes.j1 k1 l0 x3_1 t189 t196 t204 t208 t209 t215 true))) = some r := by rw [if_pos rfl] at H; exact H
                      clear H
                      have H := H1
                      clear H1
                      replace H := Option.bind_eq_some_iff.mp H
                      obtain ⟨t220, A400, H⟩ := H
                      replace H : (if t220 = true then ((payofflaw11_sameBytes.f k1 t196 t215).bind fun t221 => (if t221 = true then ((payofflaw11_sameCode.f k1 (x3_1.take ((l0.length : Int) : Int).toNat) l0).bind fun t226 => (payofflaw11_CodeEncodes.j1 k1 l0 x3_1 t189 t196 t204 t208 t209 t215 (!t226))) else (payofflaw11_CodeEncodes.j1 k1 l0 x3_1 t189 t196 t204 t208 t209 t215 true))) else (payofflaw11_CodeEncodes.j1 k1 l0 x3_1 t189 t196 t204 t208 t209 t215 true)) = some r := H
                      have A40 := Aside0.mk A400
                      clear A400
                      by_cases c41 : t220 = true
                      · subst c41
                        have H1 : ((payofflaw11_sameBytes.f k1 t196 t215).bind fun t221 => (if t221 = true then ((payofflaw11_sameCode.f k1 (x3_1.take ((l0.length : Int) : Int).toNat) l0).bind fun t226 => (payofflaw11_CodeEncodes.j1 k1 l0 x3_1 t189 t196 t204 t208 t209 t215 (!t226))) else (payofflaw11_CodeEncodes.j1 k1 l0 x3_1 t189 t196 t204 t208 t209 t215 true))) = some r := by rw [if_pos rfl] at H; exact H
                        clear H
                        have H := H1
                        clear H1
                        replace H := Option.bind_eq_some_iff.mp H
                        obtain ⟨t221, A420, H⟩ := H
                        replace H : (if t221 = true then ((payofflaw11_sameCode.f k1 (x3_1.take ((l0.length : Int) : Int).toNat) l0).bind fun t226 => (payofflaw11_CodeEncodes.j1 k1 l0 x3_1 t189 t196 t204 t208 t209 t215 (!t226))) else (payofflaw11_CodeEncodes.j1 k1 l0 x3_1 t189 t196 t204 t208 t209 t215 true)) = some r := H
                        have A42 := Aside0.mk A420
                        clear A420
                        by_cases c43 : t221 = true
                        · subst c43
                          have H1 : ((payofflaw11_sameCode.f k1 (x3_1.take ((l0.length : Int) : Int).toNat) l0).bind fun t226 => (payofflaw11_CodeEncodes.j1 k1 l0 x3_1 t189 t196 t204 t208 t209 t215 (!t226))) = some r := by rw [if_pos rfl] at H; exact H
                          clear H
                          have H := H1
                          clear H1
                          have c44b0 := eq_true (of_decide_eq_true (by first | (with_reducible assumption) | assumption) : 0 ≤ (l0.length : Int))
                          have c45b0 := eq_true (of_decide_eq_true (by first | (with_reducible assumption) | assumption) : (l0.length : Int) ≤ (x3_1.length : Int))
                          obtain ⟨y222, hy222⟩ : ∃ y_ : List (S27), y_ = (x3_1.take ((l0.length : Int) : Int).toNat) := ⟨_, rfl⟩
                          replace H : ((payofflaw11_sameCode.f k1 y222 l0).bind fun t226 => (payofflaw11_CodeEncodes.j1 k1 l0 x3_1 t189 t196 t204 t208 t209 t215 (!t226))) = some r := by first | (rw [hy222]; with_reducible exact H) | (have H2_ := (Option.bind_some _ _).symm.trans H; rw [hy222]; with_reducible exact H2_) | (have H2_ := (Option.bind_some _ _).symm.trans H; with_reducible exact H2_) | with_reducible exact H | (rw [hy222]; exact H) | exact H
                          have Ny222 := Aside0.mk hy222
                          clear hy222
                          replace H := Option.bind_eq_some_iff.mp H
                          obtain ⟨t226, A460, H⟩ := H
                          replace H : (payofflaw11_CodeEncodes.j1 k1 l0 x3_1 t189 t196 t204 t208 t209 t215 (!t226)) = some r := H
                          have A46 := Aside0.mk A460
                          clear A460
                          have H' := Aside0.mk H
                          clear H
                          obtain ⟨Ao47, co47, eo47⟩ := Kd.R_slice HO192.out
                          subst eo47
                          obtain ⟨Ao48, co48, eo48⟩ := Kd.R_slice HO211.out
                          subst eo48
                          go_wp2_with (first | (go_at_call 26; (with_reducible refine (payofflaw11_sameBytes.calls k1 _ _ t189 _ _ t208 true _ ?side1 ?side2 ?side3 ?side4 A38.out).mono ?_); (case side1 => repeat (first | exact (Kd.R_reads' HO192.out).2.2 | (with_reducible refine Kd.C_alloc ?_ _) | (with_reducible refine Kd.C_drewN ?_ _) | (with_reducible refine Kd.C_drew ?_))); (case side2 => exact (Kd.R_reads' HO192.out).2.1); (case side3 => repeat (first | exact (Kd.R_reads' HO211.out).2.2 | (with_reducible refine Kd.C_alloc ?_ _) | (with_reducible refine Kd.C_drewN ?_ _) | (with_reducible refine Kd.C_drew ?_))); (case side4 => exact (Kd.R_reads' HO211.out).2.1); rintro e w' ⟨rfl, ⟨nd, rfl⟩⟩; obtain ⟨Ao49, co49, eo49⟩ := Kd.R_slice HO207.out; subst eo49) | (go_at_call 26; (with_reducible refine (payofflaw11_sameBytes.calls k1 _ _ t204 _ _ t208 true _ ?side1 ?side2 ?side3 ?side4 A40.out).mono ?_); (case side1 => repeat (first | exact (Kd.R_reads' HO207.out).2.2 | (with_reducible refine Kd.C_alloc ?_ _) | (with_reducible refine Kd.C_drewN ?_ _) | (with_reducible refine Kd.C_drew ?_))); (case side2 => exact (Kd.R_reads' HO207.out).2.1); (case side3 => repeat (first | exact (Kd.R_reads' HO211.out).2.2 | (with_reducible refine Kd.C_alloc ?_ _) | (with_reducible refine Kd.C_drewN ?_ _) | (with_reducible refine Kd.C_drew ?_))); (case side4 => exact (Kd.R_reads' HO211.out).2.1); rintro e w' ⟨rfl, ⟨nd, rfl⟩⟩; obtain ⟨Ao50, co50, eo50⟩ := Kd.R_slice HO199.out; subst eo50; obtain ⟨Ao51, co51, eo51⟩ := Kd.R_slice HO218.out; subst eo51) | (go_at_call 26; (with_reducible refine (payofflaw11_sameBytes.calls k1 _ _ t196 _ _ t215 true _ ?side1 ?side2 ?side3 ?side4 A42.out).mono ?_); (case side1 => repeat (first | exact (Kd.R_reads' HO199.out).2.2 | (with_reducible refine Kd.C_alloc ?_ _) | (with_reducible refine Kd.C_drewN ?_ _) | (with_reducible refine Kd.C_drew ?_))); (case side2 => exact (Kd.R_reads' HO199.out).2.1); (case side3 => repeat (first | exact (Kd.R_reads' HO218.out).2.2 | (with_reducible refine Kd.C_alloc ?_ _) | (with_reducible refine Kd.C_drewN ?_ _) | (with_reducible refine Kd.C_drew ?_))); (case side4 => exact (Kd.R_reads' HO218.out).2.1); rintro e w' ⟨rfl, ⟨nd, rfl⟩⟩; have q52 : ((l0.length : Int) : Int) ≤ ((x3_1.length : Int) : Int) := of_decide_eq_true (by first | (with_reducible assumption) | assumption); obtain ⟨i052, hi052, _, hsz52, _⟩ := info_parts info27; have hroom52 : x3_1.length ≤ co23 := (Kd.R_reads' HO_3.out).2.1; have hC52 : Kd.C k27 _ Ao23 x3_1.length x3_1 := (Kd.R_reads' HO_3.out).2.2; (try clear hcut24); (try clear hcut30); have hcut52 := cut_to (P := Tryd.prog) 37 27 .i64 Tryd.underlying37 hi052 Ao23 x3_1.length co23 (l0.length : Int) (of_decide_eq_true (by first | (with_reducible assumption) | assumption)) q52 hroom52; have hr52 := Kd.C_take (m := ((l0.length : Int) : Int).toNat) hC52 (by omega); have hy52 : y222.length = ((l0.length : Int) : Int).toNat := (by rw [Ny222.out, List.length_take]; omega); rw [← Ny222.out] at hr52; rw [← hy52] at hcut52; have HR225 := Aside0.mk hr52; have HC225 := Aside0.mk (show y222.length ≤ co23 from by omega); clear hr52 hC52 hroom52 hi052 hsz52; have KY52 := Aside0.mk hy52; clear hy52; have KL52 := Aside0.mk (show ((l0.length : Int) : Int).toNat ≤ x3_1.length from by omega); replace q52 := eq_true q52) | (go_at_call 27; (with_reducible refine (payofflaw11_sameCode.calls k1 _ _ y222 _ _ l0 t226 _ ?side1 ?side2 ?side3 ?side4 A46.out).mono ?_); (case side1 => repeat (first | exact (by repeat (first | (with_reducible exact HR225.out) | (with_reducible refine Kd.C_alloc ?_ _) | (with_reducible refine Kd.C_drewN ?_ _) | (with_reducible refine Kd.C_drew ?_) | exact HR225.out)) | (with_reducible refine Kd.C_alloc ?_ _) | (with_reducible refine Kd.C_drewN ?_ _) | (with_reducible refine Kd.C_drew ?_))); (case side2 => exact HC225.out); (case side3 => repeat (first | exact (Kd.C_below HR0.out (by repeat (first | (with_reducible first | exact HB.out | apply below_alloc | apply pw_below_drewN | apply below_drew1) | exact HB.out))) | (with_reducible refine Kd.C_alloc ?_ _) | (with_reducible refine Kd.C_drewN ?_ _) | (with_reducible refine Kd.C_drew ?_))); (case side4 => exact HC0.out); rintro e w' ⟨rfl, ⟨nd, rfl⟩⟩))
                          go_meet
                          case rel => exact ⟨_, (!t226), (by first | rfl | (simp; done) | (simp [*]; done)), H', ⟨by have := HK1.out; first | omega | exact Nat.le_refl _⟩, ⟨by (with_reducible repeat (first | apply Kd.R_alloc | apply Kd.R_drewN | apply Kd.R_drew)); exact Kd.R_mono HO_3.out (fun _ hk => trivial)⟩, ⟨by (with_reducible repeat (first | apply Kd.R_alloc | apply Kd.R_drewN | apply Kd.R_drew)); exact Kd.R_mono HO192.out (fun _ hk => ⟨hk.1.1.1.2, ⟨hk.1.1.2, ⟨hk.1.2, hk.2⟩⟩⟩)⟩, ⟨by (with_reducible repeat (first | apply Kd.R_alloc | apply Kd.R_drewN | apply Kd.R_drew)); exact Kd.R_mono HO199.out (fun _ hk => ⟨hk.1.1.1.2, ⟨hk.1.1.2, ⟨hk.1.2, hk.2⟩⟩⟩)⟩, ⟨by (with_reducible repeat (first | apply Kd.R_alloc | apply Kd.R_drewN | apply Kd.R_drew)); exact Kd.R_mono HO207.out (fun _ hk => ⟨hk.1.1.1.2, ⟨hk.1.1.2, ⟨hk.1.2, hk.2⟩⟩⟩)⟩, ⟨by (with_reducible repeat (first | apply Kd.R_alloc | apply Kd.R_drewN | apply Kd.R_drew)); exact Kd.R_mono HO211.out (fun _ hk => ⟨hk.1.1.1.2, ⟨hk.1.1.2, ⟨hk.1.2, hk.2⟩⟩⟩)⟩, ⟨by (with_reducible repeat (first | apply Kd.R_alloc | apply Kd.R_drewN | apply Kd.R_drew)); exact Kd.R_mono HO218.out (fun _ hk => ⟨hk.1.1.1.2, ⟨hk.1.1.2, ⟨hk.1.2, hk.2⟩⟩⟩)⟩, ⟨by repeat (first | (with_reducible first | exact HB.out | apply below_alloc | apply pw_below_drewN | apply below_drew1) | exact HB.out)⟩⟩
                        · replace c43 := Bool.eq_false_iff.mpr c43
                          subst c43
                          have H1 : (payofflaw11_CodeEncodes.j1 k1 l0 x3_1 t189 t196 t204 t208 t209 t215 true) = some r := by rw [if_neg (show ¬ (false = true) by decide)] at H; exact H
                          clear H
                          have H := H1
                          clear H1
                          have H' := Aside0.mk H
                          clear H
                          obtain ⟨Ao53, co53, eo53⟩ := Kd.R_slice HO192.out
                          subst eo53
                          obtain ⟨Ao54, co54, eo54⟩ := Kd.R_slice HO211.out
                          subst eo54
                          go_wp2_with (first | (go_at_call 26; (with_reducible refine (payofflaw11_sameBytes.calls k1 _ _ t189 _ _ t208 true _ ?side1 ?side2 ?side3 ?side4 A38.out).mono ?_); (case side1 => repeat (first | exact (Kd.R_reads' HO192.out).2.2 | (with_reducible refine Kd.C_alloc ?_ _) | (with_reducible refine Kd.C_drewN ?_ _) | (with_reducible refine Kd.C_drew ?_))); (case side2 => exact (Kd.R_reads' HO192.out).2.1); (case side3 => repeat (first | exact (Kd.R_reads' HO211.out).2.2 | (with_reducible refine Kd.C_alloc ?_ _) | (with_reducible refine Kd.C_drewN ?_ _) | (with_reducible refine Kd.C_drew ?_))); (case side4 => exact (Kd.R_reads' HO211.out).2.1); rintro e w' ⟨rfl, ⟨nd, rfl⟩⟩; obtain ⟨Ao55, co55, eo55⟩ := Kd.R_slice HO207.out; subst eo55) | (go_at_call 26; (with_reducible refine (payofflaw11_sameBytes.calls k1 _ _ t204 _ _ t208 true _ ?side1 ?side2 ?side3 ?side4 A40.out).mono ?_); (case side1 => repeat (first | exact (Kd.R_reads' HO207.out).2.2 | (with_reducible refine Kd.C_alloc ?_ _) | (with_reducible refine Kd.C_drewN ?_ _) | (with_reducible refine Kd.C_drew ?_))); (case side2 => exact (Kd.R_reads' HO207.out).2.1); (case side3 => repeat (first | exact (Kd.R_reads' HO211.out).2.2 | (with_reducible refine Kd.C_alloc ?_ _) | (with_reducible refine Kd.C_drewN ?_ _) | (with_reducible refine Kd.C_drew ?_))); (case side4 => exact (Kd.R_reads' HO211.out).2.1); rintro e w' ⟨rfl, ⟨nd, rfl⟩⟩; obtain ⟨Ao56, co56, eo56⟩ := Kd.R_slice HO199.out; subst eo56; obtain ⟨Ao57, co57, eo57⟩ := Kd.R_slice HO218.out; subst eo57) | (go_at_call 26; (with_reducible refine (payofflaw11_sameBytes.calls k1 _ _ t196 _ _ t215 false _ ?side1 ?side2 ?side3 ?side4 A42.out).mono ?_); (case side1 => repeat (first | exact (Kd.R_reads' HO199.out).2.2 | (with_reducible refine Kd.C_alloc ?_ _) | (with_reducible refine Kd.C_drewN ?_ _) | (with_reducible refine Kd.C_drew ?_))); (case side2 => exact (Kd.R_reads' HO199.out).2.1); (case side3 => repeat (first | exact (Kd.R_reads' HO218.out).2.2 | (with_reducible refine Kd.C_alloc ?_ _) | (with_reducible refine Kd.C_drewN ?_ _) | (with_reducible refine Kd.C_drew ?_))); (case side4 => exact (Kd.R_reads' HO218.out).2.1); rintro e w' ⟨rfl, ⟨nd, rfl⟩⟩))
                          go_meet
                          case rel => exact ⟨_, (true), (by first | rfl | (simp; done) | (simp [*]; done)), H', ⟨by have := HK1.out; first | omega | exact Nat.le_refl _⟩, ⟨by (with_reducible repeat (first | apply Kd.R_alloc | apply Kd.R_drewN | apply Kd.R_drew)); exact Kd.R_mono HO_3.out (fun _ hk => trivial)⟩, ⟨by (with_reducible repeat (first | apply Kd.R_alloc | apply Kd.R_drewN | apply Kd.R_drew)); exact Kd.R_mono HO192.out (fun _ hk => ⟨hk.1.1.1.2, ⟨hk.1.1.2, ⟨hk.1.2, hk.2⟩⟩⟩)⟩, ⟨by (with_reducible repeat (first | apply Kd.R_alloc | apply Kd.R_drewN | apply Kd.R_drew)); exact Kd.R_mono HO199.out (fun _ hk => ⟨hk.1.1.1.2, ⟨hk.1.1.2, ⟨hk.1.2, hk.2⟩⟩⟩)⟩, ⟨by (with_reducible repeat (first | apply Kd.R_alloc | apply Kd.R_drewN | apply Kd.R_drew)); exact Kd.R_mono HO207.out (fun _ hk => ⟨hk.1.1.1.2, ⟨hk.1.1.2, ⟨hk.1.2, hk.2⟩⟩⟩)⟩, ⟨by (with_reducible repeat (first | apply Kd.R_alloc | apply Kd.R_drewN | apply Kd.R_drew)); exact Kd.R_mono HO211.out (fun _ hk => ⟨hk.1.1.1.2, ⟨hk.1.1.2, ⟨hk.1.2, hk.2⟩⟩⟩)⟩, ⟨by (with_reducible repeat (first | apply Kd.R_alloc | apply Kd.R_drewN | apply Kd.R_drew)); exact Kd.R_mono HO218.out (fun _ hk => ⟨hk.1.1.1.2, ⟨hk.1.1.2, ⟨hk.1.2, hk.2⟩⟩⟩)⟩, ⟨by repeat (first | (with_reducible first | exact HB.out | apply below_alloc | apply pw_below_drewN | apply below_drew1) | exact HB.out)⟩⟩
                      · replace c41 := Bool.eq_false_iff.mpr c41
                        subst c41
                        have H1 : (payofflaw11_CodeEncodes.j1 k1 l0 x3_1 t189 t196 t204 t208 t209 t215 true) = some r := by rw [if_neg (show ¬ (false = true) by decide)] at H; exact H
                        clear H
                        have H := H1
                        clear H1
                        have H' := Aside0.mk H
                        clear H
                        obtain ⟨Ao58, co58, eo58⟩ := Kd.R_slice HO192.out
                        subst eo58
                        obtain ⟨Ao59, co59, eo59⟩ := Kd.R_slice HO211.out
                        subst eo59
                        go_wp2_with (first | (go_at_call 26; (with_reducible refine (payofflaw11_sameBytes.calls k1 _ _ t189 _ _ t208 true _ ?side1 ?side2 ?side3 ?side4 A38.out).mono ?_); (case side1 => repeat (first | exact (Kd.R_reads' HO192.out).2.2 | (with_reducible refine Kd.C_alloc ?_ _) | (with_reducible refine Kd.C_drewN ?_ _) | (with_reducible refine Kd.C_drew ?_))); (case side2 => exact (Kd.R_reads' HO192.out).2.1); (case side3 => repeat (first | exact (Kd.R_reads' HO211.out).2.2 | (with_reducible refine Kd.C_alloc ?_ _) | (with_reducible refine Kd.C_drewN ?_ _) | (with_reducible refine Kd.C_drew ?_))); (case side4 => exact (Kd.R_reads' HO211.out).2.1); rintro e w' ⟨rfl, ⟨nd, rfl⟩⟩; obtain ⟨Ao60, co60, eo60⟩ := Kd.R_slice HO207.out; subst eo60) | (go_at_call 26; (with_reducible refine (payofflaw11_sameBytes.calls k1 _ _ t204 _ _ t208 false _ ?side1 ?side2 ?side3 ?side4 A40.out).mono ?_); (case side1 => repeat (first | exact (Kd.R_reads' HO207.out).2.2 | (with_reducible refine Kd.C_alloc ?_ _) | (with_reducible refine Kd.C_drewN ?_ _) | (with_reducible refine Kd.C_drew ?_))); (case side2 => exact (Kd.R_reads' HO207.out).2.1); (case side3 => repeat (first | exact (Kd.R_reads' HO211.out).2.2 | (with_reducible refine Kd.C_alloc ?_ _) | (with_reducible refine Kd.C_drewN ?_ _) | (with_reducible refine Kd.C_drew ?_))); (case side4 => exact (Kd.R_reads' HO211.out).2.1); rintro e w' ⟨rfl, ⟨nd, rfl⟩⟩))
                        go_meet
                        case rel => exact ⟨_, (true), (by first | rfl | (simp; done) | (simp [*]; done)), H', ⟨by have := HK1.out; first | omega | exact Nat.le_refl _⟩, ⟨by (with_reducible repeat (first | apply Kd.R_alloc | apply Kd.R_drewN | apply Kd.R_drew)); exact Kd.R_mono HO_3.out (fun _ hk => trivial)⟩, ⟨by (with_reducible repeat (first | apply Kd.R_alloc | apply Kd.R_drewN | apply Kd.R_drew)); exact Kd.R_mono HO192.out (fun _ hk => ⟨hk.1.1.1.2, ⟨hk.1.1.2, ⟨hk.1.2, hk.2⟩⟩⟩)⟩, ⟨by (with_reducible repeat (first | apply Kd.R_alloc | apply Kd.R_drewN | apply Kd.R_drew)); exact Kd.R_mono HO199.out (fun _ hk => ⟨hk.1.1.1.2, ⟨hk.1.1.2, ⟨hk.1.2, hk.2⟩⟩⟩)⟩, ⟨by (with_reducible repeat (first | apply Kd.R_alloc | apply Kd.R_drewN | apply Kd.R_drew)); exact Kd.R_mono HO207.out (fun _ hk => ⟨hk.1.1.1.2, ⟨hk.1.1.2, ⟨hk.1.2, hk.2⟩⟩⟩)⟩, ⟨by (with_reducible repeat (first | apply Kd.R_alloc | apply Kd.R_drewN | apply Kd.R_drew)); exact Kd.R_mono HO211.out (fun _ hk => ⟨hk.1.1.1.2, ⟨hk.1.1.2, ⟨hk.1.2, hk.2⟩⟩⟩)⟩, ⟨by (with_reducible repeat (first | apply Kd.R_alloc | apply Kd.R_drewN | apply Kd.R_drew)); exact Kd.R_mono HO218.out (fun _ hk => ⟨hk.1.1.1.2, ⟨hk.1.1.2, ⟨hk.1.2, hk.2⟩⟩⟩)⟩, ⟨by repeat (first | (with_reducible first | exact HB.out | apply below_alloc | apply pw_below_drewN | apply below_drew1) | exact HB.out)⟩⟩
                    · replace c39 := Bool.eq_false_iff.mpr c39
                      subst c39
                      have H1 : (payofflaw11_CodeEncodes.j1 k1 l0 x3_1 t189 t196 t204 t208 t209 t215 true) = some r := by rw [if_neg (show ¬ (false = true) by decide)] at H; exact H
                      clear H
                      have H := H1
                      clear H1
                      have H' := Aside0.mk H
                      clear H
                      obtain ⟨Ao61, co61, eo61⟩ := Kd.R_slice HO192.out
                      subst eo61
                      obtain ⟨Ao62, co62, eo62⟩ := Kd.R_slice HO211.out
                      subst eo62
                      go_wp2_with (first | (go_at_call 26; (with_reducible refine (payofflaw11_sameBytes.calls k1 _ _ t189 _ _ t208 false _ ?side1 ?side2 ?side3 ?side4 A38.out).mono ?_); (case side1 => repeat (first | exact (Kd.R_reads' HO192.out).2.2 | (with_reducible refine Kd.C_alloc ?_ _) | (with_reducible refine Kd.C_drewN ?_ _) | (with_reducible refine Kd.C_drew ?_))); (case side2 => exact (Kd.R_reads' HO192.out).2.1); (case side3 => repeat (first | exact (Kd.R_reads' HO211.out).2.2 | (with_reducible refine Kd.C_alloc ?_ _) | (with_reducible refine Kd.C_drewN ?_ _) | (with_reducible refine Kd.C_drew ?_))); (case side4 => exact (Kd.R_reads' HO211.out).2.1); rintro e w' ⟨rfl, ⟨nd, rfl⟩⟩))
                      go_meet
                      case rel => exact ⟨_, (true), (by first | rfl | (simp; done) | (simp [*]; done)), H', ⟨by have := HK1.out; first | omega | exact Nat.le_refl _⟩, ⟨by (with_reducible repeat (first | apply Kd.R_alloc | apply Kd.R_drewN | apply Kd.R_drew)); exact Kd.R_mono HO_3.out (fun _ hk => trivial)⟩, ⟨by (with_reducible repeat (first | apply Kd.R_alloc | apply Kd.R_drewN | apply Kd.R_drew)); exact Kd.R_mono HO192.out (fun _ hk => ⟨hk.1.1.1.2, ⟨hk.1.1.2, ⟨hk.1.2, hk.2⟩⟩⟩)⟩, ⟨by (with_reducible repeat (first | apply Kd.R_alloc | apply Kd.R_drewN | apply Kd.R_drew)); exact Kd.R_mono HO199.out (fun _ hk => ⟨hk.1.1.1.2, ⟨hk.1.1.2, ⟨hk.1.2, hk.2⟩⟩⟩)⟩, ⟨by (with_reducible repeat (first | apply Kd.R_alloc | apply Kd.R_drewN | apply Kd.R_drew)); exact Kd.R_mono HO207.out (fun _ hk => ⟨hk.1.1.1.2, ⟨hk.1.1.2, ⟨hk.1.2, hk.2⟩⟩⟩)⟩, ⟨by (with_reducible repeat (first | apply Kd.R_alloc | apply Kd.R_drewN | apply Kd.R_drew)); exact Kd.R_mono HO211.out (fun _ hk => ⟨hk.1.1.1.2, ⟨hk.1.1.2, ⟨hk.1.2, hk.2⟩⟩⟩)⟩, ⟨by (with_reducible repeat (first | apply Kd.R_alloc | apply Kd.R_drewN | apply Kd.R_drew)); exact Kd.R_mono HO218.out (fun _ hk => ⟨hk.1.1.1.2, ⟨hk.1.1.2, ⟨hk.1.2, hk.2⟩⟩⟩)⟩, ⟨by repeat (first | (with_reducible first | exact HB.out | apply below_alloc | apply pw_below_drewN | apply below_drew1) | exact HB.out)⟩⟩
                  · rw [if_neg c37] at H
                    have c37b0 : (t190 == t209) = false := beq_eq_false_iff_ne.mpr c37
                    have c37b1 : (t190 != t209) = true := bne_iff_ne.mpr c37
                    (first | rw [c37b0] | (simp only [i64_w, i32_w]; rw [c37b0]) | skip)
                    have H' := Aside0.mk H
                    clear H
                    go_wp2
                    go_meet
                    case rel => exact ⟨_, (true), (by first | rfl | (simp; done) | (simp [*]; done)), H', ⟨by have := HK1.out; first | omega | exact Nat.le_refl _⟩, ⟨by (with_reducible repeat (first | apply Kd.R_alloc | apply Kd.R_drewN | apply Kd.R_drew)); exact Kd.R_mono HO_3.out (fun _ hk => trivial)⟩, ⟨by (with_reducible repeat (first | apply Kd.R_alloc | apply Kd.R_drewN | apply Kd.R_drew)); exact Kd.R_mono HO192.out (fun _ hk => ⟨hk.1.1.1.2, ⟨hk.1.1.2, ⟨hk.1.2, hk.2⟩⟩⟩)⟩, ⟨by (with_reducible repeat (first | apply Kd.R_alloc | apply Kd.R_drewN | apply Kd.R_drew)); exact Kd.R_mono HO199.out (fun _ hk => ⟨hk.1.1.1.2, ⟨hk.1.1.2, ⟨hk.1.2, hk.2⟩⟩⟩)⟩, ⟨by (with_reducible repeat (first | apply Kd.R_alloc | apply Kd.R_drewN | apply Kd.R_drew)); exact Kd.R_mono HO207.out (fun _ hk => ⟨hk.1.1.1.2, ⟨hk.1.1.2, ⟨hk.1.2, hk.2⟩⟩⟩)⟩, ⟨by (with_reducible repeat (first | apply Kd.R_alloc | apply Kd.R_drewN | apply Kd.R_drew)); exact Kd.R_mono HO211.out (fun _ hk => ⟨hk.1.1.1.2, ⟨hk.1.1.2, ⟨hk.1.2, hk.2⟩⟩⟩)⟩, ⟨by (with_reducible repeat (first | apply Kd.R_alloc | apply Kd.R_drewN | apply Kd.R_drew)); exact Kd.R_mono HO218.out (fun _ hk => ⟨hk.1.1.1.2, ⟨hk.1.1.2, ⟨hk.1.2, hk.2⟩⟩⟩)⟩, ⟨by repeat (first | (with_reducible first | exact HB.out | apply below_alloc | apply pw_below_drewN | apply below_drew1) | exact HB.out)⟩⟩
                case rest =>
                  clear HC22
                  try clear c1
                  try clear hx1
                  try clear hf1
                  try clear c2
                  try clear p2
                  try clear q2
                  try clear c3
                  try clear c3b0
                  try clear c3b1
                  try clear q3
                  try clear c4
                  try clear c4b0
                  try clear c4b1
                  try clear q5
                  try clear p6
                  try clear c7
                  try clear c7b0
                  try clear c8
                  try clear c8b0
                  try clear c9
                  try clear p9
                  try clear q9
                  try clear hx9
                  try clear hf9
                  try clear c11
                  try clear hx11
                  try clear hf11
                  try clear c13
                  try clear c13b0
                  try clear c13b1
                  try clear c14
                  try clear c14b0
                  try clear c14b1
                  try clear c17
                  try clear c17b0
                  try clear c18
                  try clear c18b0
                  try clear c24
                  try clear q24
                  try clear c25
                  try clear q30
                  try clear c37
                  try clear c37b0
                  try clear c37b1
                  try clear c39
                  try clear c41
                  try clear c43
                  try clear c44
                  try clear c44b0
                  try clear c45
                  try clear c45b0
                  try clear q52
                  try clear hx11_0
                  try clear hx11_1
                  try clear hx11_2
                  try clear hx9_0
                  try clear hx9_1
                  try clear hx9_2
                  try clear p2
                  try clear p6
                  try clear p9
                  try clear q24
                  try clear q30
                  try clear q52
                  try clear q9
                  obtain ⟨kq, x109_21, rfl, HA, HJ21, HO_3, HO_5, HO_7, HO_9, HO_11, HO_13, HB⟩ := hcut
                  cases kq with
                  | zero => exact absurd HA.out (by simp [payofflaw11_CodeEncodes.j1])
                  | succ kj21 =>
                    have H := HA.out
                    clear HA
                    simp only [payofflaw11_CodeEncodes.j1] at H
                    by_cases c63 : x109_21 = true
                    · subst c63
                      have H1 : (none) = some r := by rw [if_pos rfl] at H; exact H
                      exact absurd H1 (by simp)
                    · replace c63 := Bool.eq_false_iff.mpr c63
                      subst c63
                      have H1 : (payofflaw11_CodeEncodes.l1 kj21 l0 x3_1 t189 t196 t204 t208 t209 t215 (l0.length : Int)) = some r := by rw [if_neg (show ¬ (false = true) by decide)] at H; exact H
                      clear H
                      have H := H1
                      clear H1
                      have H' := Aside0.mk H
                      clear H
                      go_wp2
                      go_loopg [15] kj21 (fun kq v15 w' => ∃ (x15_3 : Int), v15 = .int .i64 x15_3 ∧ Aside0 (payofflaw11_CodeEncodes.l1 kq l0 x3_1 t189 t196 t204 t208 t209 t215 x15_3 = some r) ∧ Aside0 (kq ≤ kj21) ∧ Aside0 (Kd.R k27 27 w' w.heap.size (fun _ => True) (.slice Ao23 x3_1.length co23) x3_1) ∧ Aside0 (Kd.R (Kd.int .u8) 5 w' w.heap.size (fun k_ => some k_ ≠ (v198 : Value).ownBlock ∧ some k_ ≠ (v206 : Value).ownBlock ∧ some k_ ≠ (v210 : Value).ownBlock ∧ some k_ ≠ (v217 : Value).ownBlock) v191 t189) ∧ Aside0 (Kd.R (Kd.int .u8) 5 w' w.heap.size (fun k_ => some k_ ≠ (v191 : Value).ownBlock ∧ some k_ ≠ (v206 : Value).ownBlock ∧ some k_ ≠ (v210 : Value).ownBlock ∧ some k_ ≠ (v217 : Value).ownBlock) v198 t196) ∧ Aside0 (Kd.R (Kd.int .u8) 5 w' w.heap.size (fun k_ => some k_ ≠ (v191 : Value).ownBlock ∧ some k_ ≠ (v198 : Value).ownBlock ∧ some k_ ≠ (v210 : Value).ownBlock ∧ some k_ ≠ (v217 : Value).ownBlock) v206 t204) ∧ Aside0 (Kd.R (Kd.int .u8) 5 w' w.heap.size (fun k_ => some k_ ≠ (v191 : Value).ownBlock ∧ some k_ ≠ (v198 : Value).ownBlock ∧ some k_ ≠ (v206 : Value).ownBlock ∧ some k_ ≠ (v217 : Value).ownBlock) v210 t208) ∧ Aside0 (Kd.R (Kd.int .u8) 5 w' w.heap.size (fun k_ => some k_ ≠ (v191 : Value).ownBlock ∧ some k_ ≠ (v198 : Value).ownBlock ∧ some k_ ≠ (v206 : Value).ownBlock ∧ some k_ ≠ (v210 : Value).ownBlock) v217 t215) ∧ Aside0 (Below w.heap.size w w'))
                      case atStart => exact ⟨((l0.length : Int)), (by first | rfl | (simp; done) | (simp [*]; done)), H', ⟨Nat.le_refl _⟩, ⟨by (with_reducible repeat (first | apply Kd.R_alloc | apply Kd.R_drewN | apply Kd.R_drew)); exact HO_3.out⟩, ⟨by (with_reducible repeat (first | apply Kd.R_alloc | apply Kd.R_drewN | apply Kd.R_drew)); exact HO_5.out⟩, ⟨by (with_reducible repeat (first | apply Kd.R_alloc | apply Kd.R_drewN | apply Kd.R_drew)); exact HO_7.out⟩, ⟨by (with_reducible repeat (first | apply Kd.R_alloc | apply Kd.R_drewN | apply Kd.R_drew)); exact HO_9.out⟩, ⟨by (with_reducible repeat (first | apply Kd.R_alloc | apply Kd.R_drewN | apply Kd.R_drew)); exact HO_11.out⟩, ⟨by (with_reducible repeat (first | apply Kd.R_alloc | apply Kd.R_drewN | apply Kd.R_drew)); exact HO_13.out⟩, ⟨by repeat (first | (with_reducible first | exact HB.out | apply below_alloc | apply pw_below_drewN | apply below_drew1) | exact HB.out)⟩⟩
                      case round =>
                        clear H'
                        try clear c1
                        try clear hx1
                        try clear hf1
                        try clear c2
                        try clear p2
                        try clear q2
                        try clear c3
                        try clear c3b0
                        try clear c3b1
                        try clear q3
                        try clear c4
                        try clear c4b0
                        try clear c4b1
                        try clear q5
                        try clear c6
                        try clear p6
                        try clear c7
                        try clear c7b0
                        try clear c8
                        try clear c8b0
                        try clear c9
                        try clear p9
                        try clear q9
                        try clear hx9
                        try clear hf9
                        try clear c11
                        try clear hx11
                        try clear hf11
                        try clear c13
                        try clear c13b0
                        try clear c13b1
                        try clear c14
                        try clear c14b0
                        try clear c14b1
                        try clear c17
                        try clear c17b0
                        try clear c18
                        try clear c18b0
                        try clear c24
                        try clear q24
                        try clear c25
                        try clear q30
                        try clear c37
                        try clear c37b0
                        try clear c37b1
                        try clear c39
                        try clear c41
                        try clear c43
                        try clear c44
                        try clear c44b0
                        try clear c45
                        try clear c45b0
                        try clear q52
                        try clear c63
                        try clear hx11_0
                        try clear hx11_1
                        try clear hx11_2
                        try clear hx9_0
                        try clear hx9_1
                        try clear hx9_2
                        try clear p2
                        try clear p6
                        try clear p9
                        try clear q2
                        try clear q24
                        try clear q3
                        try clear q30
                        try clear q5
                        try clear q52
                        try clear q9
                        obtain ⟨x15_3, rfl, HA, HK3, HO_3, HO_5, HO_7, HO_9, HO_11, HO_13, HB⟩ := hrel
                        cases gk with
                        | zero => exact absurd HA.out (by simp [payofflaw11_CodeEncodes.l1])
                        | succ k3 =>
                          have H := HA.out
                          clear HA
                          simp only [payofflaw11_CodeEncodes.l1] at H
                          by_cases c64 : x15_3 < (x3_1.length : Int)
                          · rw [if_pos c64] at H
                            have c64b0 : decide (x15_3 < (x3_1.length : Int)) = true := decide_eq_true c64
                            clear c64
                            by_cases c65 : 0 ≤ x15_3
                            · rw [if_pos c65] at H
                              have c65b0 : decide (0 ≤ x15_3) = true := decide_eq_true c65
                              clear c65
                              by_cases c66 : (!(((rd_T27 x3_1 x15_3).f0) == 77) || (!(((rd_T27 x3_1 x15_3).f1) == 0) || (!(((rd_T27 x3_1 x15_3).f2) == 0)))) = true
                              · rw [if_pos c66] at H
                                exact absurd H (by simp)
                              · rw [if_neg c66] at H
                                have c66b0 : (!(((rd_T27 x3_1 x15_3).f0) == 77) || (!(((rd_T27 x3_1 x15_3).f1) == 0) || (!(((rd_T27 x3_1 x15_3).f2) == 0)))) = false := by simpa using c66
                                clear c66
                                have H' := Aside0.mk H
                                clear H
                                have p227 : 0 ≤ (x15_3 : Int) := of_decide_eq_true (by first | (with_reducible assumption) | assumption)
                                have q227 : x15_3 < (x3_1.length : Int) := of_decide_eq_true (by first | (with_reducible assumption) | assumption)
                                obtain ⟨ad227, e227, hx227_0, hx227_1, hx227_2⟩ := at_T27 (Kd.R_reads' HO_3.out).2.2 x15_3 p227 q227
                                cases e227
                                replace p227 := eq_true p227
                                replace q227 := eq_true q227
                                go_wp2
                                go_roundg k3
                                case measure => have := HK1.out; have := HJ21.out; have := HK3.out; omega
                                case rel => exact ⟨(wrap64 (x15_3 + 1)), (by first | rfl | (simp; done) | (simp [*]; done)), H', ⟨by have := HK1.out; have := HJ21.out; have := HK3.out; omega⟩, ⟨by (with_reducible repeat (first | apply Kd.R_alloc | apply Kd.R_drewN | apply Kd.R_drew)); exact HO_3.out⟩, ⟨by (with_reducible repeat (first | apply Kd.R_alloc | apply Kd.R_drewN | apply Kd.R_drew)); exact HO_5.out⟩, ⟨by (with_reducible repeat (first | apply Kd.R_alloc | apply Kd.R_drewN | apply Kd.R_drew)); exact HO_7.out⟩, ⟨by (with_reducible repeat (first | apply Kd.R_alloc | apply Kd.R_drewN | apply Kd.R_drew)); exact HO_9.out⟩, ⟨by (with_reducible repeat (first | apply Kd.R_alloc | apply Kd.R_drewN | apply Kd.R_drew)); exact HO_11.out⟩, ⟨by (with_reducible repeat (first | apply Kd.R_alloc | apply Kd.R_drewN | apply Kd.R_drew)); exact HO_13.out⟩, ⟨by repeat (first | (with_reducible first | exact HB.out | apply below_alloc | apply pw_below_drewN | apply below_drew1) | exact HB.out)⟩⟩
                            · rw [if_neg c65] at H
                              exact absurd H (by simp)
                          · rw [if_neg c64] at H
                            have c64b0 : decide (x15_3 < (x3_1.length : Int)) = false := decide_eq_false c64
                            clear c64
                            have H' := Aside0.mk H
                            clear H
                            go_wp2
                            go_loopg [16] k3 (fun kq v16 w' => ∃ (x5_4 : List Int) (x16_4 : Int), v16 = .int .i64 x16_4 ∧ Aside0 (payofflaw11_CodeEncodes.l2 kq l0 x3_1 x5_4 t196 t204 t208 t209 t215 x16_4 = some r) ∧ Aside0 (kq ≤ k3) ∧ Aside0 (Kd.R k27 27 w' w.heap.size (fun _ => True) (.slice Ao23 x3_1.length co23) x3_1) ∧ Aside0 (Kd.R (Kd.int .u8) 5 w' w.heap.size (fun k_ => some k_ ≠ (v198 : Value).ownBlock ∧ some k_ ≠ (v206 : Value).ownBlock ∧ some k_ ≠ (v210 : Value).ownBlock ∧ some k_ ≠ (v217 : Value).ownBlock) v191 x5_4) ∧ Aside0 (Kd.R (Kd.int .u8) 5 w' w.heap.size (fun k_ => some k_ ≠ (v191 : Value).ownBlock ∧ some k_ ≠ (v206 : Value).ownBlock ∧ some k_ ≠ (v210 : Value).ownBlock ∧ some k_ ≠ (v217 : Value).ownBlock) v198 t196) ∧ Aside0 (Kd.R (Kd.int .u8) 5 w' w.heap.size (fun k_ => some k_ ≠ (v191 : Value).ownBlock ∧ some k_ ≠ (v198 : Value).ownBlock ∧ some k_ ≠ (v210 : Value).ownBlock ∧ some k_ ≠ (v217 : Value).ownBlock) v206 t204) ∧ Aside0 (Kd.R (Kd.int .u8) 5 w' w.heap.size (fun k_ => some k_ ≠ (v191 : Value).ownBlock ∧ some k_ ≠ (v198 : Value).ownBlock ∧ some k_ ≠ (v206 : Value).ownBlock ∧ some k_ ≠ (v217 : Value).ownBlock) v210 t208) ∧ Aside0 (Kd.R (Kd.int .u8) 5 w' w.heap.size (fun k_ => some k_ ≠ (v191 : Value).ownBlock ∧ some k_ ≠ (v198 : Value).ownBlock ∧ some k_ ≠ (v206 : Value).ownBlock ∧ some k_ ≠ (v210 : Value).ownBlock) v217 t215) ∧ Aside0 (Below w.heap.size w w'))
                            case atStart => exact ⟨(t189), (0), (by first | rfl | (simp; done) | (simp [*]; done)), H', ⟨Nat.le_refl _⟩, ⟨by (with_reducible repeat (first | apply Kd.R_alloc | apply Kd.R_drewN | apply Kd.R_drew)); exact HO_3.out⟩, ⟨by (with_reducible repeat (first | apply Kd.R_alloc | apply Kd.R_drewN | apply Kd.R_drew)); exact HO_5.out⟩, ⟨by (with_reducible repeat (first | apply Kd.R_alloc | apply Kd.R_drewN | apply Kd.R_drew)); exact HO_7.out⟩, ⟨by (with_reducible repeat (first | apply Kd.R_alloc | apply Kd.R_drewN | apply Kd.R_drew)); exact HO_9.out⟩, ⟨by (with_reducible repeat (first | apply Kd.R_alloc | apply Kd.R_drewN | apply Kd.R_drew)); exact HO_11.out⟩, ⟨by (with_reducible repeat (first | apply Kd.R_alloc | apply Kd.R_drewN | apply Kd.R_drew)); exact HO_13.out⟩, ⟨by repeat (first | (with_reducible first | exact HB.out | apply below_alloc | apply pw_below_drewN | apply below_drew1) | exact HB.out)⟩⟩
                            case round =>
                              clear H'
                              try clear c1
                              try clear hx1
                              try clear hf1
                              try clear c2
                              try clear p2
                              try clear q2
                              try clear hx2
                              try clear c3
                              try clear c3b0
                              try clear c3b1
                              try clear q3
                              try clear c4
                              try clear c4b0
                              try clear c4b1
                              try clear q5
                              try clear c6
                              try clear p6
                              try clear c7
                              try clear c7b0
                              try clear c8
                              try clear c8b0
                              try clear c9
                              try clear p9
                              try clear q9
                              try clear hx9
                              try clear hf9
                              try clear c11
                              try clear hx11
                              try clear hf11
                              try clear c13
                              try clear c13b0
                              try clear c13b1
                              try clear c14
                              try clear c14b0
                              try clear c14b1
                              try clear c17
                              try clear c17b0
                              try clear c18
                              try clear c18b0
                              try clear p22
                              try clear q22
                              try clear hx22
                              try clear c24
                              try clear q24
                              try clear c25
                              try clear q30
                              try clear c37
                              try clear c37b0
                              try clear c37b1
                              try clear c39
                              try clear c41
                              try clear c43
                              try clear c44
                              try clear c44b0
                              try clear c45
                              try clear c45b0
                              try clear q52
                              try clear c63
                              try clear c64
                              try clear c64b0
                              try clear p64
                              try clear c65
                              try clear c65b0
                              try clear c66
                              try clear c66b0
                              try clear hx11_0
                              try clear hx11_1
                              try clear hx11_2
                              try clear hx227_0
                              try clear hx227_1
                              try clear hx227_2
                              try clear hx9_0
                              try clear hx9_1
                              try clear hx9_2
                              try clear p2
                              try clear p227
                              try clear p6
                              try clear p9
                              try clear q2
                              try clear q227
                              try clear q24
                              try clear q3
                              try clear q30
                              try clear q5
                              try clear q52
                              try clear q9
                              obtain ⟨x5_4, x16_4, rfl, HA, HK4, HO_3, HO_5, HO_7, HO_9, HO_11, HO_13, HB⟩ := hrel
                              cases gk with
                              | zero => exact absurd HA.out (by simp [payofflaw11_CodeEncodes.l2])
                              | succ k4 =>
                                have H := HA.out
                                clear HA
                                simp only [payofflaw11_CodeEncodes.l2] at H
                                by_cases c67 : x16_4 < (x5_4.length : Int)
                                · rw [if_pos c67] at H
                                  have c67b0 : decide (x16_4 < (x5_4.length : Int)) = true := decide_eq_true c67
                                  clear c67
                                  by_cases c68 : 0 ≤ x16_4
                                  · rw [if_pos c68] at H
                                    have c68b0 : decide (0 ≤ x16_4) = true := decide_eq_true c68
                                    clear c68
                                    obtain ⟨y228, hy228⟩ : ∃ y_ : List Int, y_ = (x5_4.set (x16_4 : Int).toNat 238) := ⟨_, rfl⟩
                                    replace H : (payofflaw11_CodeEncodes.l2 k4 l0 x3_1 y228 t196 t204 t208 t209 t215 (wrap64 (x16_4 + 1))) = some r := by first | (rw [hy228]; with_reducible exact H) | (have H2_ := (Option.bind_some _ _).symm.trans H; rw [hy228]; with_reducible exact H2_) | (have H2_ := (Option.bind_some _ _).symm.trans H; with_reducible exact H2_) | with_reducible exact H | (rw [hy228]; exact H) | exact H
                                    have Ny228 := Aside0.mk hy228
                                    clear hy228
                                    have H' := Aside0.mk H
                                    clear H
                                    obtain ⟨Ao70, co70, eo70⟩ := Kd.R_slice HO_5.out
                                    subst eo70
                                    have p69 : 0 ≤ (x16_4 : Int) := of_decide_eq_true (by first | (with_reducible assumption) | assumption)
                                    have q69 : (x16_4 : Int) < ((x5_4.length : Int) : Int) := of_decide_eq_true (by first | (with_reducible assumption) | assumption)
                                    obtain ⟨go69, co69, eo69, gb69, gl69, cl69, HG69⟩ := Kd.R_form HO_5.out (by omega)
                                    (first | cases eo69 | (injection eo69 with ea_ en_ ec_; (first | subst ea_ | (injection ea_ with ea_; subst ea_)); subst ec_; clear en_))
                                    have GB69 := Aside0.mk gb69
                                    have GG69 := Aside0.mk HG69
                                    clear gb69 gl69 HG69
                                    obtain ⟨hx69_0, hf69_0⟩ := Kd.R_celln 0 HO_5.out (x16_4 : Int) p69 q69
                                    replace p69 := eq_true p69
                                    replace q69 := eq_true q69
                                    have HP71 := Kd.R_putg HO_5.out (x16_4 : Int) 238
                                    go_wp2_with (first | ((with_reducible refine gate_store (t := 5) (p := 132) rfl ?_); refine store_event (t := 5) (p := 132) (v := ?vo_w72) (w1 := (wr.setCell ⟨go69, (x16_4 : Int).toNat, none⟩ (.int .u8 238))) ?hg ?ho ?hn ?hr ?_; (case ho => rfl); (case hg => rfl); (case hn => rfl); (case hr => first | (go_simp; done) | (go_simp; rfl)); intro w72 hw; have hg : wr.grownBy w72 (some go69) := (by rw [hw]; exact HP71.2); have hp_ : Kd.R (Kd.int .u8) 5 w72 w.heap.size (fun k_ => some k_ ≠ (v198 : Value).ownBlock ∧ some k_ ≠ (v206 : Value).ownBlock ∧ some k_ ≠ (v210 : Value).ownBlock ∧ some k_ ≠ (v217 : Value).ownBlock) (.slice (some ⟨go69, 0, none⟩) x5_4.length co70) y228 := (by rw [hw, Ny228.out]; exact HP71.1); clear HP71; have n0_ := Aside0.mk (Kd.R_over' (v := (.slice (some ⟨go69, 0, none⟩) x5_4.length co70)) (by (with_reducible repeat (first | apply Kd.R_alloc | apply Kd.R_drewN | apply Kd.R_drew)); exact HO_3.out) (Kd.R_typed HO_5.out) (by decide) hg); have n1_ := Aside0.mk (hp_); have n2_ := Aside0.mk (Kd.R_after (v := (.slice (some ⟨go69, 0, none⟩) x5_4.length co70)) (v1 := (.slice (some ⟨go69, 0, none⟩) x5_4.length co70)) (ok := (fun k_ => some k_ ≠ (v206 : Value).ownBlock ∧ some k_ ≠ (v210 : Value).ownBlock ∧ some k_ ≠ (v217 : Value).ownBlock)) (by (with_reducible repeat (first | apply Kd.R_alloc | apply Kd.R_drewN | apply Kd.R_drew)); exact Kd.R_mono HO_7.out (fun _ hk => ⟨⟨hk.2.1, ⟨hk.2.2.1, hk.2.2.2⟩⟩, hk.1⟩)) hg (.inl rfl)); have n3_ := Aside0.mk (Kd.R_after (v := (.slice (some ⟨go69, 0, none⟩) x5_4.length co70)) (v1 := (.slice (some ⟨go69, 0, none⟩) x5_4.length co70)) (ok := (fun k_ => some k_ ≠ (v198 : Value).ownBlock ∧ some k_ ≠ (v210 : Value).ownBlock ∧ some k_ ≠ (v217 : Value).ownBlock)) (by (with_reducible repeat (first | apply Kd.R_alloc | apply Kd.R_drewN | apply Kd.R_drew)); exact Kd.R_mono HO_9.out (fun _ hk => ⟨⟨hk.2.1, ⟨hk.2.2.1, hk.2.2.2⟩⟩, hk.1⟩)) hg (.inl rfl)); have n4_ := Aside0.mk (Kd.R_after (v := (.slice (some ⟨go69, 0, none⟩) x5_4.length co70)) (v1 := (.slice (some ⟨go69, 0, none⟩) x5_4.length co70)) (ok := (fun k_ => some k_ ≠ (v198 : Value).ownBlock ∧ some k_ ≠ (v206 : Value).ownBlock ∧ some k_ ≠ (v217 : Value).ownBlock)) (by (with_reducible repeat (first | apply Kd.R_alloc | apply Kd.R_drewN | apply Kd.R_drew)); exact Kd.R_mono HO_11.out (fun _ hk => ⟨⟨hk.2.1, ⟨hk.2.2.1, hk.2.2.2⟩⟩, hk.1⟩)) hg (.inl rfl)); have n5_ := Aside0.mk (Kd.R_after (v := (.slice (some ⟨go69, 0, none⟩) x5_4.length co70)) (v1 := (.slice (some ⟨go69, 0, none⟩) x5_4.length co70)) (ok := (fun k_ => some k_ ≠ (v198 : Value).ownBlock ∧ some k_ ≠ (v206 : Value).ownBlock ∧ some k_ ≠ (v210 : Value).ownBlock)) (by (with_reducible repeat (first | apply Kd.R_alloc | apply Kd.R_drewN | apply Kd.R_drew)); exact Kd.R_mono HO_13.out (fun _ hk => ⟨⟨hk.2.1, ⟨hk.2.2.1, hk.2.2.2⟩⟩, hk.1⟩)) hg (.inl rfl)); have n6_ := Aside0.mk ((by rw [hw]; exact below_set (HB.out) GB69.out : Below w.heap.size w w72)); clear HO_3; clear HO_5; clear HO_7; clear HO_9; clear HO_11; clear HO_13; clear HB; have HO_3 := n0_; have HO_5 := n1_; have HO_7 := n2_; have HO_9 := n3_; have HO_11 := n4_; have HO_13 := n5_; have HB := n6_; clear n0_ n1_ n2_ n3_ n4_ n5_ n6_; clear hg hw hp_))
                                    go_roundg k4
                                    case measure => have := HK1.out; have := HJ21.out; have := HK3.out; have := HK4.out; omega
                                    case rel => exact ⟨(y228), (wrap64 (x16_4 + 1)), (by first | rfl | (simp; done) | (simp [*]; done)), H', ⟨by have := HK1.out; have := HJ21.out; have := HK3.out; have := HK4.out; omega⟩, ⟨by (with_reducible repeat (first | apply Kd.R_alloc | apply Kd.R_drewN | apply Kd.R_drew)); exact HO_3.out⟩, ⟨by (with_reducible repeat (first | apply Kd.R_alloc | apply Kd.R_drewN | apply Kd.R_drew)); exact HO_5.out⟩, ⟨by (with_reducible repeat (first | apply Kd.R_alloc | apply Kd.R_drewN | apply Kd.R_drew)); exact Kd.R_mono HO_7.out (fun _ hk => ⟨hk.2, ⟨hk.1.1, ⟨hk.1.2.1, hk.1.2.2⟩⟩⟩)⟩, ⟨by (with_reducible repeat (first | apply Kd.R_alloc | apply Kd.R_drewN | apply Kd.R_drew)); exact Kd.R_mono HO_9.out (fun _ hk => ⟨hk.2, ⟨hk.1.1, ⟨hk.1.2.1, hk.1.2.2⟩⟩⟩)⟩, ⟨by (with_reducible repeat (first | apply Kd.R_alloc | apply Kd.R_drewN | apply Kd.R_drew)); exact Kd.R_mono HO_11.out (fun _ hk => ⟨hk.2, ⟨hk.1.1, ⟨hk.1.2.1, hk.1.2.2⟩⟩⟩)⟩, ⟨by (with_reducible repeat (first | apply Kd.R_alloc | apply Kd.R_drewN | apply Kd.R_drew)); exact Kd.R_mono HO_13.out (fun _ hk => ⟨hk.2, ⟨hk.1.1, ⟨hk.1.2.1, hk.1.2.2⟩⟩⟩)⟩, ⟨by repeat (first | (with_reducible first | exact HB.out | apply below_alloc | apply pw_below_drewN | apply below_drew1) | exact HB.out)⟩⟩
                                  · rw [if_neg c68] at H
                                    exact absurd H (by simp)
                                · rw [if_neg c67] at H
                                  have c67b0 : decide (x16_4 < (x5_4.length : Int)) = false := decide_eq_false c67
                                  clear c67
                                  obtain ⟨y229, hy229⟩ : ∃ y_ : List Int, y_ = (([] : List Int)) := ⟨_, rfl⟩
                                  replace H : (if y229.length + x5_4.length < 140737488355328 then (payofflaw11_CodeEncodes.l3 k4 l0 x3_1 x5_4 t196 t204 t208 t209 t215 (y229 ++ x5_4) 0) else (none)) = some r := by first | (rw [hy229]; with_reducible exact H) | (have H2_ := (Option.bind_some _ _).symm.trans H; rw [hy229]; with_reducible exact H2_) | (have H2_ := (Option.bind_some _ _).symm.trans H; with_reducible exact H2_) | with_reducible exact H | (rw [hy229]; exact H) | exact H
                                  have Ny229 := Aside0.mk hy229
                                  clear hy229
                                  by_cases c73 : y229.length + x5_4.length < 140737488355328
                                  · rw [if_pos c73] at H
                                    have LMc73 := Aside0.mk c73
                                    clear c73
                                    obtain ⟨y232, hy232⟩ : ∃ y_ : List Int, y_ = (y229 ++ x5_4) := ⟨_, rfl⟩
                                    replace H : (payofflaw11_CodeEncodes.l3 k4 l0 x3_1 x5_4 t196 t204 t208 t209 t215 y232 0) = some r := by first | (rw [hy232]; with_reducible exact H) | (have H2_ := (Option.bind_some _ _).symm.trans H; rw [hy232]; with_reducible exact H2_) | (have H2_ := (Option.bind_some _ _).symm.trans H; with_reducible exact H2_) | with_reducible exact H | (rw [hy232]; exact H) | exact H
                                    have Ny232 := Aside0.mk hy232
                                    clear hy232
                                    have H' := Aside0.mk H
                                    clear H
                                    obtain ⟨Ao74, co74, eo74⟩ := Kd.R_slice HO_5.out
                                    subst eo74
                                    go_wp2
                                    go_loopg [17, 18] k4 (fun kq v17 v18 w' => ∃ (x17_5 : List Int) (x18_5 : Int), v18 = .int .i64 x18_5 ∧ Aside0 (payofflaw11_CodeEncodes.l3 kq l0 x3_1 x5_4 t196 t204 t208 t209 t215 x17_5 x18_5 = some r) ∧ Aside0 (kq ≤ k4) ∧ Aside0 (Kd.R k27 27 w' w.heap.size (fun _ => True) (.slice Ao23 x3_1.length co23) x3_1) ∧ Aside0 (Kd.R (Kd.int .u8) 5 w' w.heap.size (fun k_ => some k_ ≠ (v198 : Value).ownBlock ∧ some k_ ≠ (v206 : Value).ownBlock ∧ some k_ ≠ (v210 : Value).ownBlock ∧ some k_ ≠ (v217 : Value).ownBlock ∧ True) (.slice Ao74 x5_4.length co74) x5_4) ∧ Aside0 (Kd.R (Kd.int .u8) 5 w' w.heap.size (fun k_ => some k_ ≠ ((.slice Ao74 x5_4.length co74) : Value).ownBlock ∧ some k_ ≠ (v206 : Value).ownBlock ∧ some k_ ≠ (v210 : Value).ownBlock ∧ some k_ ≠ (v217 : Value).ownBlock ∧ some k_ ≠ (v17 : Value).ownBlock) v198 t196) ∧ Aside0 (Kd.R (Kd.int .u8) 5 w' w.heap.size (fun k_ => some k_ ≠ ((.slice Ao74 x5_4.length co74) : Value).ownBlock ∧ some k_ ≠ (v198 : Value).ownBlock ∧ some k_ ≠ (v210 : Value).ownBlock ∧ some k_ ≠ (v217 : Value).ownBlock ∧ some k_ ≠ (v17 : Value).ownBlock) v206 t204) ∧ Aside0 (Kd.R (Kd.int .u8) 5 w' w.heap.size (fun k_ => some k_ ≠ ((.slice Ao74 x5_4.length co74) : Value).ownBlock ∧ some k_ ≠ (v198 : Value).ownBlock ∧ some k_ ≠ (v206 : Value).ownBlock ∧ some k_ ≠ (v217 : Value).ownBlock ∧ some k_ ≠ (v17 : Value).ownBlock) v210 t208) ∧ Aside0 (Kd.R (Kd.int .u8) 5 w' w.heap.size (fun k_ => some k_ ≠ ((.slice Ao74 x5_4.length co74) : Value).ownBlock ∧ some k_ ≠ (v198 : Value).ownBlock ∧ some k_ ≠ (v206 : Value).ownBlock ∧ some k_ ≠ (v210 : Value).ownBlock ∧ some k_ ≠ (v17 : Value).ownBlock) v217 t215) ∧ Aside0 (Kd.R (Kd.int .u8) 5 w' w.heap.size (fun k_ => True ∧ some k_ ≠ (v198 : Value).ownBlock ∧ some k_ ≠ (v206 : Value).ownBlock ∧ some k_ ≠ (v210 : Value).ownBlock ∧ some k_ ≠ (v217 : Value).ownBlock) v17 x17_5) ∧ Aside0 (Sh (.slice Ao74 x5_4.length co74) v17 x5_4 x17_5) ∧ Aside0 (Below w.heap.size w w'))
                                    case atStart => exact ⟨(y232), (0), (by first | rfl | (simp; done) | (simp [*]; done)), H', ⟨Nat.le_refl _⟩, ⟨by (with_reducible repeat (first | apply Kd.R_alloc | apply Kd.R_drewN | apply Kd.R_drew)); exact HO_3.out⟩, ⟨by (with_reducible repeat (first | apply Kd.R_alloc | apply Kd.R_drewN | apply Kd.R_drew)); exact Kd.R_mono HO_5.out (fun _ hk => ⟨hk.1, ⟨hk.2.1, ⟨hk.2.2.1, ⟨hk.2.2.2, trivial⟩⟩⟩⟩)⟩, ⟨by (with_reducible repeat (first | apply Kd.R_alloc | apply Kd.R_drewN | apply Kd.R_drew)); exact Kd.R_mono HO_7.out (fun _ hk => ⟨hk.1, ⟨hk.2.1, ⟨hk.2.2.1, ⟨hk.2.2.2, hk.1⟩⟩⟩⟩)⟩, ⟨by (with_reducible repeat (first | apply Kd.R_alloc | apply Kd.R_drewN | apply Kd.R_drew)); exact Kd.R_mono HO_9.out (fun _ hk => ⟨hk.1, ⟨hk.2.1, ⟨hk.2.2.1, ⟨hk.2.2.2, hk.1⟩⟩⟩⟩)⟩, ⟨by (with_reducible repeat (first | apply Kd.R_alloc | apply Kd.R_drewN | apply Kd.R_drew)); exact Kd.R_mono HO_11.out (fun _ hk => ⟨hk.1, ⟨hk.2.1, ⟨hk.2.2.1, ⟨hk.2.2.2, hk.1⟩⟩⟩⟩)⟩, ⟨by (with_reducible repeat (first | apply Kd.R_alloc | apply Kd.R_drewN | apply Kd.R_drew)); exact Kd.R_mono HO_13.out (fun _ hk => ⟨hk.1, ⟨hk.2.1, ⟨hk.2.2.1, ⟨hk.2.2.2, hk.1⟩⟩⟩⟩)⟩, ⟨by (with_reducible repeat (first | apply Kd.R_alloc | apply Kd.R_drewN | apply Kd.R_drew)); rw [Ny232.out, Ny229.out, List.nil_append]; exact Kd.R_mono HO_5.out (fun _ hk => ⟨trivial, ⟨hk.1, ⟨hk.2.1, ⟨hk.2.2.1, hk.2.2.2⟩⟩⟩⟩)⟩, ⟨by rw [Ny232.out, Ny229.out, List.nil_append]; exact Sh.refl HO_5.out⟩, ⟨by repeat (first | (with_reducible first | exact HB.out | apply below_alloc | apply pw_below_drewN | apply below_drew1) | exact HB.out)⟩⟩
                                    case round =>
                                      clear H'
                                      try clear c1
                                      try clear hx1
                                      try clear hf1
                                      try clear c2
                                      try clear p2
                                      try clear q2
                                      try clear hx2
                                      try clear c3
                                      try clear c3b0
                                      try clear c3b1
                                      try clear q3
                                      try clear c4
                                      try clear c4b0
                                      try clear c4b1
                                      try clear q5
                                      try clear c6
                                      try clear p6
                                      try clear q6
                                      try clear hx6
                                      try clear hf6
                                      try clear c7
                                      try clear c7b0
                                      try clear c8
                                      try clear c8b0
                                      try clear c9
                                      try clear p9
                                      try clear q9
                                      try clear hx9
                                      try clear hf9
                                      try clear c11
                                      try clear hx11
                                      try clear hf11
                                      try clear c13
                                      try clear c13b0
                                      try clear c13b1
                                      try clear c14
                                      try clear c14b0
                                      try clear c14b1
                                      try clear c17
                                      try clear c17b0
                                      try clear c18
                                      try clear c18b0
                                      try clear p22
                                      try clear q22
                                      try clear hx22
                                      try clear c24
                                      try clear q24
                                      try clear c25
                                      try clear q30
                                      try clear c37
                                      try clear c37b0
                                      try clear c37b1
                                      try clear c39
                                      try clear c41
                                      try clear c43
                                      try clear c44
                                      try clear c44b0
                                      try clear c45
                                      try clear c45b0
                                      try clear q52
                                      try clear c63
                                      try clear c64
                                      try clear c64b0
                                      try clear p64
                                      try clear c65
                                      try clear c65b0
                                      try clear c66
                                      try clear c66b0
                                      try clear c67
                                      try clear c67b0
                                      try clear c68
                                      try clear c68b0
                                      try clear p69
                                      try clear q69
                                      try clear hx69
                                      try clear hf69
                                      try clear c73
                                      try clear hx11_0
                                      try clear hx11_1
                                      try clear hx11_2
                                      try clear hx227_0
                                      try clear hx227_1
                                      try clear hx227_2
                                      try clear hx69_0
                                      try clear hx9_0
                                      try clear hx9_1
                                      try clear hx9_2
                                      try clear p2
                                      try clear p22
                                      try clear p227
                                      try clear p6
                                      try clear p64
                                      try clear p69
                                      try clear p9
                                      try clear q2
                                      try clear q22
                                      try clear q227
                                      try clear q24
                                      try clear q3
                                      try clear q30
                                      try clear q5
                                      try clear q52
                                      try clear q69
                                      try clear q9
                                      obtain ⟨x17_5, x18_5, rfl, HA, HK5, HO_3, HO_5, HO_7, HO_9, HO_11, HO_13, HO_17, HSH, HB⟩ := hrel
                                      cases gk with
                                      | zero => exact absurd HA.out (by simp [payofflaw11_CodeEncodes.l3])
                                      | succ k5 =>
                                        have H := HA.out
                                        clear HA
                                        simp only [payofflaw11_CodeEncodes.l3] at H
                                        by_cases c78 : x18_5 < 70
                                        · rw [if_pos c78] at H
                                          have c78b0 : decide (x18_5 < 70) = true := decide_eq_true c78
                                          clear c78
                                          by_cases c79 : x17_5.length < 140737488355328
                                          · rw [if_pos c79] at H
                                            have LMc79 := Aside0.mk c79
                                            clear c79
                                            obtain ⟨y235, hy235⟩ : ∃ y_ : List Int, y_ = (x17_5 ++ [239]) := ⟨_, rfl⟩
                                            replace H : (payofflaw11_CodeEncodes.l3 k5 l0 x3_1 x5_4 t196 t204 t208 t209 t215 y235 (wrap64 (x18_5 + 1))) = some r := by first | (rw [hy235]; with_reducible exact H) | (have H2_ := (Option.bind_some _ _).symm.trans H; rw [hy235]; with_reducible exact H2_) | (have H2_ := (Option.bind_some _ _).symm.trans H; with_reducible exact H2_) | with_reducible exact H | (rw [hy235]; exact H) | exact H
                                            have Ny235 := Aside0.mk hy235
                                            clear hy235
                                            have H' := Aside0.mk H
                                            clear H
                                            go_wp2_with (first | ((with_reducible refine gate_builtin (b := .append) (xs := #[.tmp 138, .tmp 139]) rfl ?_); (try (refine gate_guard (by rfl) ?_; dsimp only)); at_builtin; refine R_append_went (w0 := w) w.heap.size rfl (.tmp 138) (.tmp 139) 38 5 (.int .u8 0) 1 rfl Tryd.underlying38 info5 rfl (by omega) u17 x17_5 239 (fun k_ => True ∧ some k_ ≠ (v198 : Value).ownBlock ∧ some k_ ≠ (v206 : Value).ownBlock ∧ some k_ ≠ (v210 : Value).ownBlock ∧ some k_ ≠ (v217 : Value).ownBlock) rfl rfl ?aF ?aO ?aB ?aS ?aL ?_; (case aB => exact (by repeat (first | (with_reducible first | exact HB.out | apply below_alloc | apply pw_below_drewN | apply below_drew1) | exact HB.out))); (case aF => exact (fun k_ hk => ⟨trivial, Kd.fresh' (Kd.R_lt (by (with_reducible repeat (first | apply Kd.R_alloc | apply Kd.R_drewN | apply Kd.R_drew)); exact HO_7.out)) k_ hk, Kd.fresh' (Kd.R_lt (by (with_reducible repeat (first | apply Kd.R_alloc | apply Kd.R_drewN | apply Kd.R_drew)); exact HO_9.out)) k_ hk, Kd.fresh' (Kd.R_lt (by (with_reducible repeat (first | apply Kd.R_alloc | apply Kd.R_drewN | apply Kd.R_drew)); exact HO_11.out)) k_ hk, Kd.fresh' (Kd.R_lt (by (with_reducible repeat (first | apply Kd.R_alloc | apply Kd.R_drewN | apply Kd.R_drew)); exact HO_13.out)) k_ hk⟩)); (case aO => exact (by (with_reducible repeat (first | apply Kd.R_alloc | apply Kd.R_drewN | apply Kd.R_drew)); exact HO_17.out)); (case aS => exact (below_size (by repeat (first | (with_reducible first | exact HB.out | apply below_alloc | apply pw_below_drewN | apply below_drew1) | exact HB.out)))); (case aL => have := LMc79.out; omega); intro v236 w80 ho hb hg hat hwent; obtain ⟨hsh1_, hsh2_⟩ := Sh.append (by (with_reducible repeat (first | apply Kd.R_alloc | apply Kd.R_drewN | apply Kd.R_drew)); exact HO_5.out) HSH.out ho hg hat hwent; rw [← Ny235.out] at ho hsh2_; clear hwent; have n0_ := Aside0.mk (Kd.R_over' (by (with_reducible repeat (first | apply Kd.R_alloc | apply Kd.R_drewN | apply Kd.R_drew)); exact HO_3.out) (Kd.R_typed (by (with_reducible repeat (first | apply Kd.R_alloc | apply Kd.R_drewN | apply Kd.R_drew)); exact HO_17.out)) (by decide) hg); have n1_ := Aside0.mk hsh1_; have n10_ := Aside0.mk hsh2_; clear hsh1_ hsh2_ HSH; have n2_ := Aside0.mk (Kd.R_after (ok := (fun k_ => some k_ ≠ (.slice Ao74 x5_4.length co74 : Value).ownBlock ∧ some k_ ≠ (v206 : Value).ownBlock ∧ some k_ ≠ (v210 : Value).ownBlock ∧ some k_ ≠ (v217 : Value).ownBlock)) (by (with_reducible repeat (first | apply Kd.R_alloc | apply Kd.R_drewN | apply Kd.R_drew)); exact Kd.R_mono HO_7.out (fun _ hk => ⟨⟨hk.1, ⟨hk.2.1, ⟨hk.2.2.1, hk.2.2.2.1⟩⟩⟩, hk.2.2.2.2⟩)) hg hat); have n3_ := Aside0.mk (Kd.R_after (ok := (fun k_ => some k_ ≠ (.slice Ao74 x5_4.length co74 : Value).ownBlock ∧ some k_ ≠ (v198 : Value).ownBlock ∧ some k_ ≠ (v210 : Value).ownBlock ∧ some k_ ≠ (v217 : Value).ownBlock)) (by (with_reducible repeat (first | apply Kd.R_alloc | apply Kd.R_drewN | apply Kd.R_drew)); exact Kd.R_mono HO_9.out (fun _ hk => ⟨⟨hk.1, ⟨hk.2.1, ⟨hk.2.2.1, hk.2.2.2.1⟩⟩⟩, hk.2.2.2.2⟩)) hg hat); have n4_ := Aside0.mk (Kd.R_after (ok := (fun k_ => some k_ ≠ (.slice Ao74 x5_4.length co74 : Value).ownBlock ∧ some k_ ≠ (v198 : Value).ownBlock ∧ some k_ ≠ (v206 : Value).ownBlock ∧ some k_ ≠ (v217 : Value).ownBlock)) (by (with_reducible repeat (first | apply Kd.R_alloc | apply Kd.R_drewN | apply Kd.R_drew)); exact Kd.R_mono HO_11.out (fun _ hk => ⟨⟨hk.1, ⟨hk.2.1, ⟨hk.2.2.1, hk.2.2.2.1⟩⟩⟩, hk.2.2.2.2⟩)) hg hat); have n5_ := Aside0.mk (Kd.R_after (ok := (fun k_ => some k_ ≠ (.slice Ao74 x5_4.length co74 : Value).ownBlock ∧ some k_ ≠ (v198 : Value).ownBlock ∧ some k_ ≠ (v206 : Value).ownBlock ∧ some k_ ≠ (v210 : Value).ownBlock)) (by (with_reducible repeat (first | apply Kd.R_alloc | apply Kd.R_drewN | apply Kd.R_drew)); exact Kd.R_mono HO_13.out (fun _ hk => ⟨⟨hk.1, ⟨hk.2.1, ⟨hk.2.2.1, hk.2.2.2.1⟩⟩⟩, hk.2.2.2.2⟩)) hg hat); have n6_ := Aside0.mk (hb); have n9_ := Aside0.mk (ho); clear HO_3; clear HO_5; clear HO_7; clear HO_9; clear HO_11; clear HO_13; clear HB; clear HO_17; have HO_3 := n0_; have HO_5 := n1_; have HO_7 := n2_; have HO_9 := n3_; have HO_11 := n4_; have HO_13 := n5_; have HB := n6_; have HO237 := n9_; have HSH := n10_; clear n10_; clear n0_ n1_ n2_ n3_ n4_ n5_ n6_ n9_; clear ho hb hg hat))
                                            go_roundg k5
                                            case measure => have := HK1.out; have := HJ21.out; have := HK3.out; have := HK4.out; have := HK5.out; omega
                                            case rel => exact ⟨(y235), (wrap64 (x18_5 + 1)), (by first | rfl | (simp; done) | (simp [*]; done)), H', ⟨by have := HK1.out; have := HJ21.out; have := HK3.out; have := HK4.out; have := HK5.out; omega⟩, ⟨by (with_reducible repeat (first | apply Kd.R_alloc | apply Kd.R_drewN | apply Kd.R_drew)); exact HO_3.out⟩, ⟨by (with_reducible repeat (first | apply Kd.R_alloc | apply Kd.R_drewN | apply Kd.R_drew)); exact HO_5.out⟩, ⟨by (with_reducible repeat (first | apply Kd.R_alloc | apply Kd.R_drewN | apply Kd.R_drew)); exact Kd.R_mono HO_7.out (fun _ hk => ⟨hk.1.1, ⟨hk.1.2.1, ⟨hk.1.2.2.1, ⟨hk.1.2.2.2, hk.2⟩⟩⟩⟩)⟩, ⟨by (with_reducible repeat (first | apply Kd.R_alloc | apply Kd.R_drewN | apply Kd.R_drew)); exact Kd.R_mono HO_9.out (fun _ hk => ⟨hk.1.1, ⟨hk.1.2.1, ⟨hk.1.2.2.1, ⟨hk.1.2.2.2, hk.2⟩⟩⟩⟩)⟩, ⟨by (with_reducible repeat (first | apply Kd.R_alloc | apply Kd.R_drewN | apply Kd.R_drew)); exact Kd.R_mono HO_11.out (fun _ hk => ⟨hk.1.1, ⟨hk.1.2.1, ⟨hk.1.2.2.1, ⟨hk.1.2.2.2, hk.2⟩⟩⟩⟩)⟩, ⟨by (with_reducible repeat (first | apply Kd.R_alloc | apply Kd.R_drewN | apply Kd.R_drew)); exact Kd.R_mono HO_13.out (fun _ hk => ⟨hk.1.1, ⟨hk.1.2.1, ⟨hk.1.2.2.1, ⟨hk.1.2.2.2, hk.2⟩⟩⟩⟩)⟩, ⟨by (with_reducible repeat (first | apply Kd.R_alloc | apply Kd.R_drewN | apply Kd.R_drew)); exact HO237.out⟩, HSH, ⟨by repeat (first | (with_reducible first | exact HB.out | apply below_alloc | apply pw_below_drewN | apply below_drew1) | exact HB.out)⟩⟩
                                          · rw [if_neg c79] at H
                                            exact absurd H (by simp)
                                        · rw [if_neg c78] at H
                                          have c78b0 : decide (x18_5 < 70) = false := decide_eq_false c78
                                          clear c78
                                          by_cases c81 : 0 ≤ (l0.length : Int)
                                          · rw [if_pos c81] at H
                                            have c81b0 := eq_true c81
                                            have c81b1 : decide (0 ≤ (l0.length : Int)) = true := decide_eq_true c81
                                            clear c81
                                            by_cases c82 : (l0.length : Int) ≤ (x3_1.length : Int)
                                            · rw [if_pos c82] at H
                                              have c82b0 := eq_true c82
                                              have c82b1 : decide ((l0.length : Int) ≤ (x3_1.length : Int)) = true := decide_eq_true c82
                                              clear c82
                                              obtain ⟨y238, hy238⟩ : ∃ y_ : List (S27), y_ = (x3_1.take ((l0.length : Int) : Int).toNat) := ⟨_, rfl⟩
                                              replace H : ((code_Encode.f k5 y238).bind fun bt242 => (payofflaw11_CodeEncodes.l4 k5 l0 x3_1 x5_4 t196 t204 t208 t209 t215 x17_5 bt242.1 bt242.2 0)) = some r := by first | (rw [hy238]; with_reducible exact H) | (have H2_ := (Option.bind_some _ _).symm.trans H; rw [hy238]; with_reducible exact H2_) | (have H2_ := (Option.bind_some _ _).symm.trans H; with_reducible exact H2_) | with_reducible exact H | (rw [hy238]; exact H) | exact H
                                              have Ny238 := Aside0.mk hy238
                                              clear hy238
                                              replace H := Option.bind_eq_some_iff.mp H
                                              obtain ⟨⟨t242, t243⟩, A830, H⟩ := H
                                              replace H : (payofflaw11_CodeEncodes.l4 k5 l0 x3_1 x5_4 t196 t204 t208 t209 t215 x17_5 t242 t243 0) = some r := H
                                              have A83 := Aside0.mk A830
                                              clear A830
                                              have H' := Aside0.mk H
                                              clear H
                                              have q84 : ((l0.length : Int) : Int) ≤ ((x3_1.length : Int) : Int) := of_decide_eq_true (by first | (with_reducible assumption) | assumption)
                                              obtain ⟨i084, hi084, _, hsz84, _⟩ := info_parts info27
                                              have hroom84 : x3_1.length ≤ co23 := (Kd.R_reads' HO_3.out).2.1
                                              have hC84 : Kd.C k27 _ Ao23 x3_1.length x3_1 := (Kd.R_reads' HO_3.out).2.2
                                              (try clear hcut24); (try clear hcut30); (try clear hcut52); have hcut84 := cut_to (P := Tryd.prog) 37 27 .i64 Tryd.underlying37 hi084 Ao23 x3_1.length co23 (l0.length : Int) (of_decide_eq_true (by first | (with_reducible assumption) | assumption)) q84 hroom84
                                              have hr84 := Kd.C_take (m := ((l0.length : Int) : Int).toNat) hC84 (by omega)
                                              have hy84 : y238.length = ((l0.length : Int) : Int).toNat := (by rw [Ny238.out, List.length_take]; omega)
                                              rw [← Ny238.out] at hr84
                                              rw [← hy84] at hcut84
                                              have HR241 := Aside0.mk hr84
                                              have HC241 := Aside0.mk (show y238.length ≤ co23 from by omega)
                                              clear hr84 hC84 hroom84 hi084 hsz84
                                              have KY84 := Aside0.mk hy84
                                              clear hy84
                                              have KL84 := Aside0.mk (show ((l0.length : Int) : Int).toNat ≤ x3_1.length from by omega)
                                              replace q84 := eq_true q84
                                              go_wp2_with (first | ((with_reducible refine gate_callee (f := 24) rfl ?_); refine goesL_ (some 146) rfl rfl Tryd.func24 (by kernel_rfl) rfl #[.slice Ao23 y238.length co23] rfl (by (try simp only [List.map_toArray, List.map_cons, List.map_nil]); first | done | rfl | (simp only [List.length_drop, List.length_take]; rfl)) ?_; (with_reducible refine (code_Encode.calls k5 _ _ y238 t242 t243 _ ?side1 ?side2 A83.out (Pure.G2.below HG.out (by repeat (first | (with_reducible first | exact HB.out | apply below_alloc | apply pw_below_drewN | apply below_drew1 | (refine below_set ?_ (by first | exact trivial )) ) | exact HB.out)))).mono ?_); (case side1 => repeat (first | exact (by repeat (first | (with_reducible exact HR241.out) | (with_reducible refine Kd.C_alloc ?_ _) | (with_reducible refine Kd.C_drewN ?_ _) | (with_reducible refine Kd.C_drew ?_) | exact HR241.out)) | (with_reducible refine Kd.C_alloc ?_ _) | (with_reducible refine Kd.C_drewN ?_ _) | (with_reducible refine Kd.C_drew ?_))); (case side2 => exact HC241.out); rintro e w85 ⟨v244, rfl, ho0, hb⟩; refine ⟨_, rfl, ?_⟩; have n0_ := Aside0.mk (Kd.R_below (by (with_reducible repeat (first | apply Kd.R_alloc | apply Kd.R_drewN | apply Kd.R_drew)); exact HO_3.out) hb); have n1_ := Aside0.mk (Kd.R_elder' (by (with_reducible repeat (first | apply Kd.R_alloc | apply Kd.R_drewN | apply Kd.R_drew)); exact HO_5.out) (Kd.R_base ho0) hb); have n2_ := Aside0.mk (Kd.R_elder' (by (with_reducible repeat (first | apply Kd.R_alloc | apply Kd.R_drewN | apply Kd.R_drew)); exact HO_7.out) (Kd.R_base ho0) hb); have n3_ := Aside0.mk (Kd.R_elder' (by (with_reducible repeat (first | apply Kd.R_alloc | apply Kd.R_drewN | apply Kd.R_drew)); exact HO_9.out) (Kd.R_base ho0) hb); have n4_ := Aside0.mk (Kd.R_elder' (by (with_reducible repeat (first | apply Kd.R_alloc | apply Kd.R_drewN | apply Kd.R_drew)); exact HO_11.out) (Kd.R_base ho0) hb); have n5_ := Aside0.mk (Kd.R_elder' (by (with_reducible repeat (first | apply Kd.R_alloc | apply Kd.R_drewN | apply Kd.R_drew)); exact HO_13.out) (Kd.R_base ho0) hb); have n6_ := Aside0.mk (Kd.R_elder' (by (with_reducible repeat (first | apply Kd.R_alloc | apply Kd.R_drewN | apply Kd.R_drew)); exact HO_17.out) (Kd.R_base ho0) hb); have n7_ := Aside0.mk (Kd.R_lower (Kd.R_new' (Kd.R_new' (Kd.R_new' (Kd.R_new' (Kd.R_new' (Kd.R_new' ho0 (Kd.R_lt (by (with_reducible repeat (first | apply Kd.R_alloc | apply Kd.R_drewN | apply Kd.R_drew)); exact HO_5.out))) (Kd.R_lt (by (with_reducible repeat (first | apply Kd.R_alloc | apply Kd.R_drewN | apply Kd.R_drew)); exact HO_7.out))) (Kd.R_lt (by (with_reducible repeat (first | apply Kd.R_alloc | apply Kd.R_drewN | apply Kd.R_drew)); exact HO_9.out))) (Kd.R_lt (by (with_reducible repeat (first | apply Kd.R_alloc | apply Kd.R_drewN | apply Kd.R_drew)); exact HO_11.out))) (Kd.R_lt (by (with_reducible repeat (first | apply Kd.R_alloc | apply Kd.R_drewN | apply Kd.R_drew)); exact HO_13.out))) (Kd.R_lt (by (with_reducible repeat (first | apply Kd.R_alloc | apply Kd.R_drewN | apply Kd.R_drew)); exact HO_17.out))) (below_size (by repeat (first | (with_reducible first | exact HB.out | apply below_alloc | apply pw_below_drewN | apply below_drew1) | exact HB.out)))); have n11_ := Aside0.mk (below_step (by repeat (first | (with_reducible first | exact HB.out | apply below_alloc | apply pw_below_drewN | apply below_drew1) | exact HB.out)) hb); clear HO_3; clear HO_5; clear HO_7; clear HO_9; clear HO_11; clear HO_13; clear HO_17; clear HB; have HO_3 := n0_; have HO_5 := n1_; have HO_7 := n2_; have HO_9 := n3_; have HO_11 := n4_; have HO_13 := n5_; have HO_17 := n6_; have HO245 := n7_; have HB := n11_; clear n0_ n1_ n2_ n3_ n4_ n5_ n6_ n7_ n11_; (try clear hb); (try clear hb2); (try clear hk); (try clear hi); (try clear ho0)))
                                              go_loopg [21] k5 (fun kq v21 w' => ∃ (x21_6 : Int), v21 = .int .i64 x21_6 ∧ Aside0 (payofflaw11_CodeEncodes.l4 kq l0 x3_1 x5_4 t196 t204 t208 t209 t215 x17_5 t242 t243 x21_6 = some r) ∧ Aside0 (kq ≤ k5) ∧ Aside0 (Kd.R k27 27 w' w.heap.size (fun _ => True) (.slice Ao23 x3_1.length co23) x3_1) ∧ Aside0 (Kd.R (Kd.int .u8) 5 w' w.heap.size (fun k_ => some k_ ≠ (v198 : Value).ownBlock ∧ some k_ ≠ (v206 : Value).ownBlock ∧ some k_ ≠ (v210 : Value).ownBlock ∧ some k_ ≠ (v217 : Value).ownBlock ∧ True ∧ some k_ ≠ (v244 : Value).ownBlock) (.slice Ao74 x5_4.length co74) x5_4) ∧ Aside0 (Kd.R (Kd.int .u8) 5 w' w.heap.size (fun k_ => some k_ ≠ ((.slice Ao74 x5_4.length co74) : Value).ownBlock ∧ some k_ ≠ (v206 : Value).ownBlock ∧ some k_ ≠ (v210 : Value).ownBlock ∧ some k_ ≠ (v217 : Value).ownBlock ∧ some k_ ≠ (u17 : Value).ownBlock ∧ some k_ ≠ (v244 : Value).ownBlock) v198 t196) ∧ Aside0 (Kd.R (Kd.int .u8) 5 w' w.heap.size (fun k_ => some k_ ≠ ((.slice Ao74 x5_4.length co74) : Value).ownBlock ∧ some k_ ≠ (v198 : Value).ownBlock ∧ some k_ ≠ (v210 : Value).ownBlock ∧ some k_ ≠ (v217 : Value).ownBlock ∧ some k_ ≠ (u17 : Value).ownBlock ∧ some k_ ≠ (v244 : Value).ownBlock) v206 t204) ∧ Aside0 (Kd.R (Kd.int .u8) 5 w' w.heap.size (fun k_ => some k_ ≠ ((.slice Ao74 x5_4.length co74) : Value).ownBlock ∧ some k_ ≠ (v198 : Value).ownBlock ∧ some k_ ≠ (v206 : Value).ownBlock ∧ some k_ ≠ (v217 : Value).ownBlock ∧ some k_ ≠ (u17 : Value).ownBlock ∧ some k_ ≠ (v244 : Value).ownBlock) v210 t208) ∧ Aside0 (Kd.R (Kd.int .u8) 5 w' w.heap.size (fun k_ => some k_ ≠ ((.slice Ao74 x5_4.length co74) : Value).ownBlock ∧ some k_ ≠ (v198 : Value).ownBlock ∧ some k_ ≠ (v206 : Value).ownBlock ∧ some k_ ≠ (v210 : Value).ownBlock ∧ some k_ ≠ (u17 : Value).ownBlock ∧ some k_ ≠ (v244 : Value).ownBlock) v217 t215) ∧ Aside0 (Kd.R (Kd.int .u8) 5 w' w.heap.size (fun k_ => True ∧ some k_ ≠ (v198 : Value).ownBlock ∧ some k_ ≠ (v206 : Value).ownBlock ∧ some k_ ≠ (v210 : Value).ownBlock ∧ some k_ ≠ (v217 : Value).ownBlock ∧ some k_ ≠ (v244 : Value).ownBlock) u17 x17_5) ∧ Aside0 (Kd.R (Kd.int .u8) 5 w' w.heap.size (fun k_ => some k_ ≠ ((.slice Ao74 x5_4.length co74) : Value).ownBlock ∧ some k_ ≠ (v198 : Value).ownBlock ∧ some k_ ≠ (v206 : Value).ownBlock ∧ some k_ ≠ (v210 : Value).ownBlock ∧ some k_ ≠ (v217 : Value).ownBlock ∧ some k_ ≠ (u17 : Value).ownBlock) v244 t242) ∧ Aside0 (Below w.heap.size w w'))
                                              case atStart => exact ⟨(0), (by first | rfl | (simp; done) | (simp [*]; done)), H', ⟨Nat.le_refl _⟩, ⟨by (with_reducible repeat (first | apply Kd.R_alloc | apply Kd.R_drewN | apply Kd.R_drew)); exact HO_3.out⟩, ⟨by (with_reducible repeat (first | apply Kd.R_alloc | apply Kd.R_drewN | apply Kd.R_drew)); exact Kd.R_mono HO_5.out (fun _ hk => ⟨hk.1.1, ⟨hk.1.2.1, ⟨hk.1.2.2.1, ⟨hk.1.2.2.2.1, ⟨hk.1.2.2.2.2, hk.2⟩⟩⟩⟩⟩)⟩, ⟨by (with_reducible repeat (first | apply Kd.R_alloc | apply Kd.R_drewN | apply Kd.R_drew)); exact Kd.R_mono HO_7.out (fun _ hk => ⟨hk.1.1, ⟨hk.1.2.1, ⟨hk.1.2.2.1, ⟨hk.1.2.2.2.1, ⟨hk.1.2.2.2.2, hk.2⟩⟩⟩⟩⟩)⟩, ⟨by (with_reducible repeat (first | apply Kd.R_alloc | apply Kd.R_drewN | apply Kd.R_drew)); exact Kd.R_mono HO_9.out (fun _ hk => ⟨hk.1.1, ⟨hk.1.2.1, ⟨hk.1.2.2.1, ⟨hk.1.2.2.2.1, ⟨hk.1.2.2.2.2, hk.2⟩⟩⟩⟩⟩)⟩, ⟨by (with_reducible repeat (first | apply Kd.R_alloc | apply Kd.R_drewN | apply Kd.R_drew)); exact Kd.R_mono HO_11.out (fun _ hk => ⟨hk.1.1, ⟨hk.1.2.1, ⟨hk.1.2.2.1, ⟨hk.1.2.2.2.1, ⟨hk.1.2.2.2.2, hk.2⟩⟩⟩⟩⟩)⟩, ⟨by (with_reducible repeat (first | apply Kd.R_alloc | apply Kd.R_drewN | apply Kd.R_drew)); exact Kd.R_mono HO_13.out (fun _ hk => ⟨hk.1.1, ⟨hk.1.2.1, ⟨hk.1.2.2.1, ⟨hk.1.2.2.2.1, ⟨hk.1.2.2.2.2, hk.2⟩⟩⟩⟩⟩)⟩, ⟨by (with_reducible repeat (first | apply Kd.R_alloc | apply Kd.R_drewN | apply Kd.R_drew)); exact Kd.R_mono HO_17.out (fun _ hk => ⟨hk.1.1, ⟨hk.1.2.1, ⟨hk.1.2.2.1, ⟨hk.1.2.2.2.1, ⟨hk.1.2.2.2.2, hk.2⟩⟩⟩⟩⟩)⟩, ⟨by (with_reducible repeat (first | apply Kd.R_alloc | apply Kd.R_drewN | apply Kd.R_drew)); exact Kd.R_mono HO245.out (fun _ hk => ⟨hk.1.1.1.1.1.2, ⟨hk.1.1.1.1.2, ⟨hk.1.1.1.2, ⟨hk.1.1.2, ⟨hk.1.2, hk.2⟩⟩⟩⟩⟩)⟩, ⟨by repeat (first | (with_reducible first | exact HB.out | apply below_alloc | apply pw_below_drewN | apply below_drew1) | exact HB.out)⟩⟩
                                              case round =>
                                                clear H'
                                                try clear c1
                                                try clear hx1
                                                try clear hf1
                                                try clear c2
                                                try clear p2
                                                try clear q2
                                                try clear hx2
                                                try clear c3
                                                try clear c3b0
                                                try clear c3b1
                                                try clear q3
                                                try clear c4
                                                try clear c4b0
                                                try clear c4b1
                                                try clear q5
                                                try clear c6
                                                try clear p6
                                                try clear q6
                                                try clear hx6
                                                try clear hf6
                                                try clear c7
                                                try clear c7b0
                                                try clear c8
                                                try clear c8b0
                                                try clear q8
                                                try clear c9
                                                try clear p9
                                                try clear q9
                                                try clear hx9
                                                try clear hf9
                                                try clear c11
                                                try clear hx11
                                                try clear hf11
                                                try clear c13
                                                try clear c13b0
                                                try clear c13b1
                                                try clear c14
                                                try clear c14b0
                                                try clear c14b1
                                                try clear c17
                                                try clear c17b0
                                                try clear c18
                                                try clear c18b0
                                                try clear p22
                                                try clear q22
                                                try clear hx22
                                                try clear c24
                                                try clear q24
                                                try clear c25
                                                try clear q30
                                                try clear c37
                                                try clear c37b0
                                                try clear c37b1
                                                try clear c39
                                                try clear c41
                                                try clear c43
                                                try clear c44
                                                try clear c44b0
                                                try clear c45
                                                try clear c45b0
                                                try clear q52
                                                try clear c63
                                                try clear c64
                                                try clear c64b0
                                                try clear p64
                                                try clear c65
                                                try clear c65b0
                                                try clear c66
                                                try clear c66b0
                                                try clear c67
                                                try clear c67b0
                                                try clear c68
                                                try clear c68b0
                                                try clear p69
                                                try clear q69
                                                try clear hx69
                                                try clear hf69
                                                try clear c73
                                                try clear c78
                                                try clear c78b0
                                                try clear c79
                                                try clear c81
                                                try clear c81b0
                                                try clear c81b1
                                                try clear c82
                                                try clear c82b0
                                                try clear c82b1
                                                try clear q84
                                                try clear hx11_0
                                                try clear hx11_1
                                                try clear hx11_2
                                                try clear hx227_0
                                                try clear hx227_1
                                                try clear hx227_2
                                                try clear hx69_0
                                                try clear hx9_0
                                                try clear hx9_1
                                                try clear hx9_2
                                                try clear p2
                                                try clear p22
                                                try clear p227
                                                try clear p6
                                                try clear p64
                                                try clear p69
                                                try clear p9
                                                try clear q2
                                                try clear q22
                                                try clear q227
                                                try clear q24
                                                try clear q3
                                                try clear q30
                                                try clear q5
                                                try clear q52
                                                try clear q6
                                                try clear q69
                                                try clear q84
                                                try clear q9
                                                obtain ⟨x21_6, rfl, HA, HK6, HO_3, HO_5, HO_7, HO_9, HO_11, HO_13, HO_17, HO_19, HB⟩ := hrel
                                                cases gk with
                                                | zero => exact absurd HA.out (by simp [payofflaw11_CodeEncodes.l4])
                                                | succ k6 =>
                                                  have H := HA.out
                                                  clear HA
                                                  simp only [payofflaw11_CodeEncodes.l4] at H
                                                  by_cases c86 : x21_6 < (x17_5.length : Int)
                                                  · rw [if_pos c86] at H
                                                    have c86b0 : decide (x21_6 < (x17_5.length : Int)) = true := decide_eq_true c86
                                                    clear c86
                                                    by_cases c87 : x21_6 < (x5_4.length : Int)
                                                    · rw [if_pos c87] at H
                                                      have c87b0 : decide (x21_6 < (x5_4.length : Int)) = true := decide_eq_true c87
                                                      clear c87
                                                      by_cases c88 : 0 ≤ x21_6
                                                      · rw [if_pos c88] at H
                                                        have c88b0 : decide (0 ≤ x21_6) = true := decide_eq_true c88
                                                        clear c88
                                                        by_cases c89 : (rd x5_4 x21_6) = 238
                                                        · rw [if_pos c89] at H
                                                          have c89b0 : ((rd x5_4 x21_6) == 238) = true := beq_iff_eq.mpr c89
                                                          have c89b1 : ((rd x5_4 x21_6) != 238) = false := bne_eq_false_iff_eq.mpr c89
                                                          clear c89
                                                          by_cases c90 : (rd x17_5 x21_6) = 238
                                                          · rw [if_pos c90] at H
                                                            have c90b0 : ((rd x17_5 x21_6) == 238) = true := beq_iff_eq.mpr c90
                                                            have c90b1 : ((rd x17_5 x21_6) != 238) = false := bne_eq_false_iff_eq.mpr c90
                                                            clear c90
                                                            by_cases c91 : x21_6 ≥ (x5_4.length : Int)
                                                            · rw [if_pos c91] at H
                                                              have c91b0 : decide ((x5_4.length : Int) ≤ x21_6) = true := decide_eq_true c91
                                                              clear c91
                                                              by_cases c92 : (rd x17_5 x21_6) = 239
                                                              · rw [if_pos c92] at H
                                                                have c92b0 : ((rd x17_5 x21_6) == 239) = true := beq_iff_eq.mpr c92
                                                                have c92b1 : ((rd x17_5 x21_6) != 239) = false := bne_eq_false_iff_eq.mpr c92
                                                                clear c92
                                                                have H' := Aside0.mk H
                                                                clear H
                                                                obtain ⟨Ao93, co93, eo93⟩ := Kd.R_slice HO_17.out
                                                                subst eo93
                                                                have p246 : 0 ≤ (x21_6 : Int) := of_decide_eq_true (by first | (with_reducible assumption) | assumption)
                                                                have q246 : x21_6 < (x5_4.length : Int) := of_decide_eq_true (by first | (with_reducible assumption) | assumption)
                                                                obtain ⟨ad246, e246, hx246_0⟩ := Kd.at_int (Kd.R_reads' HO_5.out).2.2 x21_6 p246 q246
                                                                cases e246
                                                                replace p246 := eq_true p246
                                                                replace q246 := eq_true q246
                                                                have p247 : 0 ≤ (x21_6 : Int) := of_decide_eq_true (by first | (with_reducible assumption) | assumption)
                                                                have q247 : x21_6 < (x17_5.length : Int) := of_decide_eq_true (by first | (with_reducible assumption) | assumption)
                                                                obtain ⟨ad247, e247, hx247_0⟩ := Kd.at_int (Kd.R_reads' HO_17.out).2.2 x21_6 p247 q247
                                                                cases e247
                                                                replace p247 := eq_true p247
                                                                replace q247 := eq_true q247
                                                                have p248 : 0 ≤ (x21_6 : Int) := of_decide_eq_true (by first | (with_reducible assumption) | assumption)
                                                                have q248 : x21_6 < (x17_5.length : Int) := of_decide_eq_true (by first | (with_reducible assumption) | assumption)
                                                                obtain ⟨ad248, e248, hx248_0⟩ := Kd.at_int (Kd.R_reads' HO_17.out).2.2 x21_6 p248 q248
                                                                obtain rfl : ad247 = ad248 := (by injection e248)
                                                                replace p248 := eq_true p248
                                                                replace q248 := eq_true q248
                                                                go_wp2
                                                                go_roundg k6
                                                                case measure => have := HK1.out; have := HJ21.out; have := HK3.out; have := HK4.out; have := HK5.out; have := HK6.out; omega
                                                                case rel => exact ⟨(wrap64 (x21_6 + 1)), (by first | rfl | (simp; done) | (simp [*]; done)), H', ⟨by have := HK1.out; have := HJ21.out; have := HK3.out; have := HK4.out; have := HK5.out; have := HK6.out; omega⟩, ⟨by (with_reducible repeat (first | apply Kd.R_alloc | apply Kd.R_drewN | apply Kd.R_drew)); exact HO_3.out⟩, ⟨by (with_reducible repeat (first | apply Kd.R_alloc | apply Kd.R_drewN | apply Kd.R_drew)); exact HO_5.out⟩, ⟨by (with_reducible repeat (first | apply Kd.R_alloc | apply Kd.R_drewN | apply Kd.R_drew)); exact HO_7.out⟩, ⟨by (with_reducible repeat (first | apply Kd.R_alloc | apply Kd.R_drewN | apply Kd.R_drew)); exact HO_9.out⟩, ⟨by (with_reducible repeat (first | apply Kd.R_alloc | apply Kd.R_drewN | apply Kd.R_drew)); exact HO_11.out⟩, ⟨by (with_reducible repeat (first | apply Kd.R_alloc | apply Kd.R_drewN | apply Kd.R_drew)); exact HO_13.out⟩, ⟨by (with_reducible repeat (first | apply Kd.R_alloc | apply Kd.R_drewN | apply Kd.R_drew)); exact HO_17.out⟩, ⟨by (with_reducible repeat (first | apply Kd.R_alloc | apply Kd.R_drewN | apply Kd.R_drew)); exact HO_19.out⟩, ⟨by repeat (first | (with_reducible first | exact HB.out | apply below_alloc | apply pw_below_drewN | apply below_drew1) | exact HB.out)⟩⟩
                                                              · rw [if_neg c92] at H
                                                                exact absurd H (by simp)
                                                            · rw [if_neg c91] at H
                                                              have c91b0 : decide ((x5_4.length : Int) ≤ x21_6) = false := decide_eq_false c91
                                                              clear c91
                                                              have H' := Aside0.mk H
                                                              clear H
                                                              obtain ⟨Ao95, co95, eo95⟩ := Kd.R_slice HO_17.out
                                                              subst eo95
                                                              have p246 : 0 ≤ (x21_6 : Int) := of_decide_eq_true (by first | (with_reducible assumption) | assumption)
                                                              have q246 : x21_6 < (x5_4.length : Int) := of_decide_eq_true (by first | (with_reducible assumption) | assumption)
                                                              obtain ⟨ad246, e246, hx246_0⟩ := Kd.at_int (Kd.R_reads' HO_5.out).2.2 x21_6 p246 q246
                                                              cases e246
                                                              replace p246 := eq_true p246
                                                              replace q246 := eq_true q246
                                                              have p247 : 0 ≤ (x21_6 : Int) := of_decide_eq_true (by first | (with_reducible assumption) | assumption)
                                                              have q247 : x21_6 < (x17_5.length : Int) := of_decide_eq_true (by first | (with_reducible assumption) | assumption)
                                                              obtain ⟨ad247, e247, hx247_0⟩ := Kd.at_int (Kd.R_reads' HO_17.out).2.2 x21_6 p247 q247
                                                              cases e247
                                                              replace p247 := eq_true p247
                                                              replace q247 := eq_true q247
                                                              go_wp2
                                                              go_roundg k6
                                                              case measure => have := HK1.out; have := HJ21.out; have := HK3.out; have := HK4.out; have := HK5.out; have := HK6.out; omega
                                                              case rel => exact ⟨(wrap64 (x21_6 + 1)), (by first | rfl | (simp; done) | (simp [*]; done)), H', ⟨by have := HK1.out; have := HJ21.out; have := HK3.out; have := HK4.out; have := HK5.out; have := HK6.out; omega⟩, ⟨by (with_reducible repeat (first | apply Kd.R_alloc | apply Kd.R_drewN | apply Kd.R_drew)); exact HO_3.out⟩, ⟨by (with_reducible repeat (first | apply Kd.R_alloc | apply Kd.R_drewN | apply Kd.R_drew)); exact HO_5.out⟩, ⟨by (with_reducible repeat (first | apply Kd.R_alloc | apply Kd.R_drewN | apply Kd.R_drew)); exact HO_7.out⟩, ⟨by (with_reducible repeat (first | apply Kd.R_alloc | apply Kd.R_drewN | apply Kd.R_drew)); exact HO_9.out⟩, ⟨by (with_reducible repeat (first | apply Kd.R_alloc | apply Kd.R_drewN | apply Kd.R_drew)); exact HO_11.out⟩, ⟨by (with_reducible repeat (first | apply Kd.R_alloc | apply Kd.R_drewN | apply Kd.R_drew)); exact HO_13.out⟩, ⟨by (with_reducible repeat (first | apply Kd.R_alloc | apply Kd.R_drewN | apply Kd.R_drew)); exact HO_17.out⟩, ⟨by (with_reducible repeat (first | apply Kd.R_alloc | apply Kd.R_drewN | apply Kd.R_drew)); exact HO_19.out⟩, ⟨by repeat (first | (with_reducible first | exact HB.out | apply below_alloc | apply pw_below_drewN | apply below_drew1) | exact HB.out)⟩⟩
                                                          · rw [if_neg c90] at H
                                                            exact absurd H (by simp)
                                                        · rw [if_neg c89] at H
                                                          exact absurd H (by simp)
                                                      · rw [if_neg c88] at H
                                                        exact absurd H (by simp)
                                                    · rw [if_neg c87] at H
                                                      have c87b0 : decide (x21_6 < (x5_4.length : Int)) = false := decide_eq_false c87
                                                      clear c87
                                                      by_cases c98 : x21_6 ≥ (x5_4.length : Int)
                                                      · rw [if_pos c98] at H
                                                        have c98b0 : decide ((x5_4.length : Int) ≤ x21_6) = true := decide_eq_true c98
                                                        clear c98
                                                        by_cases c99 : 0 ≤ x21_6
                                                        · rw [if_pos c99] at H
                                                          have c99b0 : decide (0 ≤ x21_6) = true := decide_eq_true c99
                                                          clear c99
                                                          by_cases c100 : (rd x17_5 x21_6) = 239
                                                          · rw [if_pos c100] at H
                                                            have c100b0 : ((rd x17_5 x21_6) == 239) = true := beq_iff_eq.mpr c100
                                                            have c100b1 : ((rd x17_5 x21_6) != 239) = false := bne_eq_false_iff_eq.mpr c100
                                                            clear c100
                                                            have H' := Aside0.mk H
                                                            clear H
                                                            obtain ⟨Ao101, co101, eo101⟩ := Kd.R_slice HO_17.out
                                                            subst eo101
                                                            have p249 : 0 ≤ (x21_6 : Int) := of_decide_eq_true (by first | (with_reducible assumption) | assumption)
                                                            have q249 : x21_6 < (x17_5.length : Int) := of_decide_eq_true (by first | (with_reducible assumption) | assumption)
                                                            obtain ⟨ad249, e249, hx249_0⟩ := Kd.at_int (Kd.R_reads' HO_17.out).2.2 x21_6 p249 q249
                                                            cases e249
                                                            replace p249 := eq_true p249
                                                            replace q249 := eq_true q249
                                                            go_wp2
                                                            go_roundg k6
                                                            case measure => have := HK1.out; have := HJ21.out; have := HK3.out; have := HK4.out; have := HK5.out; have := HK6.out; omega
                                                            case rel => exact ⟨(wrap64 (x21_6 + 1)), (by first | rfl | (simp; done) | (simp [*]; done)), H', ⟨by have := HK1.out; have := HJ21.out; have := HK3.out; have := HK4.out; have := HK5.out; have := HK6.out; omega⟩, ⟨by (with_reducible repeat (first | apply Kd.R_alloc | apply Kd.R_drewN | apply Kd.R_drew)); exact HO_3.out⟩, ⟨by (with_reducible repeat (first | apply Kd.R_alloc | apply Kd.R_drewN | apply Kd.R_drew)); exact HO_5.out⟩, ⟨by (with_reducible repeat (first | apply Kd.R_alloc | apply Kd.R_drewN | apply Kd.R_drew)); exact HO_7.out⟩, ⟨by (with_reducible repeat (first | apply Kd.R_alloc | apply Kd.R_drewN | apply Kd.R_drew)); exact HO_9.out⟩, ⟨by (with_reducible repeat (first | apply Kd.R_alloc | apply Kd.R_drewN | apply Kd.R_drew)); exact HO_11.out⟩, ⟨by (with_reducible repeat (first | apply Kd.R_alloc | apply Kd.R_drewN | apply Kd.R_drew)); exact HO_13.out⟩, ⟨by (with_reducible repeat (first | apply Kd.R_alloc | apply Kd.R_drewN | apply Kd.R_drew)); exact HO_17.out⟩, ⟨by (with_reducible repeat (first | apply Kd.R_alloc | apply Kd.R_drewN | apply Kd.R_drew)); exact HO_19.out⟩, ⟨by repeat (first | (with_reducible first | exact HB.out | apply below_alloc | apply pw_below_drewN | apply below_drew1) | exact HB.out)⟩⟩
                                                          · rw [if_neg c100] at H
                                                            exact absurd H (by simp)
                                                        · rw [if_neg c99] at H
                                                          exact absurd H (by simp)
                                                      · rw [if_neg c98] at H
                                                        have c98b0 : decide ((x5_4.length : Int) ≤ x21_6) = false := decide_eq_false c98
                                                        clear c98
                                                        have H' := Aside0.mk H
                                                        clear H
                                                        obtain ⟨Ao103, co103, eo103⟩ := Kd.R_slice HO_17.out
                                                        subst eo103
                                                        go_wp2
                                                        go_roundg k6
                                                        case measure => have := HK1.out; have := HJ21.out; have := HK3.out; have := HK4.out; have := HK5.out; have := HK6.out; omega
                                                        case rel => exact ⟨(wrap64 (x21_6 + 1)), (by first | rfl | (simp; done) | (simp [*]; done)), H', ⟨by have := HK1.out; have := HJ21.out; have := HK3.out; have := HK4.out; have := HK5.out; have := HK6.out; omega⟩, ⟨by (with_reducible repeat (first | apply Kd.R_alloc | apply Kd.R_drewN | apply Kd.R_drew)); exact HO_3.out⟩, ⟨by (with_reducible repeat (first | apply Kd.R_alloc | apply Kd.R_drewN | apply Kd.R_drew)); exact HO_5.out⟩, ⟨by (with_reducible repeat (first | apply Kd.R_alloc | apply Kd.R_drewN | apply Kd.R_drew)); exact HO_7.out⟩, ⟨by (with_reducible repeat (first | apply Kd.R_alloc | apply Kd.R_drewN | apply Kd.R_drew)); exact HO_9.out⟩, ⟨by (with_reducible repeat (first | apply Kd.R_alloc | apply Kd.R_drewN | apply Kd.R_drew)); exact HO_11.out⟩, ⟨by (with_reducible repeat (first | apply Kd.R_alloc | apply Kd.R_drewN | apply Kd.R_drew)); exact HO_13.out⟩, ⟨by (with_reducible repeat (first | apply Kd.R_alloc | apply Kd.R_drewN | apply Kd.R_drew)); exact HO_17.out⟩, ⟨by (with_reducible repeat (first | apply Kd.R_alloc | apply Kd.R_drewN | apply Kd.R_drew)); exact HO_19.out⟩, ⟨by repeat (first | (with_reducible first | exact HB.out | apply below_alloc | apply pw_below_drewN | apply below_drew1) | exact HB.out)⟩⟩
                                                  · rw [if_neg c86] at H
                                                    have c86b0 : decide (x21_6 < (x17_5.length : Int)) = false := decide_eq_false c86
                                                    clear c86
                                                    have HC104 := Aside0.mk H
                                                    clear H
                                                    obtain ⟨Ao105, co105, eo105⟩ := Kd.R_slice HO_17.out
                                                    subst eo105
                                                    go_upto_region 34 with (fail)
                                                    go_cut [206] (fun vb206 wc => ∃ (kq : Nat) (x206_103 : Bool), vb206 = .bool x206_103 ∧ Aside0 (payofflaw11_CodeEncodes.j6 kq l0 x3_1 t204 t208 x206_103 = some r) ∧ Aside0 (kq ≤ k6) ∧ Aside0 (Kd.R k27 27 wc w.heap.size (fun _ => True) (.slice Ao23 x3_1.length co23) x3_1) ∧ Aside0 (Kd.R (Kd.int .u8) 5 wc w.heap.size (fun k_ => some k_ ≠ (v210 : Value).ownBlock) v206 t204) ∧ Aside0 (Kd.R (Kd.int .u8) 5 wc w.heap.size (fun k_ => some k_ ≠ (v206 : Value).ownBlock) v210 t208) ∧ Aside0 (Below w.heap.size w wc))
                                                    case first => as_aux_lemma =>
                                                      have H := HC104.out
                                                      clear HC104
                                                      by_cases c106 : t243 = t209
                                                      · rw [if_pos c106] at H
                                                        have c106b0 : (t243 == t209) = true := beq_iff_eq.mpr c106
                                                        have c106b1 : (t243 != t209) = false := bne_eq_false_iff_eq.mpr c106
                                                        clear c106
                                                        (first | rw [c106b0] | (simp only [i64_w, i32_w]; rw [c106b0]) | skip)
                                                        replace H := Option.bind_eq_some_iff.mp H
                                                        obtain ⟨t250, A1070, H⟩ := H
                                                        replace H : (if t250 = true then ((payofflaw11_sameBytes.f k6 t204 t208).bind fun t251 => (if t251 = true then ((payofflaw11_sameBytes.f k6 t196 t215).bind fun t252 => (payofflaw11_CodeEncodes.j6 k6 l0 x3_1 t204 t208 (!t252))) else (payofflaw11_CodeEncodes.j6 k6 l0 x3_1 t204 t208 true))) else (payofflaw11_CodeEncodes.j6 k6 l0 x3_1 t204 t208 true)) = some r := H
                                                        have A107 := Aside0.mk A1070
                                                        clear A1070
                                                        by_cases c108 : t250 = true
                                                        · subst c108
                                                          have H1 : ((payofflaw11_sameBytes.f k6 t204 t208).bind fun t251 => (if t251 = true then ((payofflaw11_sameBytes.f k6 t196 t215).bind fun t252 => (payofflaw11_CodeEncodes.j6 k6 l0 x3_1 t204 t208 (!t252))) else (payofflaw11_CodeEncodes.j6 k6 l0 x3_1 t204 t208 true))) = some r := by rw [if_pos rfl] at H; exact H
                                                          clear H
                                                          have H := H1
                                                          clear H1
                                                          replace H := Option.bind_eq_some_iff.mp H
                                                          obtain ⟨t251, A1090, H⟩ := H
                                                          replace H : (if t251 = true then ((payofflaw11_sameBytes.f k6 t196 t215).bind fun t252 => (payofflaw11_CodeEncodes.j6 k6 l0 x3_1 t204 t208 (!t252))) else (payofflaw11_CodeEncodes.j6 k6 l0 x3_1 t204 t208 true)) = some r := H
                                                          have A109 := Aside0.mk A1090
                                                          clear A1090
                                                          by_cases c110 : t251 = true
                                                          · subst c110
                                                            have H1 : ((payofflaw11_sameBytes.f k6 t196 t215).bind fun t252 => (payofflaw11_CodeEncodes.j6 k6 l0 x3_1 t204 t208 (!t252))) = some r := by rw [if_pos rfl] at H; exact H
                                                            clear H
                                                            have H := H1
                                                            clear H1
                                                            replace H := Option.bind_eq_some_iff.mp H
                                                            obtain ⟨t252, A1110, H⟩ := H
                                                            replace H : (payofflaw11_CodeEncodes.j6 k6 l0 x3_1 t204 t208 (!t252)) = some r := H
                                                            have A111 := Aside0.mk A1110
                                                            clear A1110
                                                            have H' := Aside0.mk H
                                                            clear H
                                                            obtain ⟨Ao112, co112, eo112⟩ := Kd.R_slice HO_19.out
                                                            subst eo112
                                                            obtain ⟨Ao113, co113, eo113⟩ := Kd.R_slice HO_11.out
                                                            subst eo113
                                                            go_wp2_with (first | (go_at_call 26; (with_reducible refine (payofflaw11_sameBytes.calls k6 _ _ t242 _ _ t208 true _ ?side1 ?side2 ?side3 ?side4 A107.out).mono ?_); (case side1 => repeat (first | exact (Kd.R_reads' HO_19.out).2.2 | (with_reducible refine Kd.C_alloc ?_ _) | (with_reducible refine Kd.C_drewN ?_ _) | (with_reducible refine Kd.C_drew ?_))); (case side2 => exact (Kd.R_reads' HO_19.out).2.1); (case side3 => repeat (first | exact (Kd.R_reads' HO_11.out).2.2 | (with_reducible refine Kd.C_alloc ?_ _) | (with_reducible refine Kd.C_drewN ?_ _) | (with_reducible refine Kd.C_drew ?_))); (case side4 => exact (Kd.R_reads' HO_11.out).2.1); rintro e w' ⟨rfl, ⟨nd, rfl⟩⟩; obtain ⟨Ao114, co114, eo114⟩ := Kd.R_slice HO_9.out; subst eo114) | (go_at_call 26; (with_reducible refine (payofflaw11_sameBytes.calls k6 _ _ t204 _ _ t208 true _ ?side1 ?side2 ?side3 ?side4 A109.out).mono ?_); (case side1 => repeat (first | exact (Kd.R_reads' HO_9.out).2.2 | (with_reducible refine Kd.C_alloc ?_ _) | (with_reducible refine Kd.C_drewN ?_ _) | (with_reducible refine Kd.C_drew ?_))); (case side2 => exact (Kd.R_reads' HO_9.out).2.1); (case side3 => repeat (first | exact (Kd.R_reads' HO_11.out).2.2 | (with_reducible refine Kd.C_alloc ?_ _) | (with_reducible refine Kd.C_drewN ?_ _) | (with_reducible refine Kd.C_drew ?_))); (case side4 => exact (Kd.R_reads' HO_11.out).2.1); rintro e w' ⟨rfl, ⟨nd, rfl⟩⟩; obtain ⟨Ao115, co115, eo115⟩ := Kd.R_slice HO_7.out; subst eo115; obtain ⟨Ao116, co116, eo116⟩ := Kd.R_slice HO_13.out; subst eo116) | (go_at_call 26; (with_reducible refine (payofflaw11_sameBytes.calls k6 _ _ t196 _ _ t215 t252 _ ?side1 ?side2 ?side3 ?side4 A111.out).mono ?_); (case side1 => repeat (first | exact (Kd.R_reads' HO_7.out).2.2 | (with_reducible refine Kd.C_alloc ?_ _) | (with_reducible refine Kd.C_drewN ?_ _) | (with_reducible refine Kd.C_drew ?_))); (case side2 => exact (Kd.R_reads' HO_7.out).2.1); (case side3 => repeat (first | exact (Kd.R_reads' HO_13.out).2.2 | (with_reducible refine Kd.C_alloc ?_ _) | (with_reducible refine Kd.C_drewN ?_ _) | (with_reducible refine Kd.C_drew ?_))); (case side4 => exact (Kd.R_reads' HO_13.out).2.1); rintro e w' ⟨rfl, ⟨nd, rfl⟩⟩))
                                                            go_meet
                                                            case rel => exact ⟨_, (!t252), (by first | rfl | (simp; done) | (simp [*]; done)), H', ⟨by have := HK1.out; have := HJ21.out; have := HK3.out; have := HK4.out; have := HK5.out; have := HK6.out; first | omega | exact Nat.le_refl _⟩, ⟨by (with_reducible repeat (first | apply Kd.R_alloc | apply Kd.R_drewN | apply Kd.R_drew)); exact HO_3.out⟩, ⟨by (with_reducible repeat (first | apply Kd.R_alloc | apply Kd.R_drewN | apply Kd.R_drew)); exact Kd.R_mono HO_9.out (fun _ hk => hk.2.2.1)⟩, ⟨by (with_reducible repeat (first | apply Kd.R_alloc | apply Kd.R_drewN | apply Kd.R_drew)); exact Kd.R_mono HO_11.out (fun _ hk => hk.2.2.1)⟩, ⟨by repeat (first | (with_reducible first | exact HB.out | apply below_alloc | apply pw_below_drewN | apply below_drew1) | exact HB.out)⟩⟩
                                                          · replace c110 := Bool.eq_false_iff.mpr c110
                                                            subst c110
                                                            have H1 : (payofflaw11_CodeEncodes.j6 k6 l0 x3_1 t204 t208 true) = some r := by rw [if_neg (show ¬ (false = true) by decide)] at H; exact H
                                                            clear H
                                                            have H := H1
                                                            clear H1
                                                            have H' := Aside0.mk H
                                                            clear H
                                                            obtain ⟨Ao117, co117, eo117⟩ := Kd.R_slice HO_19.out
                                                            subst eo117
                                                            obtain ⟨Ao118, co118, eo118⟩ := Kd.R_slice HO_11.out
                                                            subst eo118
                                                            go_wp2_with (first | (go_at_call 26; (with_reducible refine (payofflaw11_sameBytes.calls k6 _ _ t242 _ _ t208 true _ ?side1 ?side2 ?side3 ?side4 A107.out).mono ?_); (case side1 => repeat (first | exact (Kd.R_reads' HO_19.out).2.2 | (with_reducible refine Kd.C_alloc ?_ _) | (with_reducible refine Kd.C_drewN ?_ _) | (with_reducible refine Kd.C_drew ?_))); (case side2 => exact (Kd.R_reads' HO_19.out).2.1); (case side3 => repeat (first | exact (Kd.R_reads' HO_11.out).2.2 | (with_reducible refine Kd.C_alloc ?_ _) | (with_reducible refine Kd.C_drewN ?_ _) | (with_reducible refine Kd.C_drew ?_))); (case side4 => exact (Kd.R_reads' HO_11.out).2.1); rintro e w' ⟨rfl, ⟨nd, rfl⟩⟩; obtain ⟨Ao119, co119, eo119⟩ := Kd.R_slice HO_9.out; subst eo119) | (go_at_call 26; (with_reducible refine (payofflaw11_sameBytes.calls k6 _ _ t204 _ _ t208 false _ ?side1 ?side2 ?side3 ?side4 A109.out).mono ?_); (case side1 => repeat (first | exact (Kd.R_reads' HO_9.out).2.2 | (with_reducible refine Kd.C_alloc ?_ _) | (with_reducible refine Kd.C_drewN ?_ _) | (with_reducible refine Kd.C_drew ?_))); (case side2 => exact (Kd.R_reads' HO_9.out).2.1); (case side3 => repeat (first | exact (Kd.R_reads' HO_11.out).2.2 | (with_reducible refine Kd.C_alloc ?_ _) | (with_reducible refine Kd.C_drewN ?_ _) | (with_reducible refine Kd.C_drew ?_))); (case side4 => exact (Kd.R_reads' HO_11.out).2.1); rintro e w' ⟨rfl, ⟨nd, rfl⟩⟩))
                                                            go_meet
                                                            case rel => exact ⟨_, (true), (by first | rfl | (simp; done) | (simp [*]; done)), H', ⟨by have := HK1.out; have := HJ21.out; have := HK3.out; have := HK4.out; have := HK5.out; have := HK6.out; first | omega | exact Nat.le_refl _⟩, ⟨by (with_reducible repeat (first | apply Kd.R_alloc | apply Kd.R_drewN | apply Kd.R_drew)); exact HO_3.out⟩, ⟨by (with_reducible repeat (first | apply Kd.R_alloc | apply Kd.R_drewN | apply Kd.R_drew)); exact Kd.R_mono HO_9.out (fun _ hk => hk.2.2.1)⟩, ⟨by (with_reducible repeat (first | apply Kd.R_alloc | apply Kd.R_drewN | apply Kd.R_drew)); exact Kd.R_mono HO_11.out (fun _ hk => hk.2.2.1)⟩, ⟨by repeat (first | (with_reducible first | exact HB.out | apply below_alloc | apply pw_below_drewN | apply below_drew1) | exact HB.out)⟩⟩
                                                        · replace c108 := Bool.eq_false_iff.mpr c108
                                                          subst c108
                                                          have H1 : (payofflaw11_CodeEncodes.j6 k6 l0 x3_1 t204 t208 true) = some r := by rw [if_neg (show ¬ (false = true) by decide)] at H; exact H
                                                          clear H
                                                          have H := H1
                                                          clear H1
                                                          have H' := Aside0.mk H
                                                          clear H
                                                          obtain ⟨Ao120, co120, eo120⟩ := Kd.R_slice HO_19.out
                                                          subst eo120
                                                          obtain ⟨Ao121, co121, eo121⟩ := Kd.R_slice HO_11.out
                                                          subst eo121
                                                          go_wp2_with (first | (go_at_call 26; (with_reducible refine (payofflaw11_sameBytes.calls k6 _ _ t242 _ _ t208 false _ ?side1 ?side2 ?side3 ?side4 A107.out).mono ?_); (case side1 => repeat (first | exact (Kd.R_reads' HO_19.out).2.2 | (with_reducible refine Kd.C_alloc ?_ _) | (with_reducible refine Kd.C_drewN ?_ _) | (with_reducible refine Kd.C_drew ?_))); (case side2 => exact (Kd.R_reads' HO_19.out).2.1); (case side3 => repeat (first | exact (Kd.R_reads' HO_11.out).2.2 | (with_reducible refine Kd.C_alloc ?_ _) | (with_reducible refine Kd.C_drewN ?_ _) | (with_reducible refine Kd.C_drew ?_))); (case side4 => exact (Kd.R_reads' HO_11.out).2.1); rintro e w' ⟨rfl, ⟨nd, rfl⟩⟩))
                                                          go_meet
                                                          case rel => exact ⟨_, (true), (by first | rfl | (simp; done) | (simp [*]; done)), H', ⟨by have := HK1.out; have := HJ21.out; have := HK3.out; have := HK4.out; have := HK5.out; have := HK6.out; first | omega | exact Nat.le_refl _⟩, ⟨by (with_reducible repeat (first | apply Kd.R_alloc | apply Kd.R_drewN | apply Kd.R_drew)); exact HO_3.out⟩, ⟨by (with_reducible repeat (first | apply Kd.R_alloc | apply Kd.R_drewN | apply Kd.R_drew)); exact Kd.R_mono HO_9.out (fun _ hk => hk.2.2.1)⟩, ⟨by (with_reducible repeat (first | apply Kd.R_alloc | apply Kd.R_drewN | apply Kd.R_drew)); exact Kd.R_mono HO_11.out (fun _ hk => hk.2.2.1)⟩, ⟨by repeat (first | (with_reducible first | exact HB.out | apply below_alloc | apply pw_below_drewN | apply below_drew1) | exact HB.out)⟩⟩
                                                      · rw [if_neg c106] at H
                                                        have c106b0 : (t243 == t209) = false := beq_eq_false_iff_ne.mpr c106
                                                        have c106b1 : (t243 != t209) = true := bne_iff_ne.mpr c106
                                                        (first | rw [c106b0] | (simp only [i64_w, i32_w]; rw [c106b0]) | skip)
                                                        have H' := Aside0.mk H
                                                        clear H
                                                        go_wp2
                                                        go_meet
                                                        case rel => exact ⟨_, (true), (by first | rfl | (simp; done) | (simp [*]; done)), H', ⟨by have := HK1.out; have := HJ21.out; have := HK3.out; have := HK4.out; have := HK5.out; have := HK6.out; first | omega | exact Nat.le_refl _⟩, ⟨by (with_reducible repeat (first | apply Kd.R_alloc | apply Kd.R_drewN | apply Kd.R_drew)); exact HO_3.out⟩, ⟨by (with_reducible repeat (first | apply Kd.R_alloc | apply Kd.R_drewN | apply Kd.R_drew)); exact Kd.R_mono HO_9.out (fun _ hk => hk.2.2.1)⟩, ⟨by (with_reducible repeat (first | apply Kd.R_alloc | apply Kd.R_drewN | apply Kd.R_drew)); exact Kd.R_mono HO_11.out (fun _ hk => hk.2.2.1)⟩, ⟨by repeat (first | (with_reducible first | exact HB.out | apply below_alloc | apply pw_below_drewN | apply below_drew1) | exact HB.out)⟩⟩
                                                    case rest => as_aux_lemma =>
                                                      clear HC104
                                                      try clear c1
                                                      try clear hx1
                                                      try clear hf1
                                                      try clear c2
                                                      try clear p2
                                                      try clear q2
                                                      try clear hx2
                                                      try clear c3
                                                      try clear c3b0
                                                      try clear c3b1
                                                      try clear q3
                                                      try clear c4
                                                      try clear c4b0
                                                      try clear c4b1
                                                      try clear q5
                                                      try clear c6
                                                      try clear p6
                                                      try clear q6
                                                      try clear hx6
                                                      try clear hf6
                                                      try clear c7
                                                      try clear c7b0
                                                      try clear c8
                                                      try clear c8b0
                                                      try clear q8
                                                      try clear c9
                                                      try clear p9
                                                      try clear q9
                                                      try clear hx9
                                                      try clear hf9
                                                      try clear c10
                                                      try clear c11
                                                      try clear hx11
                                                      try clear hf11
                                                      try clear c13
                                                      try clear c13b0
                                                      try clear c13b1
                                                      try clear c14
                                                      try clear c14b0
                                                      try clear c14b1
                                                      try clear c17
                                                      try clear c17b0
                                                      try clear c18
                                                      try clear c18b0
                                                      try clear p22
                                                      try clear q22
                                                      try clear hx22
                                                      try clear c24
                                                      try clear p24
                                                      try clear q24
                                                      try clear hx24
                                                      try clear c25
                                                      try clear q30
                                                      try clear c37
                                                      try clear c37b0
                                                      try clear c37b1
                                                      try clear c39
                                                      try clear c41
                                                      try clear c43
                                                      try clear c44
                                                      try clear c44b0
                                                      try clear c45
                                                      try clear c45b0
                                                      try clear q52
                                                      try clear c63
                                                      try clear c64
                                                      try clear c64b0
                                                      try clear p64
                                                      try clear c65
                                                      try clear c65b0
                                                      try clear c66
                                                      try clear c66b0
                                                      try clear c67
                                                      try clear c67b0
                                                      try clear c68
                                                      try clear c68b0
                                                      try clear p69
                                                      try clear q69
                                                      try clear hx69
                                                      try clear hf69
                                                      try clear c73
                                                      try clear c78
                                                      try clear c78b0
                                                      try clear c79
                                                      try clear c81
                                                      try clear c81b0
                                                      try clear c81b1
                                                      try clear c82
                                                      try clear c82b0
                                                      try clear c82b1
                                                      try clear q84
                                                      try clear c86
                                                      try clear c86b0
                                                      try clear c87
                                                      try clear c87b0
                                                      try clear c88
                                                      try clear c88b0
                                                      try clear c89
                                                      try clear c89b0
                                                      try clear c89b1
                                                      try clear c90
                                                      try clear c90b0
                                                      try clear c90b1
                                                      try clear c91
                                                      try clear c91b0
                                                      try clear c92
                                                      try clear c92b0
                                                      try clear c92b1
                                                      try clear c98
                                                      try clear c98b0
                                                      try clear c99
                                                      try clear c99b0
                                                      try clear c100
                                                      try clear c100b0
                                                      try clear c100b1
                                                      try clear c106
                                                      try clear c106b0
                                                      try clear c106b1
                                                      try clear c108
                                                      try clear c110
                                                      try clear hx11_0
                                                      try clear hx11_1
                                                      try clear hx11_2
                                                      try clear hx227_0
                                                      try clear hx227_1
                                                      try clear hx227_2
                                                      try clear hx246_0
                                                      try clear hx247_0
                                                      try clear hx248_0
                                                      try clear hx249_0
                                                      try clear hx69_0
                                                      try clear hx9_0
                                                      try clear hx9_1
                                                      try clear hx9_2
                                                      try clear p2
                                                      try clear p22
                                                      try clear p227
                                                      try clear p246
                                                      try clear p247
                                                      try clear p248
                                                      try clear p249
                                                      try clear p6
                                                      try clear p64
                                                      try clear p69
                                                      try clear p9
                                                      try clear q2
                                                      try clear q22
                                                      try clear q227
                                                      try clear q24
                                                      try clear q246
                                                      try clear q247
                                                      try clear q248
                                                      try clear q249
                                                      try clear q3
                                                      try clear q30
                                                      try clear q5
                                                      try clear q52
                                                      try clear q6
                                                      try clear q69
                                                      try clear q8
                                                      try clear q84
                                                      try clear q9
                                                      obtain ⟨kq, x206_103, rfl, HA, HJ103, HO_3, HO_9, HO_11, HB⟩ := hcut
                                                      cases kq with
                                                      | zero => exact absurd HA.out (by simp [payofflaw11_CodeEncodes.j6])
                                                      | succ kj103 =>
                                                        have H := HA.out
                                                        clear HA
                                                        simp only [payofflaw11_CodeEncodes.j6] at H
                                                        by_cases c122 : x206_103 = true
                                                        · subst c122
                                                          have H1 : (none) = some r := by rw [if_pos rfl] at H; exact H
                                                          exact absurd H1 (by simp)
                                                        · replace c122 := Bool.eq_false_iff.mpr c122
                                                          subst c122
                                                          have H1 : ((some (([] : List (S27)) : List (S27))).bind fun y253 => (if y253.length + l0.length < 5864062014805 then (payofflaw11_CodeEncodes.l5 kj103 l0 x3_1 t204 t208 (y253 ++ l0) 0) else (none))) = some r := by rw [if_neg (show ¬ (false = true) by decide)] at H; exact H
                                                          clear H
                                                          have H := H1
                                                          clear H1
                                                          obtain ⟨y253, hy253⟩ : ∃ y_ : List (S27), y_ = (([] : List (S27))) := ⟨_, rfl⟩
                                                          replace H : (if y253.length + l0.length < 5864062014805 then (payofflaw11_CodeEncodes.l5 kj103 l0 x3_1 t204 t208 (y253 ++ l0) 0) else (none)) = some r := by first | (rw [hy253]; with_reducible exact H) | (have H2_ := (Option.bind_some _ _).symm.trans H; rw [hy253]; with_reducible exact H2_) | (have H2_ := (Option.bind_some _ _).symm.trans H; with_reducible exact H2_) | with_reducible exact H | (rw [hy253]; exact H) | exact H
                                                          have Ny253 := Aside0.mk hy253
                                                          clear hy253
                                                          by_cases c123 : y253.length + l0.length < 5864062014805
                                                          · rw [if_pos c123] at H
                                                            have LMc123 := Aside0.mk c123
                                                            clear c123
                                                            obtain ⟨y256, hy256⟩ : ∃ y_ : List (S27), y_ = (y253 ++ l0) := ⟨_, rfl⟩
                                                            replace H : (payofflaw11_CodeEncodes.l5 kj103 l0 x3_1 t204 t208 y256 0) = some r := by first | (rw [hy256]; with_reducible exact H) | (have H2_ := (Option.bind_some _ _).symm.trans H; rw [hy256]; with_reducible exact H2_) | (have H2_ := (Option.bind_some _ _).symm.trans H; with_reducible exact H2_) | with_reducible exact H | (rw [hy256]; exact H) | exact H
                                                            have Ny256 := Aside0.mk hy256
                                                            clear hy256
                                                            have H' := Aside0.mk H
                                                            clear H
                                                            go_wp2_with (first | ((with_reducible refine gate_dst (N := 207) rfl ?_); (try (refine gate_guard (by rfl) ?_; dsimp only)); refine Kd.R_lit k27 _ 27 ?hg (N := 207) ?hd (xs := ([] : List (S27))) (inner := []) (ok := fun _ => True) (okp := fun _ => True) ?hr ?hp (fun _ hk => hk) trivial (Below.refl _ _) (Nat.le_refl _) (by simp) ?_; (case hd => rfl); (case hg => rfl); (case hr => first | (go_simp; done) | (go_simp; rfl)); (case hp => exact (Reps.none _ _)); intro v254 w124 ho125 hb hg_ hnew_; clear hg_ hnew_; (first | rw [← Ny253.out] at ho125 | (simp only [Int.reduceToNat] at ho125; rw [← Ny253.out] at ho125)); have n0_ := Aside0.mk (Kd.R_elder' (by (with_reducible repeat (first | apply Kd.R_alloc | apply Kd.R_drewN | apply Kd.R_drew)); exact HO_3.out) (Kd.R_base ho125) hb); have n1_ := Aside0.mk (Kd.R_below (by (with_reducible repeat (first | apply Kd.R_alloc | apply Kd.R_drewN | apply Kd.R_drew)); exact HO_9.out) hb); have n2_ := Aside0.mk (Kd.R_below (by (with_reducible repeat (first | apply Kd.R_alloc | apply Kd.R_drewN | apply Kd.R_drew)); exact HO_11.out) hb); have n3_ := Aside0.mk (Kd.R_lower (Kd.R_new' ho125 (Kd.R_lt (by (with_reducible repeat (first | apply Kd.R_alloc | apply Kd.R_drewN | apply Kd.R_drew)); exact HO_3.out))) (below_size (by repeat (first | (with_reducible first | exact HB.out | apply below_alloc | apply pw_below_drewN | apply below_drew1) | exact HB.out)))); have n7_ := Aside0.mk (below_step (by repeat (first | (with_reducible first | exact HB.out | apply below_alloc | apply pw_below_drewN | apply below_drew1) | exact HB.out)) hb); clear HO_3; clear HO_9; clear HO_11; clear HB; have HO_3 := n0_; have HO_9 := n1_; have HO_11 := n2_; have HO255 := n3_; have HB := n7_; clear n0_ n1_ n2_ n3_ n7_; clear hb ho125) | ((with_reducible refine gate_builtin (b := .append) (xs := #[.tmp 207, .tmp 208]) rfl ?_); (try (refine gate_guard (by rfl) ?_; dsimp only)); at_builtin; refine Kd.R_append_rows k27 (w0 := w) w.heap.size rfl (.tmp 207) (.tmp 208) 37 27 (.agg #[(.int .i64 0), (.int .i64 0), (.int .i64 0)]) 24 rfl Tryd.underlying37 info27 rfl (by decide) (by omega) v254 y253 l0 _ _ _ (fun k_ => some k_ ≠ (.slice Ao23 x3_1.length co23 : Value).ownBlock) (fun _ => False) rfl rfl ?aO ?aR (fun _ _ h => h) (fun _ h => h.elim) ?aF ?aB ?aS ?aL ?_; (case aR => repeat (first | exact (Kd.C_below HR0.out HB.out) | (with_reducible refine Kd.C_alloc ?_ _) | (with_reducible refine Kd.C_drewN ?_ _) | (with_reducible refine Kd.C_drew ?_))); (case aB => exact (by repeat (first | (with_reducible first | exact HB.out | apply below_alloc | apply pw_below_drewN | apply below_drew1) | exact HB.out))); (case aF => exact (fun k_ hk => Kd.fresh' (Kd.R_lt (by (with_reducible repeat (first | apply Kd.R_alloc | apply Kd.R_drewN | apply Kd.R_drew)); exact HO_3.out)) k_ hk)); (case aO => exact (by (with_reducible repeat (first | apply Kd.R_alloc | apply Kd.R_drewN | apply Kd.R_drew)); exact Kd.R_mono HO255.out (fun _ hk => hk.2))); (case aS => exact (below_size (by repeat (first | (with_reducible first | exact HB.out | apply below_alloc | apply pw_below_drewN | apply below_drew1) | exact HB.out)))); (case aL => have := LMc123.out; omega); intro v257 w126 ho hb hg hat; rw [← Ny256.out] at ho; have n0_ := Aside0.mk (Kd.R_after (ok := (fun _ => True)) (by (with_reducible repeat (first | apply Kd.R_alloc | apply Kd.R_drewN | apply Kd.R_drew)); exact HO_3.out) hg hat); have n1_ := Aside0.mk (Kd.R_over' (by (with_reducible repeat (first | apply Kd.R_alloc | apply Kd.R_drewN | apply Kd.R_drew)); exact HO_9.out) (Kd.R_typed (by (with_reducible repeat (first | apply Kd.R_alloc | apply Kd.R_drewN | apply Kd.R_drew)); exact HO255.out)) (by decide) hg); have n2_ := Aside0.mk (Kd.R_over' (by (with_reducible repeat (first | apply Kd.R_alloc | apply Kd.R_drewN | apply Kd.R_drew)); exact HO_11.out) (Kd.R_typed (by (with_reducible repeat (first | apply Kd.R_alloc | apply Kd.R_drewN | apply Kd.R_drew)); exact HO255.out)) (by decide) hg); have n3_ := Aside0.mk (hb); have n7_ := Aside0.mk (ho); clear HO_3; clear HO_9; clear HO_11; clear HB; clear HO255; have HO_3 := n0_; have HO_9 := n1_; have HO_11 := n2_; have HB := n3_; have HO258 := n7_; clear n0_ n1_ n2_ n3_ n7_; clear ho hb hg hat))
                                                            go_loopg [23] kj103 (fun kq v23 w' => ∃ (x3_8 : List (S27)) (x22_8 : List (S27)) (x23_8 : Int), v23 = .int .i64 x23_8 ∧ Aside0 (payofflaw11_CodeEncodes.l5 kq l0 x3_8 t204 t208 x22_8 x23_8 = some r) ∧ Aside0 (kq ≤ kj103) ∧ Aside0 (Kd.R k27 27 w' w.heap.size (fun k_ => some k_ ≠ (v257 : Value).ownBlock) (.slice Ao23 x3_1.length co23) x3_8) ∧ Aside0 (Kd.R (Kd.int .u8) 5 w' w.heap.size (fun k_ => some k_ ≠ (v210 : Value).ownBlock) v206 t204) ∧ Aside0 (Kd.R (Kd.int .u8) 5 w' w.heap.size (fun k_ => some k_ ≠ (v206 : Value).ownBlock) v210 t208) ∧ Aside0 (Kd.R k27 27 w' w.heap.size (fun k_ => some k_ ≠ ((.slice Ao23 x3_1.length co23) : Value).ownBlock) v257 x22_8) ∧ Aside0 (Below w.heap.size w w'))
                                                            case atStart => exact ⟨(x3_1), (y256), (0), (by first | rfl | (simp; done) | (simp [*]; done)), H', ⟨Nat.le_refl _⟩, ⟨by (with_reducible repeat (first | apply Kd.R_alloc | apply Kd.R_drewN | apply Kd.R_drew)); exact Kd.R_mono HO_3.out (fun _ hk => hk.2)⟩, ⟨by (with_reducible repeat (first | apply Kd.R_alloc | apply Kd.R_drewN | apply Kd.R_drew)); exact HO_9.out⟩, ⟨by (with_reducible repeat (first | apply Kd.R_alloc | apply Kd.R_drewN | apply Kd.R_drew)); exact HO_11.out⟩, ⟨by (with_reducible repeat (first | apply Kd.R_alloc | apply Kd.R_drewN | apply Kd.R_drew)); exact HO258.out⟩, ⟨by repeat (first | (with_reducible first | exact HB.out | apply below_alloc | apply pw_below_drewN | apply below_drew1) | exact HB.out)⟩⟩
                                                            case round =>
                                                              clear H'
                                                              try clear c1
                                                              try clear hx1
                                                              try clear hf1
                                                              try clear c2
                                                              try clear p2
                                                              try clear q2
                                                              try clear hx2
                                                              try clear c3
                                                              try clear c3b0
                                                              try clear c3b1
                                                              try clear q3
                                                              try clear c4
                                                              try clear c4b0
                                                              try clear c4b1
                                                              try clear q5
                                                              try clear c6
                                                              try clear p6
                                                              try clear q6
                                                              try clear hx6
                                                              try clear hf6
                                                              try clear c7
                                                              try clear c7b0
                                                              try clear c8
                                                              try clear c8b0
                                                              try clear q8
                                                              try clear c9
                                                              try clear p9
                                                              try clear q9
                                                              try clear hx9
                                                              try clear hf9
                                                              try clear c10
                                                              try clear c11
                                                              try clear hx11
                                                              try clear hf11
                                                              try clear c12
                                                              try clear c13
                                                              try clear c13b0
                                                              try clear c13b1
                                                              try clear c14
                                                              try clear c14b0
                                                              try clear c14b1
                                                              try clear c17
                                                              try clear c17b0
                                                              try clear c18
                                                              try clear c18b0
                                                              try clear p22
                                                              try clear q22
                                                              try clear hx22
                                                              try clear c24
                                                              try clear p24
                                                              try clear q24
                                                              try clear hx24
                                                              try clear c25
                                                              try clear q30
                                                              try clear c37
                                                              try clear c37b0
                                                              try clear c37b1
                                                              try clear c39
                                                              try clear c41
                                                              try clear c43
                                                              try clear c44
                                                              try clear c44b0
                                                              try clear c45
                                                              try clear c45b0
                                                              try clear q52
                                                              try clear c63
                                                              try clear c64
                                                              try clear c64b0
                                                              try clear p64
                                                              try clear c65
                                                              try clear c65b0
                                                              try clear c66
                                                              try clear c66b0
                                                              try clear c67
                                                              try clear c67b0
                                                              try clear c68
                                                              try clear c68b0
                                                              try clear p69
                                                              try clear q69
                                                              try clear hx69
                                                              try clear hf69
                                                              try clear c73
                                                              try clear c78
                                                              try clear c78b0
                                                              try clear c79
                                                              try clear c81
                                                              try clear c81b0
                                                              try clear c81b1
                                                              try clear c82
                                                              try clear c82b0
                                                              try clear c82b1
                                                              try clear q84
                                                              try clear c86
                                                              try clear c86b0
                                                              try clear c87
                                                              try clear c87b0
                                                              try clear c88
                                                              try clear c88b0
                                                              try clear c89
                                                              try clear c89b0
                                                              try clear c89b1
                                                              try clear c90
                                                              try clear c90b0
                                                              try clear c90b1
                                                              try clear c91
                                                              try clear c91b0
                                                              try clear c92
                                                              try clear c92b0
                                                              try clear c92b1
                                                              try clear c98
                                                              try clear c98b0
                                                              try clear c99
                                                              try clear c99b0
                                                              try clear c100
                                                              try clear c100b0
                                                              try clear c100b1
                                                              try clear c106
                                                              try clear c106b0
                                                              try clear c106b1
                                                              try clear c108
                                                              try clear c110
                                                              try clear c122
                                                              try clear c123
                                                              try clear hx11_0
                                                              try clear hx11_1
                                                              try clear hx11_2
                                                              try clear hx227_0
                                                              try clear hx227_1
                                                              try clear hx227_2
                                                              try clear hx246_0
                                                              try clear hx247_0
                                                              try clear hx248_0
                                                              try clear hx249_0
                                                              try clear hx69_0
                                                              try clear hx9_0
                                                              try clear hx9_1
                                                              try clear hx9_2
                                                              try clear p2
                                                              try clear p22
                                                              try clear p227
                                                              try clear p24
                                                              try clear p246
                                                              try clear p247
                                                              try clear p248
                                                              try clear p249
                                                              try clear p6
                                                              try clear p64
                                                              try clear p69
                                                              try clear p9
                                                              try clear q2
                                                              try clear q22
                                                              try clear q227
                                                              try clear q24
                                                              try clear q246
                                                              try clear q247
                                                              try clear q248
                                                              try clear q249
                                                              try clear q3
                                                              try clear q30
                                                              try clear q5
                                                              try clear q52
                                                              try clear q6
                                                              try clear q69
                                                              try clear q8
                                                              try clear q84
                                                              try clear q9
                                                              obtain ⟨x3_8, x22_8, x23_8, rfl, HA, HK8, HO_3, HO_9, HO_11, HO_22, HB⟩ := hrel
                                                              have hl3_8 := (Kd.R_reads' HO_3.out).1
                                                              rw [hl3_8] at HO_3
                                                              (try simp only [hl3_8])
                                                              (try simp only [hl3_8] at HO_9)
                                                              (try simp only [hl3_8] at HO_11)
                                                              (try simp only [hl3_8] at HO_22)
                                                              cases gk with
                                                              | zero => exact absurd HA.out (by simp [payofflaw11_CodeEncodes.l5])
                                                              | succ k8 =>
                                                                have H := HA.out
                                                                clear HA
                                                                simp only [payofflaw11_CodeEncodes.l5] at H
                                                                by_cases c127 : x23_8 < (l0.length : Int)
                                                                · rw [if_pos c127] at H
                                                                  have c127b0 : decide (x23_8 < (l0.length : Int)) = true := decide_eq_true c127
                                                                  clear c127
                                                                  obtain ⟨ji128, hji128⟩ : ∃ j_ : Int, (wrap64 ((wrap64 ((l0.length : Int) - 1)) - x23_8)) = j_ := ⟨_, rfl⟩
                                                                  replace H : (if 0 ≤ (ji128) then (if (ji128) < (l0.length : Int) then (if 0 ≤ x23_8 then (if x23_8 < (x22_8.length : Int) then ((some (x22_8.set (x23_8 : Int).toNat (⟨(rd_T27 l0 (ji128)).f0, (rd_T27 l0 (ji128)).f1, (rd_T27 l0 (ji128)).f2⟩ : S27) : List (S27))).bind fun y260 => (if x23_8 < (x3_8.length : Int) then (payofflaw11_CodeEncodes.l5 k8 l0 (x3_8.set (x23_8 : Int).toNat (⟨(rd_T27 y260 x23_8).f0, (rd_T27 y260 x23_8).f1, (rd_T27 y260 x23_8).f2⟩ : S27)) t204 t208 y260 (wrap64 (x23_8 + 1))) else (none))) else (none)) else (none)) else (none)) else (none)) = some r := by first | (rw [hji128] at H; exact H) | (simp only [hji128] at H ⊢; exact H)
                                                                  have hji128w : (IntKind.i64.wrap ((wrap64 ((l0.length : Int) - 1)) - x23_8)) = ji128 := (i64_w _).trans hji128
                                                                  by_cases c129 : 0 ≤ (ji128)
                                                                  · rw [if_pos c129] at H
                                                                    have c129b0 : decide (0 ≤ (ji128)) = true := decide_eq_true c129
                                                                    clear c129
                                                                    by_cases c130 : (ji128) < (l0.length : Int)
                                                                    · rw [if_pos c130] at H
                                                                      have c130b0 : decide ((ji128) < (l0.length : Int)) = true := decide_eq_true c130
                                                                      clear c130
                                                                      by_cases c131 : 0 ≤ x23_8
                                                                      · rw [if_pos c131] at H
                                                                        have c131b0 : decide (0 ≤ x23_8) = true := decide_eq_true c131
                                                                        clear c131
                                                                        by_cases c132 : x23_8 < (x22_8.length : Int)
                                                                        · rw [if_pos c132] at H
                                                                          have c132b0 : decide (x23_8 < (x22_8.length : Int)) = true := decide_eq_true c132
                                                                          clear c132
                                                                          obtain ⟨y260, hy260⟩ : ∃ y_ : List (S27), y_ = (x22_8.set (x23_8 : Int).toNat (⟨(rd_T27 l0 (ji128)).f0, (rd_T27 l0 (ji128)).f1, (rd_T27 l0 (ji128)).f2⟩ : S27)) := ⟨_, rfl⟩
                                                                          replace H : (if x23_8 < (x3_8.length : Int) then (payofflaw11_CodeEncodes.l5 k8 l0 (x3_8.set (x23_8 : Int).toNat (⟨(rd_T27 y260 x23_8).f0, (rd_T27 y260 x23_8).f1, (rd_T27 y260 x23_8).f2⟩ : S27)) t204 t208 y260 (wrap64 (x23_8 + 1))) else (none)) = some r := by first | (rw [hy260]; with_reducible exact H) | (have H2_ := (Option.bind_some _ _).symm.trans H; rw [hy260]; with_reducible exact H2_) | (have H2_ := (Option.bind_some _ _).symm.trans H; with_reducible exact H2_) | with_reducible exact H | (rw [hy260]; exact H) | exact H
                                                                          have Ny260 := Aside0.mk hy260
                                                                          clear hy260
                                                                          by_cases c134 : x23_8 < (x3_8.length : Int)
                                                                          · rw [if_pos c134] at H
                                                                            have c134b0 : decide (x23_8 < (x3_8.length : Int)) = true := decide_eq_true c134
                                                                            clear c134
                                                                            obtain ⟨y262, hy262⟩ : ∃ y_ : List (S27), y_ = (x3_8.set (x23_8 : Int).toNat (⟨(rd_T27 y260 x23_8).f0, (rd_T27 y260 x23_8).f1, (rd_T27 y260 x23_8).f2⟩ : S27)) := ⟨_, rfl⟩
                                                                            replace H : (payofflaw11_CodeEncodes.l5 k8 l0 y262 t204 t208 y260 (wrap64 (x23_8 + 1))) = some r := by first | (rw [hy262]; with_reducible exact H) | (have H2_ := (Option.bind_some _ _).symm.trans H; rw [hy262]; with_reducible exact H2_) | (have H2_ := (Option.bind_some _ _).symm.trans H; with_reducible exact H2_) | with_reducible exact H | (rw [hy262]; exact H) | exact H
                                                                            have Ny262 := Aside0.mk hy262
                                                                            clear hy262
                                                                            have H' := Aside0.mk H
                                                                            clear H
                                                                            have p259 : 0 ≤ ((ji128) : Int) := of_decide_eq_true (by first | (with_reducible assumption) | assumption)
                                                                            have q259 : (ji128) < (l0.length : Int) := of_decide_eq_true (by first | (with_reducible assumption) | assumption)
                                                                            obtain ⟨ad259, e259, hx259_0, hx259_1, hx259_2⟩ := at_T27 HR0.out (ji128) p259 q259
                                                                            cases e259
                                                                            replace hx259_0 := (HB.out.cell (World.block_lt_of_cell? w _ hx259_0)).trans hx259_0
                                                                            replace hx259_1 := (HB.out.cell (World.block_lt_of_cell? w _ hx259_1)).trans hx259_1
                                                                            replace hx259_2 := (HB.out.cell (World.block_lt_of_cell? w _ hx259_2)).trans hx259_2
                                                                            replace p259 := eq_true p259
                                                                            replace q259 := eq_true q259
                                                                            have p133 : 0 ≤ (x23_8 : Int) := of_decide_eq_true (by first | (with_reducible assumption) | assumption)
                                                                            have q133 : (x23_8 : Int) < ((x22_8.length : Int) : Int) := of_decide_eq_true (by first | (with_reducible assumption) | assumption)
                                                                            obtain ⟨go133, co133, eo133, gb133, gl133, cl133, HG133⟩ := Kd.R_form HO_22.out (by omega)
                                                                            (first | cases eo133 | (injection eo133 with ea_ en_ ec_; (first | subst ea_ | (injection ea_ with ea_; subst ea_)); subst ec_; clear en_))
                                                                            have GB133 := Aside0.mk gb133
                                                                            have GG133 := Aside0.mk HG133
                                                                            clear gb133 gl133 HG133
                                                                            obtain ⟨ce133, hcl133, hM133, hcc133, hfr133⟩ := Kd.R_elem HO_22.out z27 (x23_8 : Int) p133 q133
                                                                            obtain rfl := k27_openM hM133
                                                                            have hx133_0 : wr.cell? ⟨go133, (x23_8 : Int).toNat * 3, none⟩ = some (.int .i64 ((rd_T27 x22_8 x23_8).f0)) := hcc133 0 _ rfl
                                                                            have hx133_1 : wr.cell? ⟨go133, (x23_8 : Int).toNat * 3 + 1, none⟩ = some (.int .i64 ((rd_T27 x22_8 x23_8).f1)) := hcc133 1 _ rfl
                                                                            have hx133_2 : wr.cell? ⟨go133, (x23_8 : Int).toNat * 3 + 2, none⟩ = some (.int .i64 ((rd_T27 x22_8 x23_8).f2)) := hcc133 2 _ rfl
                                                                            have hf133_0 : wr.frozen? ⟨go133, (x23_8 : Int).toNat * 3, none⟩ = false := hfr133 0
                                                                            have hf133_1 : wr.frozen? ⟨go133, (x23_8 : Int).toNat * 3 + 1, none⟩ = false := hfr133 1
                                                                            have hf133_2 : wr.frozen? ⟨go133, (x23_8 : Int).toNat * 3 + 2, none⟩ = false := hfr133 2
                                                                            clear hcl133 hcc133 hfr133 hM133
                                                                            replace p133 := eq_true p133
                                                                            replace q133 := eq_true q133
                                                                            have HX136 := Aside0.mk (show Kd.R k27 27 wr w.heap.size (fun k_ => some k_ ≠ (.slice Ao23 x3_8.length co23 : Value).ownBlock) (.slice (some ⟨go133, 0, none⟩) x22_8.length co133) x22_8 from (by (with_reducible repeat (first | apply Kd.R_alloc | apply Kd.R_drewN | apply Kd.R_drew)); exact HO_22.out))
                                                                            obtain ⟨ce136, hcl136, hM136, hcc136, hfr136⟩ := Kd.R_elem HX136.out z27 (x23_8 : Int) (of_decide_eq_true (by first | (with_reducible assumption) | assumption)) (by have h_ : (x23_8 : Int) < ((x22_8.length : Int) : Int) := of_decide_eq_true (by first | (with_reducible assumption) | assumption); first | exact h_ | (have e_ := (Kd.R_reads' HO_22.out).1; omega) | simpa using h_)
                                                                            obtain rfl := k27_openM hM136
                                                                            have HP136 := Kd.R_seg HX136.out (x23_8 : Int) (of_decide_eq_true (by first | (with_reducible assumption) | assumption)) (by have h_ : (x23_8 : Int) < ((x22_8.length : Int) : Int) := of_decide_eq_true (by first | (with_reducible assumption) | assumption); first | exact h_ | (have e_ := (Kd.R_reads' HO_22.out).1; omega) | simpa using h_) (seg := [.int .i64 ((rd_T27 l0 (ji128)).f0), .int .i64 ((rd_T27 l0 (ji128)).f1), .int .i64 ((rd_T27 l0 (ji128)).f2)]) (j := 0) hcl136 hcc136 (show 3 ≤ 3 from by decide) (x' := (⟨(rd_T27 l0 (ji128)).f0, (rd_T27 l0 (ji128)).f1, (rd_T27 l0 (ji128)).f2⟩ : S27)) (k27_mkM _ _ _ (⟨(rd_T27 l0 (ji128)).f0, (rd_T27 l0 (ji128)).f1, (rd_T27 l0 (ji128)).f2⟩ : S27) ) (fun _ hk => hk)
                                                                            have hx136_0 := hcc136 0 _ rfl
                                                                            (try simp only [show (k27).sz = 3 from rfl, Nat.mul_one, Nat.add_zero] at hx136_0)
                                                                            have hf136_0 := hfr136 0
                                                                            (try simp only [show (k27).sz = 3 from rfl, Nat.mul_one, Nat.add_zero] at hf136_0)
                                                                            have hx136_1 := hcc136 1 _ rfl
                                                                            (try simp only [show (k27).sz = 3 from rfl, Nat.mul_one, Nat.add_zero] at hx136_1)
                                                                            have hf136_1 := hfr136 1
                                                                            (try simp only [show (k27).sz = 3 from rfl, Nat.mul_one, Nat.add_zero] at hf136_1)
                                                                            have hx136_2 := hcc136 2 _ rfl
                                                                            (try simp only [show (k27).sz = 3 from rfl, Nat.mul_one, Nat.add_zero] at hx136_2)
                                                                            have hf136_2 := hfr136 2
                                                                            (try simp only [show (k27).sz = 3 from rfl, Nat.mul_one, Nat.add_zero] at hf136_2)
                                                                            clear hcl136 hcc136 hfr136 hM136
                                                                            go_wp2_with (first | ((with_reducible refine gate_store (t := 27) (p := 226) rfl ?_); refine store_event (t := 27) (p := 226) (v := ?vo_w137) (w1 := (((wr.setCell ⟨go133, (x23_8 : Int).toNat * 3, none⟩ (.int .i64 ((rd_T27 l0 (ji128)).f0))).setCell ⟨go133, (x23_8 : Int).toNat * 3 + 1, none⟩ (.int .i64 ((rd_T27 l0 (ji128)).f1))).setCell ⟨go133, (x23_8 : Int).toNat * 3 + 2, none⟩ (.int .i64 ((rd_T27 l0 (ji128)).f2)))) ?hg ?ho ?hn ?hr ?_; (case ho => rfl); (case hg => rfl); (case hn => rfl); (case hr => first | (go_simp; done) | (go_simp; rfl)); intro w137 hw; have hg : wr.grownBy w137 (some go133) := (by rw [hw]; exact HP136.2); have hp_ : Kd.R k27 27 w137 w.heap.size (fun k_ => some k_ ≠ (.slice Ao23 x3_8.length co23 : Value).ownBlock) (.slice (some ⟨go133, 0, none⟩) x22_8.length co133) y260 := (by rw [hw, Ny260.out]; exact HP136.1); clear HP136; have n0_ := Aside0.mk (Kd.R_after (v := (.slice (some ⟨go133, 0, none⟩) x22_8.length co133)) (v1 := (.slice (some ⟨go133, 0, none⟩) x22_8.length co133)) (ok := (fun _ => True)) (by (with_reducible repeat (first | apply Kd.R_alloc | apply Kd.R_drewN | apply Kd.R_drew)); exact Kd.R_mono HO_3.out (fun _ hk => ⟨trivial, hk⟩)) hg (.inl rfl)); have n1_ := Aside0.mk (Kd.R_over' (v := (.slice (some ⟨go133, 0, none⟩) x22_8.length co133)) (by (with_reducible repeat (first | apply Kd.R_alloc | apply Kd.R_drewN | apply Kd.R_drew)); exact HO_9.out) (Kd.R_typed HO_22.out) (by decide) hg); have n2_ := Aside0.mk (Kd.R_over' (v := (.slice (some ⟨go133, 0, none⟩) x22_8.length co133)) (by (with_reducible repeat (first | apply Kd.R_alloc | apply Kd.R_drewN | apply Kd.R_drew)); exact HO_11.out) (Kd.R_typed HO_22.out) (by decide) hg); have n3_ := Aside0.mk (hp_); have n4_ := Aside0.mk ((by rw [hw]; exact below_set (below_set (below_set (HB.out) GB133.out) GB133.out) GB133.out : Below w.heap.size w w137)); clear HO_3; clear HO_9; clear HO_11; clear HO_22; clear HB; have HO_3 := n0_; have HO_9 := n1_; have HO_11 := n2_; have HO_22 := n3_; have HB := n4_; clear n0_ n1_ n2_ n3_ n4_; clear hg hw hp_; have p261 : 0 ≤ (x23_8 : Int) := of_decide_eq_true (by first | (with_reducible assumption) | assumption); have q261 : x23_8 < (y260.length : Int) := (by have h_ : (x23_8 : Int) < ((x22_8.length : Int) : Int) := of_decide_eq_true (by first | (with_reducible assumption) | assumption); first | (have e_ := (Kd.R_reads' HO_22.out).1; omega) | simpa only [Ny260.out, List.length_set] using h_); have ql261 : ((x23_8 : Int) < ((x22_8.length : Int) : Int)) = True := eq_true (of_decide_eq_true (by first | (with_reducible assumption) | assumption)); obtain ⟨ad261, e261, hx261_0, hx261_1, hx261_2⟩ := at_T27 (Kd.R_reads' HO_22.out).2.2 x23_8 p261 q261; obtain rfl : (⟨go133, 0, none⟩ : Addr) = ad261 := (by injection e261); (first | simp only [add_plain] at hx261_0 | simp only [add_at] at hx261_0 | simp only [Addr.add, Nat.zero_add] at hx261_0 | skip); (first | simp only [add_plain] at hx261_1 | simp only [add_at] at hx261_1 | simp only [Addr.add, Nat.zero_add] at hx261_1 | skip); (first | simp only [add_plain] at hx261_2 | simp only [add_at] at hx261_2 | simp only [Addr.add, Nat.zero_add] at hx261_2 | skip); replace p261 := eq_true p261; replace q261 := eq_true q261; have p135 : 0 ≤ (x23_8 : Int) := of_decide_eq_true (by first | (with_reducible assumption) | assumption); have q135 : (x23_8 : Int) < ((x3_8.length : Int) : Int) := of_decide_eq_true (by first | (with_reducible assumption) | assumption); obtain ⟨go135, co135, eo135, gb135, gl135, cl135, HG135⟩ := Kd.R_form HO_3.out (by omega); (first | cases eo135 | (injection eo135 with ea_ en_ ec_; (first | subst ea_ | (injection ea_ with ea_; subst ea_)); subst ec_; clear en_)); have GB135 := Aside0.mk gb135; have GG135 := Aside0.mk HG135; clear gb135 gl135 HG135; obtain ⟨ce135, hcl135, hM135, hcc135, hfr135⟩ := Kd.R_elem HO_3.out z27 (x23_8 : Int) p135 q135; obtain rfl := k27_openM hM135; have hx135_0 : w137.cell? ⟨go135, (x23_8 : Int).toNat * 3, none⟩ = some (.int .i64 ((rd_T27 x3_8 x23_8).f0)) := hcc135 0 _ rfl; have hx135_1 : w137.cell? ⟨go135, (x23_8 : Int).toNat * 3 + 1, none⟩ = some (.int .i64 ((rd_T27 x3_8 x23_8).f1)) := hcc135 1 _ rfl; have hx135_2 : w137.cell? ⟨go135, (x23_8 : Int).toNat * 3 + 2, none⟩ = some (.int .i64 ((rd_T27 x3_8 x23_8).f2)) := hcc135 2 _ rfl; have hf135_0 : w137.frozen? ⟨go135, (x23_8 : Int).toNat * 3, none⟩ = false := hfr135 0; have hf135_1 : w137.frozen? ⟨go135, (x23_8 : Int).toNat * 3 + 1, none⟩ = false := hfr135 1; have hf135_2 : w137.frozen? ⟨go135, (x23_8 : Int).toNat * 3 + 2, none⟩ = false := hfr135 2; clear hcl135 hcc135 hfr135 hM135; replace p135 := eq_true p135; replace q135 := eq_true q135; have n_ := Aside0.mk (Kd.R_mono (ok' := (fun k_ => some k_ ≠ (.slice (some ⟨go133, 0, none⟩) x22_8.length co133 : Value).ownBlock)) HO_3.out (fun k_ hk => hk.2)); clear HO_3; have HO_3 := n_; clear n_; have HX138 := Aside0.mk (show Kd.R k27 27 w137 w.heap.size (fun k_ => some k_ ≠ (.slice (some ⟨go133, 0, none⟩) x22_8.length co133 : Value).ownBlock) (.slice (some ⟨go135, 0, none⟩) x3_8.length co23) x3_8 from (by (with_reducible repeat (first | apply Kd.R_alloc | apply Kd.R_drewN | apply Kd.R_drew)); exact HO_3.out)); obtain ⟨ce138, hcl138, hM138, hcc138, hfr138⟩ := Kd.R_elem HX138.out z27 (x23_8 : Int) (of_decide_eq_true (by first | (with_reducible assumption) | assumption)) (by have h_ : (x23_8 : Int) < ((x3_8.length : Int) : Int) := of_decide_eq_true (by first | (with_reducible assumption) | assumption); first | exact h_ | (have e_ := (Kd.R_reads' HO_3.out).1; omega) | simpa using h_); obtain rfl := k27_openM hM138; have HP138 := Kd.R_seg HX138.out (x23_8 : Int) (of_decide_eq_true (by first | (with_reducible assumption) | assumption)) (by have h_ : (x23_8 : Int) < ((x3_8.length : Int) : Int) := of_decide_eq_true (by first | (with_reducible assumption) | assumption); first | exact h_ | (have e_ := (Kd.R_reads' HO_3.out).1; omega) | simpa using h_) (seg := [.int .i64 ((rd_T27 y260 x23_8).f0), .int .i64 ((rd_T27 y260 x23_8).f1), .int .i64 ((rd_T27 y260 x23_8).f2)]) (j := 0) hcl138 hcc138 (show 3 ≤ 3 from by decide) (x' := (⟨(rd_T27 y260 x23_8).f0, (rd_T27 y260 x23_8).f1, (rd_T27 y260 x23_8).f2⟩ : S27)) (k27_mkM _ _ _ (⟨(rd_T27 y260 x23_8).f0, (rd_T27 y260 x23_8).f1, (rd_T27 y260 x23_8).f2⟩ : S27) ) (fun _ hk => hk); have hx138_0 := hcc138 0 _ rfl; (try simp only [show (k27).sz = 3 from rfl, Nat.mul_one, Nat.add_zero] at hx138_0); have hf138_0 := hfr138 0; (try simp only [show (k27).sz = 3 from rfl, Nat.mul_one, Nat.add_zero] at hf138_0); have hx138_1 := hcc138 1 _ rfl; (try simp only [show (k27).sz = 3 from rfl, Nat.mul_one, Nat.add_zero] at hx138_1); have hf138_1 := hfr138 1; (try simp only [show (k27).sz = 3 from rfl, Nat.mul_one, Nat.add_zero] at hf138_1); have hx138_2 := hcc138 2 _ rfl; (try simp only [show (k27).sz = 3 from rfl, Nat.mul_one, Nat.add_zero] at hx138_2); have hf138_2 := hfr138 2; (try simp only [show (k27).sz = 3 from rfl, Nat.mul_one, Nat.add_zero] at hf138_2); clear hcl138 hcc138 hfr138 hM138) | ((with_reducible refine gate_store (t := 27) (p := 233) rfl ?_); refine store_event (t := 27) (p := 233) (v := ?vo_w139) (w1 := (((w137.setCell ⟨go135, (x23_8 : Int).toNat * 3, none⟩ (.int .i64 ((rd_T27 y260 x23_8).f0))).setCell ⟨go135, (x23_8 : Int).toNat * 3 + 1, none⟩ (.int .i64 ((rd_T27 y260 x23_8).f1))).setCell ⟨go135, (x23_8 : Int).toNat * 3 + 2, none⟩ (.int .i64 ((rd_T27 y260 x23_8).f2)))) ?hg ?ho ?hn ?hr ?_; (case ho => rfl); (case hg => rfl); (case hn => rfl); (case hr => first | (go_simp; done) | (go_simp; rfl)); intro w139 hw; have hg : w137.grownBy w139 (some go135) := (by rw [hw]; exact HP138.2); have hp_ : Kd.R k27 27 w139 w.heap.size (fun k_ => some k_ ≠ (.slice (some ⟨go133, 0, none⟩) x22_8.length co133 : Value).ownBlock) (.slice (some ⟨go135, 0, none⟩) x3_8.length co23) y262 := (by rw [hw, Ny262.out]; exact HP138.1); clear HP138; have n0_ := Aside0.mk (hp_); have n1_ := Aside0.mk (Kd.R_over' (v := (.slice (some ⟨go135, 0, none⟩) x3_8.length co23)) (by (with_reducible repeat (first | apply Kd.R_alloc | apply Kd.R_drewN | apply Kd.R_drew)); exact HO_9.out) (Kd.R_typed HO_3.out) (by decide) hg); have n2_ := Aside0.mk (Kd.R_over' (v := (.slice (some ⟨go135, 0, none⟩) x3_8.length co23)) (by (with_reducible repeat (first | apply Kd.R_alloc | apply Kd.R_drewN | apply Kd.R_drew)); exact HO_11.out) (Kd.R_typed HO_3.out) (by decide) hg); have n3_ := Aside0.mk (Kd.R_after (v := (.slice (some ⟨go135, 0, none⟩) x3_8.length co23)) (v1 := (.slice (some ⟨go135, 0, none⟩) x3_8.length co23)) (ok := (fun _ => True)) (by (with_reducible repeat (first | apply Kd.R_alloc | apply Kd.R_drewN | apply Kd.R_drew)); exact Kd.R_mono HO_22.out (fun _ hk => ⟨trivial, hk⟩)) hg (.inl rfl)); have n4_ := Aside0.mk ((by rw [hw]; exact below_set (below_set (below_set (HB.out) GB135.out) GB135.out) GB135.out : Below w.heap.size w w139)); clear HO_3; clear HO_9; clear HO_11; clear HO_22; clear HB; have HO_3 := n0_; have HO_9 := n1_; have HO_11 := n2_; have HO_22 := n3_; have HB := n4_; clear n0_ n1_ n2_ n3_ n4_; clear hg hw hp_))
                                                                            (try simp only [← hl3_8])
                                                                            go_roundg k8
                                                                            case measure => have := HK1.out; have := HJ21.out; have := HK3.out; have := HK4.out; have := HK5.out; have := HK6.out; have := HJ103.out; have := HK8.out; omega
                                                                            case rel => exact ⟨(y262), (y260), (wrap64 (x23_8 + 1)), (by first | rfl | (simp; done) | (simp [*]; done)), H', ⟨by have := HK1.out; have := HJ21.out; have := HK3.out; have := HK4.out; have := HK5.out; have := HK6.out; have := HJ103.out; have := HK8.out; omega⟩, ⟨by (try simp only [hl3_8]); (with_reducible repeat (first | apply Kd.R_alloc | apply Kd.R_drewN | apply Kd.R_drew)); exact HO_3.out⟩, ⟨by (try simp only [hl3_8]); (with_reducible repeat (first | apply Kd.R_alloc | apply Kd.R_drewN | apply Kd.R_drew)); exact HO_9.out⟩, ⟨by (try simp only [hl3_8]); (with_reducible repeat (first | apply Kd.R_alloc | apply Kd.R_drewN | apply Kd.R_drew)); exact HO_11.out⟩, ⟨by (try simp only [hl3_8]); (with_reducible repeat (first | apply Kd.R_alloc | apply Kd.R_drewN | apply Kd.R_drew)); exact Kd.R_mono HO_22.out (fun _ hk => hk.2)⟩, ⟨by repeat (first | (with_reducible first | exact HB.out | apply below_alloc | apply pw_below_drewN | apply below_drew1) | exact HB.out)⟩⟩
                                                                          · rw [if_neg c134] at H
                                                                            exact absurd H (by simp)
                                                                        · rw [if_neg c132] at H
                                                                          exact absurd H (by simp)
                                                                      · rw [if_neg c131] at H
                                                                        exact absurd H (by simp)
                                                                    · rw [if_neg c130] at H
                                                                      exact absurd H (by simp)
                                                                  · rw [if_neg c129] at H
                                                                    exact absurd H (by simp)
                                                                · rw [if_neg c127] at H
                                                                  have c127b0 : decide (x23_8 < (l0.length : Int)) = false := decide_eq_false c127
                                                                  clear c127
                                                                  by_cases c140 : 0 ≤ (l0.length : Int)
                                                                  · rw [if_pos c140] at H
                                                                    have c140b0 := eq_true c140
                                                                    have c140b1 : decide (0 ≤ (l0.length : Int)) = true := decide_eq_true c140
                                                                    clear c140
                                                                    by_cases c141 : (l0.length : Int) ≤ (x3_8.length : Int)
                                                                    · rw [if_pos c141] at H
                                                                      have c141b0 := eq_true c141
                                                                      have c141b1 : decide ((l0.length : Int) ≤ (x3_8.length : Int)) = true := decide_eq_true c141
                                                                      clear c141
                                                                      obtain ⟨y263, hy263⟩ : ∃ y_ : List (S27), y_ = (x3_8.take ((l0.length : Int) : Int).toNat) := ⟨_, rfl⟩
                                                                      replace H : ((code_Encode.f k8 y263).bind fun bt267 => ((payoffref11_Encode.f k8 x22_8).bind fun bt271 => (if bt267.2 = bt271.2 then ((payofflaw11_sameBytes.f k8 bt267.1 bt271.1).bind fun t275 => (if t275 = true then ((payofflaw11_sameBytes.f k8 t204 t208).bind fun t276 => (some t276)) else (none))) else (none)))) = some r := by first | (rw [hy263]; with_reducible exact H) | (have H2_ := (Option.bind_some _ _).symm.trans H; rw [hy263]; with_reducible exact H2_) | (have H2_ := (Option.bind_some _ _).symm.trans H; with_reducible exact H2_) | with_reducible exact H | (rw [hy263]; exact H) | exact H
                                                                      have Ny263 := Aside0.mk hy263
                                                                      clear hy263
                                                                      replace H := Option.bind_eq_some_iff.mp H
                                                                      obtain ⟨⟨t267, t268⟩, A1420, H⟩ := H
                                                                      replace H : ((payoffref11_Encode.f k8 x22_8).bind fun bt271 => (if t268 = bt271.2 then ((payofflaw11_sameBytes.f k8 t267 bt271.1).bind fun t275 => (if t275 = true then ((payofflaw11_sameBytes.f k8 t204 t208).bind fun t276 => (some t276)) else (none))) else (none))) = some r := H
                                                                      have A142 := Aside0.mk A1420
                                                                      clear A1420
                                                                      replace H := Option.bind_eq_some_iff.mp H
                                                                      obtain ⟨⟨t271, t272⟩, A1430, H⟩ := H
                                                                      replace H : (if t268 = t272 then ((payofflaw11_sameBytes.f k8 t267 t271).bind fun t275 => (if t275 = true then ((payofflaw11_sameBytes.f k8 t204 t208).bind fun t276 => (some t276)) else (none))) else (none)) = some r := H
                                                                      have A143 := Aside0.mk A1430
                                                                      clear A1430
                                                                      by_cases c144 : t268 = t272
                                                                      · rw [if_pos c144] at H
                                                                        have c144b0 : (t268 == t272) = true := beq_iff_eq.mpr c144
                                                                        have c144b1 : (t268 != t272) = false := bne_eq_false_iff_eq.mpr c144
                                                                        clear c144
                                                                        replace H := Option.bind_eq_some_iff.mp H
                                                                        obtain ⟨t275, A1450, H⟩ := H
                                                                        replace H : (if t275 = true then ((payofflaw11_sameBytes.f k8 t204 t208).bind fun t276 => (some t276)) else (none)) = some r := H
                                                                        have A145 := Aside0.mk A1450
                                                                        clear A1450
                                                                        by_cases c146 : t275 = true
                                                                        · subst c146
                                                                          have H1 : ((payofflaw11_sameBytes.f k8 t204 t208).bind fun t276 => (some t276)) = some r := by rw [if_pos rfl] at H; exact H
                                                                          clear H
                                                                          have H := H1
                                                                          clear H1
                                                                          replace H := Option.bind_eq_some_iff.mp H
                                                                          obtain ⟨t276, A1470, H⟩ := H
                                                                          replace H : (some t276) = some r := H
                                                                          have A147 := Aside0.mk A1470
                                                                          clear A1470
                                                                          obtain rfl := Option.some.inj H
                                                                          have q148 : ((l0.length : Int) : Int) ≤ ((x3_8.length : Int) : Int) := of_decide_eq_true (by first | (with_reducible assumption) | assumption)
                                                                          obtain ⟨i0148, hi0148, _, hsz148, _⟩ := info_parts info27
                                                                          have hroom148 : x3_8.length ≤ co23 := (Kd.R_reads' HO_3.out).2.1
                                                                          have hC148 : Kd.C k27 _ Ao23 x3_8.length x3_8 := (Kd.R_reads' HO_3.out).2.2
                                                                          (try clear hcut24); (try clear hcut30); (try clear hcut52); (try clear hcut84); have hcut148 := cut_to (P := Tryd.prog) 37 27 .i64 Tryd.underlying37 hi0148 Ao23 x3_8.length co23 (l0.length : Int) (of_decide_eq_true (by first | (with_reducible assumption) | assumption)) q148 hroom148
                                                                          have hr148 := Kd.C_take (m := ((l0.length : Int) : Int).toNat) hC148 (by omega)
                                                                          have hy148 : y263.length = ((l0.length : Int) : Int).toNat := (by rw [Ny263.out, List.length_take]; omega)
                                                                          rw [← Ny263.out] at hr148
                                                                          rw [← hy148] at hcut148
                                                                          have HR266 := Aside0.mk hr148
                                                                          have HC266 := Aside0.mk (show y263.length ≤ co23 from by omega)
                                                                          clear hr148 hC148 hroom148 hi0148 hsz148
                                                                          have KY148 := Aside0.mk hy148
                                                                          clear hy148
                                                                          have KL148 := Aside0.mk (show ((l0.length : Int) : Int).toNat ≤ x3_8.length from by omega)
                                                                          replace q148 := eq_true q148
                                                                          go_wp2_with (first | ((with_reducible refine gate_callee (f := 24) rfl ?_); refine goesL_ (some 239) rfl rfl Tryd.func24 (by kernel_rfl) rfl #[.slice Ao23 y263.length co23] rfl (by (try simp only [List.map_toArray, List.map_cons, List.map_nil]); first | done | rfl | (simp only [List.length_drop, List.length_take]; rfl)) ?_; (with_reducible refine (code_Encode.calls k8 _ _ y263 t267 t268 _ ?side1 ?side2 A142.out (Pure.G2.below HG.out (by repeat (first | (with_reducible first | exact HB.out | apply below_alloc | apply pw_below_drewN | apply below_drew1 | (refine below_set ?_ (by first | exact trivial )) ) | exact HB.out)))).mono ?_); (case side1 => repeat (first | exact (by repeat (first | (with_reducible exact HR266.out) | (with_reducible refine Kd.C_alloc ?_ _) | (with_reducible refine Kd.C_drewN ?_ _) | (with_reducible refine Kd.C_drew ?_) | exact HR266.out)) | (with_reducible refine Kd.C_alloc ?_ _) | (with_reducible refine Kd.C_drewN ?_ _) | (with_reducible refine Kd.C_drew ?_))); (case side2 => exact HC266.out); rintro e w149 ⟨v269, rfl, ho0, hb⟩; refine ⟨_, rfl, ?_⟩; have n0_ := Aside0.mk (Kd.R_below (by (with_reducible repeat (first | apply Kd.R_alloc | apply Kd.R_drewN | apply Kd.R_drew)); exact HO_3.out) hb); have n1_ := Aside0.mk (Kd.R_elder' (by (with_reducible repeat (first | apply Kd.R_alloc | apply Kd.R_drewN | apply Kd.R_drew)); exact HO_9.out) (Kd.R_base ho0) hb); have n2_ := Aside0.mk (Kd.R_elder' (by (with_reducible repeat (first | apply Kd.R_alloc | apply Kd.R_drewN | apply Kd.R_drew)); exact HO_11.out) (Kd.R_base ho0) hb); have n3_ := Aside0.mk (Kd.R_below (by (with_reducible repeat (first | apply Kd.R_alloc | apply Kd.R_drewN | apply Kd.R_drew)); exact HO_22.out) hb); have n4_ := Aside0.mk (Kd.R_lower (Kd.R_new' (Kd.R_new' ho0 (Kd.R_lt (by (with_reducible repeat (first | apply Kd.R_alloc | apply Kd.R_drewN | apply Kd.R_drew)); exact HO_9.out))) (Kd.R_lt (by (with_reducible repeat (first | apply Kd.R_alloc | apply Kd.R_drewN | apply Kd.R_drew)); exact HO_11.out))) (below_size (by repeat (first | (with_reducible first | exact HB.out | apply below_alloc | apply pw_below_drewN | apply below_drew1) | exact HB.out)))); have n6_ := Aside0.mk (below_step (by repeat (first | (with_reducible first | exact HB.out | apply below_alloc | apply pw_below_drewN | apply below_drew1) | exact HB.out)) hb); clear HO_3; clear HO_9; clear HO_11; clear HO_22; clear HB; have HO_3 := n0_; have HO_9 := n1_; have HO_11 := n2_; have HO_22 := n3_; have HO270 := n4_; have HB := n6_; clear n0_ n1_ n2_ n3_ n4_ n6_; (try clear hb); (try clear hb2); (try clear hk); (try clear hi); (try clear ho0); obtain ⟨Ao150, co150, eo150⟩ := Kd.R_slice HO_22.out; subst eo150) | ((with_reducible refine gate_callee (f := 25) rfl ?_); refine goesL_ (some 244) rfl rfl Tryd.func25 (by kernel_rfl) rfl #[.slice Ao150 x22_8.length co150] rfl (by (try simp only [List.map_toArray, List.map_cons, List.map_nil]); first | done | rfl | (simp only [List.length_drop, List.length_take]; rfl)) ?_; (with_reducible refine (payoffref11_Encode.calls k8 _ _ x22_8 t271 t272 _ ?side1 ?side2 A143.out (Pure.G2.below HG.out (by repeat (first | (with_reducible first | exact HB.out | apply below_alloc | apply pw_below_drewN | apply below_drew1 | (refine below_set ?_ (by first | exact trivial )) ) | exact HB.out)))).mono ?_); (case side1 => repeat (first | exact (Kd.R_reads' HO_22.out).2.2 | (with_reducible refine Kd.C_alloc ?_ _) | (with_reducible refine Kd.C_drewN ?_ _) | (with_reducible refine Kd.C_drew ?_))); (case side2 => exact (Kd.R_reads' HO_22.out).2.1); rintro e w151 ⟨v273, rfl, ho0, hb⟩; refine ⟨_, rfl, ?_⟩; have n0_ := Aside0.mk (Kd.R_below (by (with_reducible repeat (first | apply Kd.R_alloc | apply Kd.R_drewN | apply Kd.R_drew)); exact HO_3.out) hb); have n1_ := Aside0.mk (Kd.R_elder' (by (with_reducible repeat (first | apply Kd.R_alloc | apply Kd.R_drewN | apply Kd.R_drew)); exact HO_9.out) (Kd.R_base ho0) hb); have n2_ := Aside0.mk (Kd.R_elder' (by (with_reducible repeat (first | apply Kd.R_alloc | apply Kd.R_drewN | apply Kd.R_drew)); exact HO_11.out) (Kd.R_base ho0) hb); have n3_ := Aside0.mk (Kd.R_below (by (with_reducible repeat (first | apply Kd.R_alloc | apply Kd.R_drewN | apply Kd.R_drew)); exact HO_22.out) hb); have n4_ := Aside0.mk (Kd.R_elder' (by (with_reducible repeat (first | apply Kd.R_alloc | apply Kd.R_drewN | apply Kd.R_drew)); exact HO270.out) (Kd.R_base ho0) hb); have n5_ := Aside0.mk (Kd.R_lower (Kd.R_new' (Kd.R_new' (Kd.R_new' ho0 (Kd.R_lt (by (with_reducible repeat (first | apply Kd.R_alloc | apply Kd.R_drewN | apply Kd.R_drew)); exact HO_9.out))) (Kd.R_lt (by (with_reducible repeat (first | apply Kd.R_alloc | apply Kd.R_drewN | apply Kd.R_drew)); exact HO_11.out))) (Kd.R_lt (by (with_reducible repeat (first | apply Kd.R_alloc | apply Kd.R_drewN | apply Kd.R_drew)); exact HO270.out))) (below_size (by repeat (first | (with_reducible first | exact HB.out | apply below_alloc | apply pw_below_drewN | apply below_drew1) | exact HB.out)))); have n7_ := Aside0.mk (below_step (by repeat (first | (with_reducible first | exact HB.out | apply below_alloc | apply pw_below_drewN | apply below_drew1) | exact HB.out)) hb); clear HO_3; clear HO_9; clear HO_11; clear HO_22; clear HO270; clear HB; have HO_3 := n0_; have HO_9 := n1_; have HO_11 := n2_; have HO_22 := n3_; have HO270 := n4_; have HO274 := n5_; have HB := n7_; clear n0_ n1_ n2_ n3_ n4_ n5_ n7_; (try clear hb); (try clear hb2); (try clear hk); (try clear hi); (try clear ho0); obtain ⟨Ao152, co152, eo152⟩ := Kd.R_slice HO270.out; subst eo152; obtain ⟨Ao153, co153, eo153⟩ := Kd.R_slice HO274.out; subst eo153) | (go_at_call 26; (with_reducible refine (payofflaw11_sameBytes.calls k8 _ _ t267 _ _ t271 true _ ?side1 ?side2 ?side3 ?side4 A145.out).mono ?_); (case side1 => repeat (first | exact (Kd.R_reads' HO270.out).2.2 | (with_reducible refine Kd.C_alloc ?_ _) | (with_reducible refine Kd.C_drewN ?_ _) | (with_reducible refine Kd.C_drew ?_))); (case side2 => exact (Kd.R_reads' HO270.out).2.1); (case side3 => repeat (first | exact (Kd.R_reads' HO274.out).2.2 | (with_reducible refine Kd.C_alloc ?_ _) | (with_reducible refine Kd.C_drewN ?_ _) | (with_reducible refine Kd.C_drew ?_))); (case side4 => exact (Kd.R_reads' HO274.out).2.1); rintro e w' ⟨rfl, ⟨nd, rfl⟩⟩; obtain ⟨Ao154, co154, eo154⟩ := Kd.R_slice HO_9.out; subst eo154; obtain ⟨Ao155, co155, eo155⟩ := Kd.R_slice HO_11.out; subst eo155) | (go_at_call 26; (with_reducible refine (payofflaw11_sameBytes.calls k8 _ _ t204 _ _ t208 t276 _ ?side1 ?side2 ?side3 ?side4 A147.out).mono ?_); (case side1 => repeat (first | exact (Kd.R_reads' HO_9.out).2.2 | (with_reducible refine Kd.C_alloc ?_ _) | (with_reducible refine Kd.C_drewN ?_ _) | (with_reducible refine Kd.C_drew ?_))); (case side2 => exact (Kd.R_reads' HO_9.out).2.1); (case side3 => repeat (first | exact (Kd.R_reads' HO_11.out).2.2 | (with_reducible refine Kd.C_alloc ?_ _) | (with_reducible refine Kd.C_drewN ?_ _) | (with_reducible refine Kd.C_drew ?_))); (case side4 => exact (Kd.R_reads' HO_11.out).2.1); rintro e w' ⟨rfl, ⟨nd, rfl⟩⟩))
                                                                          go_ret
                                                                          exact ⟨by first | rfl | (simp [errW_none, errW_some] <;> rfl) | (simp only [← hji2]; first | rfl | (simp [errW_none, errW_some] <;> rfl)) | (simp [*, errW_none, errW_some] <;> rfl), by repeat (first | (with_reducible first | exact HB.out | apply below_alloc | apply pw_below_drewN | apply below_drew1) | exact HB.out)⟩
                                                                        · replace c146 := Bool.eq_false_iff.mpr c146
                                                                          subst c146
                                                                          have H1 : (none) = some r := by rw [if_neg (show ¬ (false = true) by decide)] at H; exact H
                                                                          exact absurd H1 (by simp)
                                                                      · rw [if_neg c144] at H
                                                                        exact absurd H (by simp)
                                                                    · rw [if_neg c141] at H
                                                                      exact absurd H (by simp)
                                                                  · rw [if_neg c140] at H
                                                                    exact absurd H (by simp)
                                                          · rw [if_neg c123] at H
                                                            exact absurd H (by simp)
                                            · rw [if_neg c82] at H
                                              exact absurd H (by simp)
                                          · rw [if_neg c81] at H
                                            exact absurd H (by simp)
                                  · rw [if_neg c73] at H
                                    exact absurd H (by simp)
              · rw [if_neg c14] at H
                exact absurd H (by simp)
            · rw [if_neg c13] at H
              exact absurd H (by simp)
    · rw [if_neg c4] at H
      exact absurd H (by simp)
  · rw [if_neg c3] at H
    exact absurd H (by simp)

end Go.Proofs.YtknlcpojglhbnaaDoor.PCodeEncodes
