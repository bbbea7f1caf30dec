/- Own text: functions of law CodeDecodes, after the text that the kit's printer writes, with this session's contracts for those that read the table. -/
import Derived.Test.YtknlcpojglhbnaaDoorGl
import Derived.Test.YtknlcpojglhbnaaDoorGt
import Derived.Test.YtknlcpojglhbnaaDoorTable
import Derived.Deep.DeepMust
import Derived.Outline
import Derived.Deep.RegionWith
import Derived.Test.YtknlcpojglhbnaaDoorQCodeDecodesx0
import Derived.Test.YtknlcpojglhbnaaDoorQCodeDecodesx2
import Derived.Test.YtknlcpojglhbnaaDoorQCodeDecodesxr
import Derived.Test.YtknlcpojglhbnaaDoorQCodeDecodesx2z
import Derived.Test.YtknlcpojglhbnaaDoorQCodeDecodesx3
import Derived.Test.YtknlcpojglhbnaaDoorQCodeDecodesx5
import Derived.Test.YtknlcpojglhbnaaDoorQCodeDecodesxa
namespace Go.Proofs.YtknlcpojglhbnaaDoor.PCodeDecodes
open Go.RowKit Go.Proofs.YtknlcpojglhbnaaDoorW.PrintWords Go.Proofs.YtknlcpojglhbnaaDoorW.PrintLast Go.Proofs.YtknlcpojglhbnaaDoorW.PrintMore
attribute [local go_sem] max2_int min2_int max_two min_two max_three min_three max_four min_four   -- for this text's walks alone
set_option linter.unusedVariables false
set_option linter.unusedSimpArgs false

/- pruned -/
/-! ### payofflaw11_CodeDecodes: function 9 -/
/-- What copy(xs, ys) leaves in xs. -/
def cpy (ys xs : List Int) : List Int := ys.take (min ys.length xs.length) ++ xs.drop (min ys.length xs.length)
mutual
def payofflaw11_CodeDecodes.l0 : Nat → List Int → Int → List Int → Int → Option (Bool)
  | 0, _, _, _, _ => none
  | k + 1, x0, x1, x5, x6 => if x6 < 8 then (if 0 ≤ (wrap64 ((x0.length : Int) + x6)) then (if (wrap64 ((x0.length : Int) + x6)) < (x5.length : Int) then (payofflaw11_CodeDecodes.l0 k x0 x1 (x5.set ((wrap64 ((x0.length : Int) + x6)) : Int).toNat ((wrap64 (9 * x6)) % 256)) (wrap64 (x6 + 1))) else (none)) else (none)) else (if 0 ≤ (x0.length : Int) then (if (x0.length : Int) ≤ (x5.length : Int) then ((code_Decode.f k (x5.take ((x0.length : Int) : Int).toNat) x1).bind fun bt210 => ((code_Decode.f k (x5.take ((x0.length : Int) : Int).toNat) x1).bind fun bt219 => ((payoffref11_Decode.f k x0 x1).bind fun bt224 => (if bt210.2.2 = bt224.2.2 then (if bt210.2.1 = bt224.2.1 then ((payofflaw11_sameCode.f k bt210.1 bt224.1).bind fun t229 => (if t229 = true then ((payofflaw11_sameCode.f k bt219.1 bt224.1).bind fun t230 => (if t230 = true then ((payofflaw11_sameBytes.f k (x5.take ((x0.length : Int) : Int).toNat) x0).bind fun t235 => (payofflaw11_CodeDecodes.j1 k x0 x1 x5 bt210.1 bt219.1 bt224.1 bt224.2.2 (!t235))) else (payofflaw11_CodeDecodes.j1 k x0 x1 x5 bt210.1 bt219.1 bt224.1 bt224.2.2 true))) else (payofflaw11_CodeDecodes.j1 k x0 x1 x5 bt210.1 bt219.1 bt224.1 bt224.2.2 true))) else (payofflaw11_CodeDecodes.j1 k x0 x1 x5 bt210.1 bt219.1 bt224.1 bt224.2.2 true)) else (payofflaw11_CodeDecodes.j1 k x0 x1 x5 bt210.1 bt219.1 bt224.1 bt224.2.2 true))))) else (none)) else (none))
def payofflaw11_CodeDecodes.j1 : Nat → List Int → Int → List Int → List (S27) → List (S27) → List (S27) → Int → Bool → Option (Bool)
  | 0, _, _, _, _, _, _, _, _ => none
  | k + 1, x0, x1, x5, x7, x10, x13, x15, x103 => if x103 = true then (none) else (payofflaw11_CodeDecodes.l1 k x0 x1 x5 x7 x10 x13 x15 0)
def payofflaw11_CodeDecodes.l1 : Nat → List Int → Int → List Int → List (S27) → List (S27) → List (S27) → Int → Int → Option (Bool)
  | 0, _, _, _, _, _, _, _, _ => none
  | k + 1, x0, x1, x5, x7, x10, x13, x15, x16 => if x16 < 8 then (if 0 ≤ (wrap64 ((x0.length : Int) + x16)) then (if (wrap64 ((x0.length : Int) + x16)) < (x5.length : Int) then (if (rd x5 (wrap64 ((x0.length : Int) + x16))) = ((wrap64 (9 * x16)) % 256) then (payofflaw11_CodeDecodes.l1 k x0 x1 x5 x7 x10 x13 x15 (wrap64 (x16 + 1))) else (none)) else (none)) else (none)) else (payofflaw11_CodeDecodes.l2 k x0 x1 x5 x7 x10 x13 x15 0)
def payofflaw11_CodeDecodes.l2 : Nat → List Int → Int → List Int → List (S27) → List (S27) → List (S27) → Int → Int → Option (Bool)
  | 0, _, _, _, _, _, _, _, _ => none
  | k + 1, x0, x1, x5, x7, x10, x13, x15, x17 => if x17 < (x7.length : Int) then (if 0 ≤ x17 then (payofflaw11_CodeDecodes.l2 k x0 x1 x5 (x7.set (x17 : Int).toNat (⟨77, 0, 0⟩ : S27)) x10 x13 x15 (wrap64 (x17 + 1))) else (none)) else ((some (([] : List (S27)) : List (S27))).bind fun y238 => (if y238.length + x7.length < 5864062014805 then (payofflaw11_CodeDecodes.l3 k x0 x1 x5 x7 x10 x13 x15 (y238 ++ x7) 0) else (none)))
def payofflaw11_CodeDecodes.l3 : Nat → List Int → Int → List Int → List (S27) → List (S27) → List (S27) → Int → List (S27) → Int → Option (Bool)
  | 0, _, _, _, _, _, _, _, _, _ => none
  | k + 1, x0, x1, x5, x7, x10, x13, x15, x18, x19 => if x19 < 70 then (if x18.length < 5864062014805 then (payofflaw11_CodeDecodes.l3 k x0 x1 x5 x7 x10 x13 x15 (x18 ++ [(⟨78, 0, 0⟩ : S27)]) (wrap64 (x19 + 1))) else (none)) else (if 0 ≤ (x0.length : Int) then (if (x0.length : Int) ≤ (x5.length : Int) then ((code_Decode.f k (x5.take ((x0.length : Int) : Int).toNat) x1).bind fun bt251 => (payofflaw11_CodeDecodes.l4 k x0 x1 x5 x7 x10 x13 x15 x18 bt251.1 bt251.2.2 0)) else (none)) else (none))
def payofflaw11_CodeDecodes.l4 : Nat → List Int → Int → List Int → List (S27) → List (S27) → List (S27) → Int → List (S27) → List (S27) → Int → Int → Option (Bool)
  | 0, _, _, _, _, _, _, _, _, _, _, _ => none
  | k + 1, x0, x1, x5, x7, x10, x13, x15, x18, x20, x22, x23 => if x23 < (x18.length : Int) then (if x23 < (x7.length : Int) then (if 0 ≤ x23 then (if ((rd_T27 x7 x23).f0) = 77 then (if ((rd_T27 x18 x23).f0) = 77 then (if x23 ≥ (x7.length : Int) then (if ((rd_T27 x18 x23).f0) = 78 then (payofflaw11_CodeDecodes.l4 k x0 x1 x5 x7 x10 x13 x15 x18 x20 x22 (wrap64 (x23 + 1))) else (none)) else (payofflaw11_CodeDecodes.l4 k x0 x1 x5 x7 x10 x13 x15 x18 x20 x22 (wrap64 (x23 + 1)))) else (none)) else (none)) else (none)) else (if x23 ≥ (x7.length : Int) then (if 0 ≤ x23 then (if ((rd_T27 x18 x23).f0) = 78 then (payofflaw11_CodeDecodes.l4 k x0 x1 x5 x7 x10 x13 x15 x18 x20 x22 (wrap64 (x23 + 1))) else (none)) else (none)) else (payofflaw11_CodeDecodes.l4 k x0 x1 x5 x7 x10 x13 x15 x18 x20 x22 (wrap64 (x23 + 1))))) else (if x22 = x15 then ((payofflaw11_sameCode.f k x20 x13).bind fun t260 => (if t260 = true then ((payofflaw11_sameCode.f k x10 x13).bind fun t261 => (payofflaw11_CodeDecodes.j6 k x0 x1 x5 x10 x13 (!t261))) else (payofflaw11_CodeDecodes.j6 k x0 x1 x5 x10 x13 true))) else (payofflaw11_CodeDecodes.j6 k x0 x1 x5 x10 x13 true))
def payofflaw11_CodeDecodes.j6 : Nat → List Int → Int → List Int → List (S27) → List (S27) → Bool → Option (Bool)
  | 0, _, _, _, _, _, _ => none
  | k + 1, x0, x1, x5, x10, x13, x202 => if x202 = true then (none) else ((some (([] : List Int) : List Int)).bind fun y262 => (if y262.length + x0.length < 140737488355328 then (payofflaw11_CodeDecodes.l5 k x0 x1 x5 x10 x13 (y262 ++ x0) 0) else (none)))
def payofflaw11_CodeDecodes.l5 : Nat → List Int → Int → List Int → List (S27) → List (S27) → List Int → Int → Option (Bool)
  | 0, _, _, _, _, _, _, _ => none
  | k + 1, x0, x1, x5, x10, x13, x24, x25 => if x25 < (x0.length : Int) then (if 0 ≤ (wrap64 ((wrap64 ((x0.length : Int) - 1)) - x25)) then (if (wrap64 ((wrap64 ((x0.length : Int) - 1)) - x25)) < (x0.length : Int) then (if 0 ≤ x25 then (if x25 < (x24.length : Int) then ((some (x24.set (x25 : Int).toNat (rd x0 (wrap64 ((wrap64 ((x0.length : Int) - 1)) - x25))) : List Int)).bind fun y269 => (if x25 < (x5.length : Int) then (payofflaw11_CodeDecodes.l5 k x0 x1 (x5.set (x25 : Int).toNat (rd y269 x25)) x10 x13 y269 (wrap64 (x25 + 1))) else (none))) else (none)) else (none)) else (none)) else (none)) else (if 0 ≤ (x0.length : Int) then (if (x0.length : Int) ≤ (x5.length : Int) then ((code_Decode.f k (x5.take ((x0.length : Int) : Int).toNat) x1).bind fun bt276 => ((payoffref11_Decode.f k x24 x1).bind fun bt281 => (if bt276.2.2 = bt281.2.2 then (if bt276.2.1 = bt281.2.1 then ((payofflaw11_sameCode.f k bt276.1 bt281.1).bind fun t286 => (if t286 = true then ((payofflaw11_sameCode.f k x10 x13).bind fun t287 => (some t287)) else (none))) else (none)) else (none)))) else (none)) else (none))
end
def payofflaw11_CodeDecodes.f (k : Nat) (l0 : List Int) (a1 : Int) : Option (Bool) := if 0 ≤ (wrap64 ((l0.length : Int) + 8)) then (if (wrap64 ((l0.length : Int) + 8) : Int).toNat ≤ 281474976710656 then (payofflaw11_CodeDecodes.l0 k l0 a1 (cpy l0 (List.replicate (wrap64 ((l0.length : Int) + 8) : Int).toNat 0)) 0) else (none)) else (none)
set_option maxHeartbeats 8000000 in
set_option maxRecDepth 100000 in
theorem payofflaw11_CodeDecodes.calls (k : Nat) (A0 : Option Addr) (c0 : Nat) (l0 : List Int) (a1 : Int) (r : Bool) (w : World) (hr0 : Kd.C (Kd.int .u8) w A0 l0.length l0) (hc0 : l0.length ≤ c0) (h : payofflaw11_CodeDecodes.f k l0 a1 = some r) (hG : Pure.G2 w) :
    Calls Tryd.prog 9 #[.slice A0 l0.length c0, .int .i64 a1] w fun e w' => e = .returned (.bool r) ∧ Below w.heap.size w w' := by
  have HG := Aside0.mk hG
  clear hG
  have hu27 := Tryd.underlying27
  have HR0 := Aside0.mk hr0
  have HC0 := Aside0.mk hc0
  clear hr0 hc0
  have HB := Aside0.mk (Below.refl w.heap.size w)
  have H : (if 0 ≤ (wrap64 ((l0.length : Int) + 8)) then (if (wrap64 ((l0.length : Int) + 8) : Int).toNat ≤ 281474976710656 then (payofflaw11_CodeDecodes.l0 k l0 a1 (cpy l0 (List.replicate (wrap64 ((l0.length : Int) + 8) : Int).toNat 0)) 0) else (none)) else (none)) = some r := h
  clear h
  obtain ⟨ji3, hji3⟩ : ∃ j_ : Int, (wrap64 ((l0.length : Int) + 8)) = j_ := ⟨_, rfl⟩
  replace H : (if 0 ≤ (ji3) then (if (ji3 : Int).toNat ≤ 281474976710656 then (payofflaw11_CodeDecodes.l0 k l0 a1 (cpy l0 (List.replicate (ji3 : Int).toNat 0)) 0) else (none)) else (none)) = some r := by first | (rw [hji3] at H; exact H) | (simp only [hji3] at H ⊢; exact H)
  have hji3w : (IntKind.i64.wrap ((l0.length : Int) + 8)) = ji3 := (i64_w _).trans hji3
  by_cases c4 : 0 ≤ (ji3)
  · rw [if_pos c4] at H
    have c4b0 := eq_true c4
    have c4b1 : decide (0 ≤ (ji3)) = true := decide_eq_true c4
    clear c4
    by_cases c5 : (ji3 : Int).toNat ≤ 281474976710656
    · rw [if_pos c5] at H
      have c5b0 := eq_true c5
      have c5b1 : decide ((ji3 : Int).toNat ≤ 281474976710656) = true := decide_eq_true c5
      clear c5
      obtain ⟨y202, hy202⟩ : ∃ y_ : List Int, y_ = (List.replicate (ji3 : Int).toNat 0) := ⟨_, rfl⟩
      replace H : (payofflaw11_CodeDecodes.l0 k l0 a1 (cpy l0 y202) 0) = some r := by first | (rw [hy202]; with_reducible exact H) | (have H2_ := (Option.bind_some _ _).symm.trans H; rw [hy202]; with_reducible exact H2_) | (have H2_ := (Option.bind_some _ _).symm.trans H; with_reducible exact H2_) | with_reducible exact H | (rw [hy202]; exact H) | exact H
      have Ny202 := Aside0.mk hy202
      clear hy202
      have H' := Aside0.mk H
      clear H
      go_enter Tryd.func9, Tryd.ntmps9
      go_wp2_with (first | ((with_reducible refine gate_dst (N := 34) rfl ?_); go_must (refine Kd.R_copy (0 : Int) w.heap.size (w0 := w) rfl _ _ 38 38 5 rfl Tryd.underlying38 (by kernel_rfl) v203 y202 l0 A0 l0.length c0 (fun _ => True) rfl rfl (by (with_reducible repeat (first | apply Kd.R_alloc | apply Kd.R_drewN | apply Kd.R_drew)); exact HO204.out) (Kd.C_below HR0.out (by repeat (first | (with_reducible first | exact HB.out | apply below_alloc | apply pw_below_drewN | apply below_drew1) | exact HB.out))) (by repeat (first | (with_reducible first | exact HB.out | apply below_alloc | apply pw_below_drewN | apply below_drew1) | exact HB.out)) (below_size (by repeat (first | (with_reducible first | exact HB.out | apply below_alloc | apply pw_below_drewN | apply below_drew1) | exact HB.out))) ?_; intro w8 ho9 hb9 hg9; have n0_ := Aside0.mk ho9; have n1_ := Aside0.mk hb9; clear HO204 HB ho9 hb9 hg9; have HO204 := n0_; have HB := n1_; clear n0_ n1_)) | ((with_reducible refine gate_dst (N := 31) rfl ?_); (try (refine gate_guard (by rfl) ?_; dsimp only)); refine Kd.R_make (Kd.int .u8) _ 5 rfl (N := 31) rfl 38 _ _ rfl ji3 rfl rfl Tryd.underlying38 (.int .u8 0) 1 info5 rfl (by decide) (by omega) 0 (ok := fun _ => True) (okp := fun _ => True) rfl (fun _ hk => hk) trivial (of_decide_eq_true (by first | (with_reducible assumption) | assumption)) (Nat.le_trans (Nat.mul_le_mul_right _ (of_decide_eq_true (by first | (with_reducible assumption) | assumption) : ji3.toNat ≤ 281474976710656)) (by omega)) (Below.refl _ _) (Nat.le_refl _) ?_; intro v203 w6 ho7 hb hg_ hnew_; clear hg_ hnew_; (first | rw [← Ny202.out] at ho7 | (simp only [Int.reduceToNat] at ho7; rw [← Ny202.out] at ho7)); have n0_ := Aside0.mk (Kd.R_lower ho7 (below_size (by repeat (first | (with_reducible first | exact HB.out | apply below_alloc | apply pw_below_drewN | apply below_drew1) | exact HB.out)))); have n1_ := Aside0.mk (below_step (by repeat (first | (with_reducible first | exact HB.out | apply below_alloc | apply pw_below_drewN | apply below_drew1) | exact HB.out)) hb); clear HB; have HO204 := n0_; have HB := n1_; clear n0_ n1_; clear hb ho7))
      go_loopg [6] k (fun kq v6 w' => ∃ (x5_1 : List Int) (x6_1 : Int), v6 = .int .i64 x6_1 ∧ Aside0 (payofflaw11_CodeDecodes.l0 kq l0 a1 x5_1 x6_1 = some r) ∧ Aside0 (kq ≤ k) ∧ Aside0 (Kd.R (Kd.int .u8) 5 w' w.heap.size (fun _ => True) v203 x5_1) ∧ Aside0 (Below w.heap.size w w'))
      case atStart => exact ⟨(cpy l0 y202), (0), (by first | rfl | (simp; done) | (simp [*]; done)), H', ⟨Nat.le_refl _⟩, ⟨by (with_reducible repeat (first | apply Kd.R_alloc | apply Kd.R_drewN | apply Kd.R_drew)); exact HO204.out⟩, ⟨by repeat (first | (with_reducible first | exact HB.out | apply below_alloc | apply pw_below_drewN | apply below_drew1) | exact HB.out)⟩⟩
      case round =>
        clear H'
        try clear p2
        try clear c4
        try clear c4b0
        try clear c4b1
        try clear c5
        try clear c5b0
        try clear c5b1
        try clear p6
        obtain ⟨x5_1, x6_1, rfl, HA, HK1, HO_5, HB⟩ := hrel
        cases gk with
        | zero => exact absurd HA.out (by simp [payofflaw11_CodeDecodes.l0])
        | succ k1 =>
          have H := HA.out
          clear HA
          simp only [payofflaw11_CodeDecodes.l0] at H
          by_cases c8 : x6_1 < 8
          · rw [if_pos c8] at H
            have c8b0 : decide (x6_1 < 8) = true := decide_eq_true c8
            clear c8
            obtain ⟨ji9, hji9⟩ : ∃ j_ : Int, (wrap64 ((l0.length : Int) + x6_1)) = j_ := ⟨_, rfl⟩
            replace H : (if 0 ≤ (ji9) then (if (ji9) < (x5_1.length : Int) then (payofflaw11_CodeDecodes.l0 k1 l0 a1 (x5_1.set ((ji9) : Int).toNat ((wrap64 (9 * x6_1)) % 256)) (wrap64 (x6_1 + 1))) else (none)) else (none)) = some r := by first | (rw [hji9] at H; exact H) | (simp only [hji9] at H ⊢; exact H)
            have hji9w : (IntKind.i64.wrap ((l0.length : Int) + x6_1)) = ji9 := (i64_w _).trans hji9
            by_cases c10 : 0 ≤ (ji9)
            · rw [if_pos c10] at H
              have c10b0 : decide (0 ≤ (ji9)) = true := decide_eq_true c10
              clear c10
              by_cases c11 : (ji9) < (x5_1.length : Int)
              · rw [if_pos c11] at H
                have c11b0 : decide ((ji9) < (x5_1.length : Int)) = true := decide_eq_true c11
                clear c11
                obtain ⟨y205, hy205⟩ : ∃ y_ : List Int, y_ = (x5_1.set ((ji9) : Int).toNat ((wrap64 (9 * x6_1)) % 256)) := ⟨_, rfl⟩
                replace H : (payofflaw11_CodeDecodes.l0 k1 l0 a1 y205 (wrap64 (x6_1 + 1))) = some r := by first | (rw [hy205]; with_reducible exact H) | (have H2_ := (Option.bind_some _ _).symm.trans H; rw [hy205]; with_reducible exact H2_) | (have H2_ := (Option.bind_some _ _).symm.trans H; with_reducible exact H2_) | with_reducible exact H | (rw [hy205]; exact H) | exact H
                have Ny205 := Aside0.mk hy205
                clear hy205
                have H' := Aside0.mk H
                clear H
                have p12 : 0 ≤ ((ji9) : Int) := of_decide_eq_true (by first | (with_reducible assumption) | assumption)
                have q12 : ((ji9) : Int) < ((x5_1.length : Int) : Int) := of_decide_eq_true (by first | (with_reducible assumption) | assumption)
                obtain ⟨go12, co12, eo12, gb12, gl12, cl12, HG12⟩ := Kd.R_form HO_5.out (by omega)
                (first | cases eo12 | (injection eo12 with ea_ en_ ec_; (first | subst ea_ | (injection ea_ with ea_; subst ea_)); subst ec_; clear en_))
                have GB12 := Aside0.mk gb12
                have GG12 := Aside0.mk HG12
                clear gb12 gl12 HG12
                obtain ⟨hx12_0, hf12_0⟩ := Kd.R_celln 0 HO_5.out ((ji9) : Int) p12 q12
                replace p12 := eq_true p12
                replace q12 := eq_true q12
                have HP13 := Kd.R_putg HO_5.out ((ji9) : Int) ((wrap64 (9 * x6_1)) % 256)
                go_wp2_with (first | ((with_reducible refine gate_store (t := 5) (p := 47) rfl ?_); refine store_event (t := 5) (p := 47) (v := ?vo_w14) (w1 := (wr.setCell ⟨go12, ((ji9) : Int).toNat, none⟩ (.int .u8 ((wrap64 (9 * x6_1)) % 256)))) ?hg ?ho ?hn ?hr ?_; (case ho => rfl); (case hg => rfl); (case hn => rfl); (case hr => first | (go_simp; done) | (go_simp; rfl)); intro w14 hw; have hg : wr.grownBy w14 (some go12) := (by rw [hw]; exact HP13.2); have hp_ : Kd.R (Kd.int .u8) 5 w14 w.heap.size (fun _ => True) (.slice (some ⟨go12, 0, none⟩) x5_1.length co12) y205 := (by rw [hw, Ny205.out]; exact HP13.1); clear HP13; have n0_ := Aside0.mk (hp_); have n1_ := Aside0.mk ((by rw [hw]; exact below_set (HB.out) GB12.out : Below w.heap.size w w14)); clear HO_5; clear HB; have HO_5 := n0_; have HB := n1_; clear n0_ n1_; clear hg hw hp_))
                go_roundg k1
                case measure => have := HK1.out; omega
                case rel => exact ⟨(y205), (wrap64 (x6_1 + 1)), (by first | rfl | (simp; done) | (simp [*]; done)), H', ⟨by have := HK1.out; omega⟩, ⟨by (with_reducible repeat (first | apply Kd.R_alloc | apply Kd.R_drewN | apply Kd.R_drew)); exact HO_5.out⟩, ⟨by repeat (first | (with_reducible first | exact HB.out | apply below_alloc | apply pw_below_drewN | apply below_drew1) | exact HB.out)⟩⟩
              · rw [if_neg c11] at H
                exact absurd H (by simp)
            · rw [if_neg c10] at H
              exact absurd H (by simp)
          · rw [if_neg c8] at H
            have c8b0 : decide (x6_1 < 8) = false := decide_eq_false c8
            clear c8
            by_cases c15 : 0 ≤ (l0.length : Int)
            · rw [if_pos c15] at H
              have c15b0 := eq_true c15
              have c15b1 : decide (0 ≤ (l0.length : Int)) = true := decide_eq_true c15
              clear c15
              by_cases c16 : (l0.length : Int) ≤ (x5_1.length : Int)
              · rw [if_pos c16] at H
                have c16b0 := eq_true c16
                have c16b1 : decide ((l0.length : Int) ≤ (x5_1.length : Int)) = true := decide_eq_true c16
                clear c16
                obtain ⟨y206, hy206⟩ : ∃ y_ : List Int, y_ = (x5_1.take ((l0.length : Int) : Int).toNat) := ⟨_, rfl⟩
                replace H : ((code_Decode.f k1 y206 a1).bind fun bt210 => ((code_Decode.f k1 (x5_1.take ((l0.length : Int) : Int).toNat) a1).bind fun bt219 => ((payoffref11_Decode.f k1 l0 a1).bind fun bt224 => (if bt210.2.2 = bt224.2.2 then (if bt210.2.1 = bt224.2.1 then ((payofflaw11_sameCode.f k1 bt210.1 bt224.1).bind fun t229 => (if t229 = true then ((payofflaw11_sameCode.f k1 bt219.1 bt224.1).bind fun t230 => (if t230 = true then ((payofflaw11_sameBytes.f k1 (x5_1.take ((l0.length : Int) : Int).toNat) l0).bind fun t235 => (payofflaw11_CodeDecodes.j1 k1 l0 a1 x5_1 bt210.1 bt219.1 bt224.1 bt224.2.2 (!t235))) else (payofflaw11_CodeDecodes.j1 k1 l0 a1 x5_1 bt210.1 bt219.1 bt224.1 bt224.2.2 true))) else (payofflaw11_CodeDecodes.j1 k1 l0 a1 x5_1 bt210.1 bt219.1 bt224.1 bt224.2.2 true))) else (payofflaw11_CodeDecodes.j1 k1 l0 a1 x5_1 bt210.1 bt219.1 bt224.1 bt224.2.2 true)) else (payofflaw11_CodeDecodes.j1 k1 l0 a1 x5_1 bt210.1 bt219.1 bt224.1 bt224.2.2 true))))) = some r := by first | (rw [hy206]; with_reducible exact H) | (have H2_ := (Option.bind_some _ _).symm.trans H; rw [hy206]; with_reducible exact H2_) | (have H2_ := (Option.bind_some _ _).symm.trans H; with_reducible exact H2_) | with_reducible exact H | (rw [hy206]; exact H) | exact H
                have Ny206 := Aside0.mk hy206
                clear hy206
                replace H := Option.bind_eq_some_iff.mp H
                obtain ⟨⟨t210, t211, t212⟩, A170, H⟩ := H
                replace H : ((code_Decode.f k1 (x5_1.take ((l0.length : Int) : Int).toNat) a1).bind fun bt219 => ((payoffref11_Decode.f k1 l0 a1).bind fun bt224 => (if t212 = bt224.2.2 then (if t211 = bt224.2.1 then ((payofflaw11_sameCode.f k1 t210 bt224.1).bind fun t229 => (if t229 = true then ((payofflaw11_sameCode.f k1 bt219.1 bt224.1).bind fun t230 => (if t230 = true then ((payofflaw11_sameBytes.f k1 (x5_1.take ((l0.length : Int) : Int).toNat) l0).bind fun t235 => (payofflaw11_CodeDecodes.j1 k1 l0 a1 x5_1 t210 bt219.1 bt224.1 bt224.2.2 (!t235))) else (payofflaw11_CodeDecodes.j1 k1 l0 a1 x5_1 t210 bt219.1 bt224.1 bt224.2.2 true))) else (payofflaw11_CodeDecodes.j1 k1 l0 a1 x5_1 t210 bt219.1 bt224.1 bt224.2.2 true))) else (payofflaw11_CodeDecodes.j1 k1 l0 a1 x5_1 t210 bt219.1 bt224.1 bt224.2.2 true)) else (payofflaw11_CodeDecodes.j1 k1 l0 a1 x5_1 t210 bt219.1 bt224.1 bt224.2.2 true)))) = some r := H
                have A17 := Aside0.mk A170
                clear A170
                have c18b0 := eq_true (of_decide_eq_true (by first | (with_reducible assumption) | assumption) : 0 ≤ (l0.length : Int))
                have c19b0 := eq_true (of_decide_eq_true (by first | (with_reducible assumption) | assumption) : (l0.length : Int) ≤ (x5_1.length : Int))
                obtain ⟨y215, hy215⟩ : ∃ y_ : List Int, y_ = (x5_1.take ((l0.length : Int) : Int).toNat) := ⟨_, rfl⟩
                replace H : ((code_Decode.f k1 y215 a1).bind fun bt219 => ((payoffref11_Decode.f k1 l0 a1).bind fun bt224 => (if t212 = bt224.2.2 then (if t211 = bt224.2.1 then ((payofflaw11_sameCode.f k1 t210 bt224.1).bind fun t229 => (if t229 = true then ((payofflaw11_sameCode.f k1 bt219.1 bt224.1).bind fun t230 => (if t230 = true then ((payofflaw11_sameBytes.f k1 (x5_1.take ((l0.length : Int) : Int).toNat) l0).bind fun t235 => (payofflaw11_CodeDecodes.j1 k1 l0 a1 x5_1 t210 bt219.1 bt224.1 bt224.2.2 (!t235))) else (payofflaw11_CodeDecodes.j1 k1 l0 a1 x5_1 t210 bt219.1 bt224.1 bt224.2.2 true))) else (payofflaw11_CodeDecodes.j1 k1 l0 a1 x5_1 t210 bt219.1 bt224.1 bt224.2.2 true))) else (payofflaw11_CodeDecodes.j1 k1 l0 a1 x5_1 t210 bt219.1 bt224.1 bt224.2.2 true)) else (payofflaw11_CodeDecodes.j1 k1 l0 a1 x5_1 t210 bt219.1 bt224.1 bt224.2.2 true)))) = some r := by first | (rw [hy215]; with_reducible exact H) | (have H2_ := (Option.bind_some _ _).symm.trans H; rw [hy215]; with_reducible exact H2_) | (have H2_ := (Option.bind_some _ _).symm.trans H; with_reducible exact H2_) | with_reducible exact H | (rw [hy215]; exact H) | exact H
                have Ny215 := Aside0.mk hy215
                clear hy215
                replace H := Option.bind_eq_some_iff.mp H
                obtain ⟨⟨t219, t220, t221⟩, A200, H⟩ := H
                replace H : ((payoffref11_Decode.f k1 l0 a1).bind fun bt224 => (if t212 = bt224.2.2 then (if t211 = bt224.2.1 then ((payofflaw11_sameCode.f k1 t210 bt224.1).bind fun t229 => (if t229 = true then ((payofflaw11_sameCode.f k1 t219 bt224.1).bind fun t230 => (if t230 = true then ((payofflaw11_sameBytes.f k1 (x5_1.take ((l0.length : Int) : Int).toNat) l0).bind fun t235 => (payofflaw11_CodeDecodes.j1 k1 l0 a1 x5_1 t210 t219 bt224.1 bt224.2.2 (!t235))) else (payofflaw11_CodeDecodes.j1 k1 l0 a1 x5_1 t210 t219 bt224.1 bt224.2.2 true))) else (payofflaw11_CodeDecodes.j1 k1 l0 a1 x5_1 t210 t219 bt224.1 bt224.2.2 true))) else (payofflaw11_CodeDecodes.j1 k1 l0 a1 x5_1 t210 t219 bt224.1 bt224.2.2 true)) else (payofflaw11_CodeDecodes.j1 k1 l0 a1 x5_1 t210 t219 bt224.1 bt224.2.2 true))) = some r := H
                have A20 := Aside0.mk A200
                clear A200
                replace H := Option.bind_eq_some_iff.mp H
                obtain ⟨⟨t224, t225, t226⟩, A210, H⟩ := H
                replace H : (if t212 = t226 then (if t211 = t225 then ((payofflaw11_sameCode.f k1 t210 t224).bind fun t229 => (if t229 = true then ((payofflaw11_sameCode.f k1 t219 t224).bind fun t230 => (if t230 = true then ((payofflaw11_sameBytes.f k1 (x5_1.take ((l0.length : Int) : Int).toNat) l0).bind fun t235 => (payofflaw11_CodeDecodes.j1 k1 l0 a1 x5_1 t210 t219 t224 t226 (!t235))) else (payofflaw11_CodeDecodes.j1 k1 l0 a1 x5_1 t210 t219 t224 t226 true))) else (payofflaw11_CodeDecodes.j1 k1 l0 a1 x5_1 t210 t219 t224 t226 true))) else (payofflaw11_CodeDecodes.j1 k1 l0 a1 x5_1 t210 t219 t224 t226 true)) else (payofflaw11_CodeDecodes.j1 k1 l0 a1 x5_1 t210 t219 t224 t226 true)) = some r := H
                have A21 := Aside0.mk A210
                clear A210
                have HC22 := Aside0.mk H
                clear H
                obtain ⟨Ao24, co24, eo24⟩ := Kd.R_slice HO_5.out
                subst eo24
                have q23 : ((l0.length : Int) : Int) ≤ ((x5_1.length : Int) : Int) := of_decide_eq_true (by first | (with_reducible assumption) | assumption)
                obtain ⟨i023, hi023, _, hsz23, _⟩ := info_parts info5
                have hroom23 : x5_1.length ≤ co24 := (Kd.R_reads' HO_5.out).2.1
                have hC23 : Kd.C (Kd.int .u8) _ Ao24 x5_1.length x5_1 := (Kd.R_reads' HO_5.out).2.2
                have hcut23 := cut_to (P := Tryd.prog) 38 5 .i64 Tryd.underlying38 hi023 Ao24 x5_1.length co24 (l0.length : Int) (of_decide_eq_true (by first | (with_reducible assumption) | assumption)) q23 hroom23
                have hr23 := Kd.C_take (m := ((l0.length : Int) : Int).toNat) hC23 (by omega)
                have hy23 : y206.length = ((l0.length : Int) : Int).toNat := (by rw [Ny206.out, List.length_take]; omega)
                rw [← Ny206.out] at hr23
                rw [← hy23] at hcut23
                have HR209 := Aside0.mk hr23
                have HC209 := Aside0.mk (show y206.length ≤ co24 from by omega)
                clear hr23 hC23 hroom23 hi023 hsz23
                have KY23 := Aside0.mk hy23
                clear hy23
                have KL23 := Aside0.mk (show ((l0.length : Int) : Int).toNat ≤ x5_1.length from by omega)
                replace q23 := eq_true q23
                go_upto_region 10 with (first | ((with_reducible refine gate_callee (f := 29) rfl ?_); refine goesL_ (some 54) rfl rfl Tryd.func29 (by kernel_rfl) rfl #[.slice Ao24 y206.length co24, .int .i64 a1] rfl (by (try simp only [List.map_toArray, List.map_cons, List.map_nil]); first | done | rfl | (simp only [List.length_drop, List.length_take]; rfl)) ?_; (with_reducible refine (code_Decode.calls k1 _ _ y206 a1 t210 t211 t212 _ ?side1 ?side2 A17.out (Pure.G2.below HG.out (by repeat (first | (with_reducible first | exact HB.out | apply below_alloc | apply pw_below_drewN | apply below_drew1 | (refine below_set ?_ (by first | exact trivial )) ) | exact HB.out)))).mono ?_); (case side1 => repeat (first | exact (by repeat (first | (with_reducible exact HR209.out) | (with_reducible refine Kd.C_alloc ?_ _) | (with_reducible refine Kd.C_drewN ?_ _) | (with_reducible refine Kd.C_drew ?_) | exact HR209.out)) | (with_reducible refine Kd.C_alloc ?_ _) | (with_reducible refine Kd.C_drewN ?_ _) | (with_reducible refine Kd.C_drew ?_))); (case side2 => exact HC209.out); rintro e w25 ⟨v213, rfl, ho0, hb⟩; refine ⟨_, rfl, ?_⟩; have n0_ := Aside0.mk (Kd.R_below (by (with_reducible repeat (first | apply Kd.R_alloc | apply Kd.R_drewN | apply Kd.R_drew)); exact HO_5.out) hb); have n1_ := Aside0.mk (Kd.R_lower ho0 (below_size (by repeat (first | (with_reducible first | exact HB.out | apply below_alloc | apply pw_below_drewN | apply below_drew1) | exact HB.out)))); have n2_ := Aside0.mk (Kd.C_below (by repeat (first | (with_reducible exact HR209.out) | (with_reducible refine Kd.C_alloc ?_ _) | (with_reducible refine Kd.C_drewN ?_ _) | (with_reducible refine Kd.C_drew ?_) | exact HR209.out)) hb); have n3_ := Aside0.mk (below_step (by repeat (first | (with_reducible first | exact HB.out | apply below_alloc | apply pw_below_drewN | apply below_drew1) | exact HB.out)) hb); clear HO_5; clear HR209; clear HB; have HO_5 := n0_; have HO214 := n1_; have HR209 := n2_; have HB := n3_; clear n0_ n1_ n2_ n3_; (try clear hb); (try clear hb2); (try clear hk); (try clear hi); (try clear ho0); have q26 : ((l0.length : Int) : Int) ≤ ((x5_1.length : Int) : Int) := of_decide_eq_true (by first | (with_reducible assumption) | assumption); obtain ⟨i026, hi026, _, hsz26, _⟩ := info_parts info5; have hroom26 : x5_1.length ≤ co24 := (Kd.R_reads' HO_5.out).2.1; have hC26 : Kd.C (Kd.int .u8) _ Ao24 x5_1.length x5_1 := (Kd.R_reads' HO_5.out).2.2; (try clear hcut23); have hcut26 := cut_to (P := Tryd.prog) 38 5 .i64 Tryd.underlying38 hi026 Ao24 x5_1.length co24 (l0.length : Int) (of_decide_eq_true (by first | (with_reducible assumption) | assumption)) q26 hroom26; have hr26 := Kd.C_take (m := ((l0.length : Int) : Int).toNat) hC26 (by omega); have hy26 : y215.length = ((l0.length : Int) : Int).toNat := (by rw [Ny215.out, List.length_take]; omega); rw [← Ny215.out] at hr26; rw [← hy26] at hcut26; have HR218 := Aside0.mk hr26; have HC218 := Aside0.mk (show y215.length ≤ co24 from by omega); clear hr26 hC26 hroom26 hi026 hsz26; have KY26 := Aside0.mk hy26; clear hy26; have KL26 := Aside0.mk (show ((l0.length : Int) : Int).toNat ≤ x5_1.length from by omega); replace q26 := eq_true q26) | ((with_reducible refine gate_callee (f := 29) rfl ?_); refine goesL_ (some 64) rfl rfl Tryd.func29 (by kernel_rfl) rfl #[.slice Ao24 y215.length co24, .int .i64 a1] rfl (by (try simp only [List.map_toArray, List.map_cons, List.map_nil]); first | done | rfl | (simp only [List.length_drop, List.length_take]; rfl)) ?_; (with_reducible refine (code_Decode.calls k1 _ _ y215 a1 t219 t220 t221 _ ?side1 ?side2 A20.out (Pure.G2.below HG.out (by repeat (first | (with_reducible first | exact HB.out | apply below_alloc | apply pw_below_drewN | apply below_drew1 | (refine below_set ?_ (by first | exact trivial )) ) | exact HB.out)))).mono ?_); (case side1 => repeat (first | exact (by repeat (first | (with_reducible exact HR218.out) | (with_reducible refine Kd.C_alloc ?_ _) | (with_reducible refine Kd.C_drewN ?_ _) | (with_reducible refine Kd.C_drew ?_) | exact HR218.out)) | (with_reducible refine Kd.C_alloc ?_ _) | (with_reducible refine Kd.C_drewN ?_ _) | (with_reducible refine Kd.C_drew ?_))); (case side2 => exact HC218.out); rintro e w27 ⟨v222, rfl, ho0, hb⟩; refine ⟨_, rfl, ?_⟩; have n0_ := Aside0.mk (Kd.R_below (by (with_reducible repeat (first | apply Kd.R_alloc | apply Kd.R_drewN | apply Kd.R_drew)); exact HO_5.out) hb); have n1_ := Aside0.mk (Kd.R_elder' (by (with_reducible repeat (first | apply Kd.R_alloc | apply Kd.R_drewN | apply Kd.R_drew)); exact HO214.out) (Kd.R_base ho0) hb); have n2_ := Aside0.mk (Kd.R_lower (Kd.R_new' ho0 (Kd.R_lt (by (with_reducible repeat (first | apply Kd.R_alloc | apply Kd.R_drewN | apply Kd.R_drew)); exact HO214.out))) (below_size (by repeat (first | (with_reducible first | exact HB.out | apply below_alloc | apply pw_below_drewN | apply below_drew1) | exact HB.out)))); have n3_ := Aside0.mk (Kd.C_below (by repeat (first | (with_reducible exact HR209.out) | (with_reducible refine Kd.C_alloc ?_ _) | (with_reducible refine Kd.C_drewN ?_ _) | (with_reducible refine Kd.C_drew ?_) | exact HR209.out)) hb); have n4_ := Aside0.mk (Kd.C_below (by repeat (first | (with_reducible exact HR218.out) | (with_reducible refine Kd.C_alloc ?_ _) | (with_reducible refine Kd.C_drewN ?_ _) | (with_reducible refine Kd.C_drew ?_) | exact HR218.out)) hb); have n5_ := Aside0.mk (below_step (by repeat (first | (with_reducible first | exact HB.out | apply below_alloc | apply pw_below_drewN | apply below_drew1) | exact HB.out)) hb); clear HO_5; clear HO214; clear HR209; clear HR218; clear HB; have HO_5 := n0_; have HO214 := n1_; have HO223 := n2_; have HR209 := n3_; have HR218 := n4_; have HB := n5_; clear n0_ n1_ n2_ n3_ n4_ n5_; (try clear hb); (try clear hb2); (try clear hk); (try clear hi); (try clear ho0)) | ((with_reducible refine gate_callee (f := 30) rfl ?_); refine goesL_ (some 71) rfl rfl Tryd.func30 (by kernel_rfl) rfl #[.slice A0 l0.length c0, .int .i64 a1] rfl (by (try simp only [List.map_toArray, List.map_cons, List.map_nil]); first | done | rfl | (simp only [List.length_drop, List.length_take]; rfl)) ?_; (with_reducible refine (payoffref11_Decode.calls k1 _ _ l0 a1 t224 t225 t226 _ ?side1 ?side2 A21.out (Pure.G2.below HG.out (by repeat (first | (with_reducible first | exact HB.out | apply below_alloc | apply pw_below_drewN | apply below_drew1 | (refine below_set ?_ (by first | exact trivial )) ) | exact HB.out)))).mono ?_); (case side1 => repeat (first | exact (Kd.C_below HR0.out HB.out) | (with_reducible refine Kd.C_alloc ?_ _) | (with_reducible refine Kd.C_drewN ?_ _) | (with_reducible refine Kd.C_drew ?_))); (case side2 => exact HC0.out); rintro e w28 ⟨v227, rfl, ho0, hb⟩; refine ⟨_, rfl, ?_⟩; have n0_ := Aside0.mk (Kd.R_below (by (with_reducible repeat (first | apply Kd.R_alloc | apply Kd.R_drewN | apply Kd.R_drew)); exact HO_5.out) hb); have n1_ := Aside0.mk (Kd.R_elder' (by (with_reducible repeat (first | apply Kd.R_alloc | apply Kd.R_drewN | apply Kd.R_drew)); exact HO214.out) (Kd.R_base ho0) hb); have n2_ := Aside0.mk (Kd.R_elder' (by (with_reducible repeat (first | apply Kd.R_alloc | apply Kd.R_drewN | apply Kd.R_drew)); exact HO223.out) (Kd.R_base ho0) hb); have n3_ := Aside0.mk (Kd.R_lower (Kd.R_new' (Kd.R_new' ho0 (Kd.R_lt (by (with_reducible repeat (first | apply Kd.R_alloc | apply Kd.R_drewN | apply Kd.R_drew)); exact HO214.out))) (Kd.R_lt (by (with_reducible repeat (first | apply Kd.R_alloc | apply Kd.R_drewN | apply Kd.R_drew)); exact HO223.out))) (below_size (by repeat (first | (with_reducible first | exact HB.out | apply below_alloc | apply pw_below_drewN | apply below_drew1) | exact HB.out)))); have n4_ := Aside0.mk (Kd.C_below (by repeat (first | (with_reducible exact HR209.out) | (with_reducible refine Kd.C_alloc ?_ _) | (with_reducible refine Kd.C_drewN ?_ _) | (with_reducible refine Kd.C_drew ?_) | exact HR209.out)) hb); have n5_ := Aside0.mk (Kd.C_below (by repeat (first | (with_reducible exact HR218.out) | (with_reducible refine Kd.C_alloc ?_ _) | (with_reducible refine Kd.C_drewN ?_ _) | (with_reducible refine Kd.C_drew ?_) | exact HR218.out)) hb); have n6_ := Aside0.mk (below_step (by repeat (first | (with_reducible first | exact HB.out | apply below_alloc | apply pw_below_drewN | apply below_drew1) | exact HB.out)) hb); clear HO_5; clear HO214; clear HO223; clear HR209; clear HR218; clear HB; have HO_5 := n0_; have HO214 := n1_; have HO223 := n2_; have HO228 := n3_; have HR209 := n4_; have HR218 := n5_; have HB := n6_; clear n0_ n1_ n2_ n3_ n4_ n5_ n6_; (try clear hb); (try clear hb2); (try clear hk); (try clear hi); (try clear ho0)))
                (try simp only [Act.put, List.setIfInBounds_toArray, List.set_cons_zero, List.set_cons_succ])
                go_cut [103] (fun vb103 wc => ∃ (kq : Nat) (x103_21 : Bool), vb103 = .bool x103_21 ∧ Aside0 (payofflaw11_CodeDecodes.j1 kq l0 a1 x5_1 t210 t219 t224 t226 x103_21 = some r) ∧ Aside0 (kq ≤ k1) ∧ Aside0 (Kd.R (Kd.int .u8) 5 wc w.heap.size (fun _ => True) (.slice Ao24 x5_1.length co24) x5_1) ∧ Aside0 (Kd.R k27 27 wc w.heap.size (fun k_ => some k_ ≠ (v222 : Value).ownBlock ∧ some k_ ≠ (v227 : Value).ownBlock) v213 t210) ∧ Aside0 (Kd.R k27 27 wc w.heap.size (fun k_ => some k_ ≠ (v213 : Value).ownBlock ∧ some k_ ≠ (v227 : Value).ownBlock) v222 t219) ∧ Aside0 (Kd.R k27 27 wc w.heap.size (fun k_ => some k_ ≠ (v213 : Value).ownBlock ∧ some k_ ≠ (v222 : Value).ownBlock) v227 t224) ∧ Aside0 (Below w.heap.size w wc))
                case first => as_aux_lemma =>
                  have H := HC22.out
                  clear HC22
                  by_cases c29 : t212 = t226
                  · rw [if_pos c29] at H
                    have c29b0 : (t212 == t226) = true := beq_iff_eq.mpr c29
                    have c29b1 : (t212 != t226) = false := bne_eq_false_iff_eq.mpr c29
                    clear c29
                    (first | rw [c29b0] | (simp only [i64_w, i32_w]; rw [c29b0]) | skip)
                    by_cases c30 : t211 = t225
                    · rw [if_pos c30] at H
                      have c30b0 : (t211 == t225) = true := beq_iff_eq.mpr c30
                      have c30b1 : (t211 != t225) = false := bne_eq_false_iff_eq.mpr c30
                      clear c30
                      replace H := Option.bind_eq_some_iff.mp H
                      obtain ⟨t229, A310, H⟩ := H
                      replace H : (if t229 = true then ((payofflaw11_sameCode.f k1 t219 t224).bind fun t230 => (if t230 = true then ((payofflaw11_sameBytes.f k1 (x5_1.take ((l0.length : Int) : Int).toNat) l0).bind fun t235 => (payofflaw11_CodeDecodes.j1 k1 l0 a1 x5_1 t210 t219 t224 t226 (!t235))) else (payofflaw11_CodeDecodes.j1 k1 l0 a1 x5_1 t210 t219 t224 t226 true))) else (payofflaw11_CodeDecodes.j1 k1 l0 a1 x5_1 t210 t219 t224 t226 true)) = some r := H
                      have A31 := Aside0.mk A310
                      clear A310
                      by_cases c32 : t229 = true
                      · subst c32
                        have H1 : ((payofflaw11_sameCode.f k1 t219 t224).bind fun t230 => (if t230 = true then ((payofflaw11_sameBytes.f k1 (x5_1.take ((l0.length : Int) : Int).toNat) l0).bind fun t235 => (payofflaw11_CodeDecodes.j1 k1 l0 a1 x5_1 t210 t219 t224 t226 (!t235))) else (payofflaw11_CodeDecodes.j1 k1 l0 a1 x5_1 t210 t219 t224 t226 true))) = some r := by rw [if_pos rfl] at H; exact H
                        clear H
                        have H := H1
                        clear H1
                        replace H := Option.bind_eq_some_iff.mp H
                        obtain ⟨t230, A330, H⟩ := H
                        replace H : (if t230 = true then ((payofflaw11_sameBytes.f k1 (x5_1.take ((l0.length : Int) : Int).toNat) l0).bind fun t235 => (payofflaw11_CodeDecodes.j1 k1 l0 a1 x5_1 t210 t219 t224 t226 (!t235))) else (payofflaw11_CodeDecodes.j1 k1 l0 a1 x5_1 t210 t219 t224 t226 true)) = some r := H
                        have A33 := Aside0.mk A330
                        clear A330
                        by_cases c34 : t230 = true
                        · subst c34
                          have H1 : ((payofflaw11_sameBytes.f k1 (x5_1.take ((l0.length : Int) : Int).toNat) l0).bind fun t235 => (payofflaw11_CodeDecodes.j1 k1 l0 a1 x5_1 t210 t219 t224 t226 (!t235))) = some r := by rw [if_pos rfl] at H; exact H
                          clear H
                          have H := H1
                          clear H1
                          have c35b0 := eq_true (of_decide_eq_true (by first | (with_reducible assumption) | assumption) : 0 ≤ (l0.length : Int))
                          have c36b0 := eq_true (of_decide_eq_true (by first | (with_reducible assumption) | assumption) : (l0.length : Int) ≤ (x5_1.length : Int))
                          obtain ⟨y231, hy231⟩ : ∃ y_ : List Int, y_ = (x5_1.take ((l0.length : Int) : Int).toNat) := ⟨_, rfl⟩
                          replace H : ((payofflaw11_sameBytes.f k1 y231 l0).bind fun t235 => (payofflaw11_CodeDecodes.j1 k1 l0 a1 x5_1 t210 t219 t224 t226 (!t235))) = some r := by first | (rw [hy231]; with_reducible exact H) | (have H2_ := (Option.bind_some _ _).symm.trans H; rw [hy231]; with_reducible exact H2_) | (have H2_ := (Option.bind_some _ _).symm.trans H; with_reducible exact H2_) | with_reducible exact H | (rw [hy231]; exact H) | exact H
                          have Ny231 := Aside0.mk hy231
                          clear hy231
                          replace H := Option.bind_eq_some_iff.mp H
                          obtain ⟨t235, A370, H⟩ := H
                          replace H : (payofflaw11_CodeDecodes.j1 k1 l0 a1 x5_1 t210 t219 t224 t226 (!t235)) = some r := H
                          have A37 := Aside0.mk A370
                          clear A370
                          have H' := Aside0.mk H
                          clear H
                          obtain ⟨Ao38, co38, eo38⟩ := Kd.R_slice HO214.out
                          subst eo38
                          obtain ⟨Ao39, co39, eo39⟩ := Kd.R_slice HO228.out
                          subst eo39
                          go_wp2_with (first | (go_at_call 27; (with_reducible refine (payofflaw11_sameCode.calls k1 _ _ t210 _ _ t224 true _ ?side1 ?side2 ?side3 ?side4 A31.out).mono ?_); (case side1 => repeat (first | exact (Kd.R_reads' HO214.out).2.2 | (with_reducible refine Kd.C_alloc ?_ _) | (with_reducible refine Kd.C_drewN ?_ _) | (with_reducible refine Kd.C_drew ?_))); (case side2 => exact (Kd.R_reads' HO214.out).2.1); (case side3 => repeat (first | exact (Kd.R_reads' HO228.out).2.2 | (with_reducible refine Kd.C_alloc ?_ _) | (with_reducible refine Kd.C_drewN ?_ _) | (with_reducible refine Kd.C_drew ?_))); (case side4 => exact (Kd.R_reads' HO228.out).2.1); rintro e w' ⟨rfl, ⟨nd, rfl⟩⟩; obtain ⟨Ao40, co40, eo40⟩ := Kd.R_slice HO223.out; subst eo40) | (go_at_call 27; (with_reducible refine (payofflaw11_sameCode.calls k1 _ _ t219 _ _ t224 true _ ?side1 ?side2 ?side3 ?side4 A33.out).mono ?_); (case side1 => repeat (first | exact (Kd.R_reads' HO223.out).2.2 | (with_reducible refine Kd.C_alloc ?_ _) | (with_reducible refine Kd.C_drewN ?_ _) | (with_reducible refine Kd.C_drew ?_))); (case side2 => exact (Kd.R_reads' HO223.out).2.1); (case side3 => repeat (first | exact (Kd.R_reads' HO228.out).2.2 | (with_reducible refine Kd.C_alloc ?_ _) | (with_reducible refine Kd.C_drewN ?_ _) | (with_reducible refine Kd.C_drew ?_))); (case side4 => exact (Kd.R_reads' HO228.out).2.1); rintro e w' ⟨rfl, ⟨nd, rfl⟩⟩; have q41 : ((l0.length : Int) : Int) ≤ ((x5_1.length : Int) : Int) := of_decide_eq_true (by first | (with_reducible assumption) | assumption); obtain ⟨i041, hi041, _, hsz41, _⟩ := info_parts info5; have hroom41 : x5_1.length ≤ co24 := (Kd.R_reads' HO_5.out).2.1; have hC41 : Kd.C (Kd.int .u8) _ Ao24 x5_1.length x5_1 := (Kd.R_reads' HO_5.out).2.2; (try clear hcut23); (try clear hcut26); have hcut41 := cut_to (P := Tryd.prog) 38 5 .i64 Tryd.underlying38 hi041 Ao24 x5_1.length co24 (l0.length : Int) (of_decide_eq_true (by first | (with_reducible assumption) | assumption)) q41 hroom41; have hr41 := Kd.C_take (m := ((l0.length : Int) : Int).toNat) hC41 (by omega); have hy41 : y231.length = ((l0.length : Int) : Int).toNat := (by rw [Ny231.out, List.length_take]; omega); rw [← Ny231.out] at hr41; rw [← hy41] at hcut41; have HR234 := Aside0.mk hr41; have HC234 := Aside0.mk (show y231.length ≤ co24 from by omega); clear hr41 hC41 hroom41 hi041 hsz41; have KY41 := Aside0.mk hy41; clear hy41; have KL41 := Aside0.mk (show ((l0.length : Int) : Int).toNat ≤ x5_1.length from by omega); replace q41 := eq_true q41) | (go_at_call 26; (with_reducible refine (payofflaw11_sameBytes.calls k1 _ _ y231 _ _ l0 t235 _ ?side1 ?side2 ?side3 ?side4 A37.out).mono ?_); (case side1 => repeat (first | exact (by repeat (first | (with_reducible exact HR234.out) | (with_reducible refine Kd.C_alloc ?_ _) | (with_reducible refine Kd.C_drewN ?_ _) | (with_reducible refine Kd.C_drew ?_) | exact HR234.out)) | (with_reducible refine Kd.C_alloc ?_ _) | (with_reducible refine Kd.C_drewN ?_ _) | (with_reducible refine Kd.C_drew ?_))); (case side2 => exact HC234.out); (case side3 => repeat (first | exact (Kd.C_below HR0.out (by repeat (first | (with_reducible first | exact HB.out | apply below_alloc | apply pw_below_drewN | apply below_drew1) | exact HB.out))) | (with_reducible refine Kd.C_alloc ?_ _) | (with_reducible refine Kd.C_drewN ?_ _) | (with_reducible refine Kd.C_drew ?_))); (case side4 => exact HC0.out); rintro e w' ⟨rfl, ⟨nd, rfl⟩⟩))
                          go_meet
                          case rel => exact ⟨_, (!t235), (by first | rfl | (simp; done) | (simp [*]; done)), H', ⟨by have := HK1.out; first | omega | exact Nat.le_refl _⟩, ⟨by (with_reducible repeat (first | apply Kd.R_alloc | apply Kd.R_drewN | apply Kd.R_drew)); exact HO_5.out⟩, ⟨by (with_reducible repeat (first | apply Kd.R_alloc | apply Kd.R_drewN | apply Kd.R_drew)); exact Kd.R_mono HO214.out (fun _ hk => ⟨hk.1.2, hk.2⟩)⟩, ⟨by (with_reducible repeat (first | apply Kd.R_alloc | apply Kd.R_drewN | apply Kd.R_drew)); exact Kd.R_mono HO223.out (fun _ hk => ⟨hk.1.2, hk.2⟩)⟩, ⟨by (with_reducible repeat (first | apply Kd.R_alloc | apply Kd.R_drewN | apply Kd.R_drew)); exact Kd.R_mono HO228.out (fun _ hk => ⟨hk.1.2, hk.2⟩)⟩, ⟨by repeat (first | (with_reducible first | exact HB.out | apply below_alloc | apply pw_below_drewN | apply below_drew1) | exact HB.out)⟩⟩
                        · replace c34 := Bool.eq_false_iff.mpr c34
                          subst c34
                          have H1 : (payofflaw11_CodeDecodes.j1 k1 l0 a1 x5_1 t210 t219 t224 t226 true) = some r := by rw [if_neg (show ¬ (false = true) by decide)] at H; exact H
                          clear H
                          have H := H1
                          clear H1
                          have H' := Aside0.mk H
                          clear H
                          obtain ⟨Ao42, co42, eo42⟩ := Kd.R_slice HO214.out
                          subst eo42
                          obtain ⟨Ao43, co43, eo43⟩ := Kd.R_slice HO228.out
                          subst eo43
                          go_wp2_with (first | (go_at_call 27; (with_reducible refine (payofflaw11_sameCode.calls k1 _ _ t210 _ _ t224 true _ ?side1 ?side2 ?side3 ?side4 A31.out).mono ?_); (case side1 => repeat (first | exact (Kd.R_reads' HO214.out).2.2 | (with_reducible refine Kd.C_alloc ?_ _) | (with_reducible refine Kd.C_drewN ?_ _) | (with_reducible refine Kd.C_drew ?_))); (case side2 => exact (Kd.R_reads' HO214.out).2.1); (case side3 => repeat (first | exact (Kd.R_reads' HO228.out).2.2 | (with_reducible refine Kd.C_alloc ?_ _) | (with_reducible refine Kd.C_drewN ?_ _) | (with_reducible refine Kd.C_drew ?_))); (case side4 => exact (Kd.R_reads' HO228.out).2.1); rintro e w' ⟨rfl, ⟨nd, rfl⟩⟩; obtain ⟨Ao44, co44, eo44⟩ := Kd.R_slice HO223.out; subst eo44) | (go_at_call 27; (with_reducible refine (payofflaw11_sameCode.calls k1 _ _ t219 _ _ t224 false _ ?side1 ?side2 ?side3 ?side4 A33.out).mono ?_); (case side1 => repeat (first | exact (Kd.R_reads' HO223.out).2.2 | (with_reducible refine Kd.C_alloc ?_ _) | (with_reducible refine Kd.C_drewN ?_ _) | (with_reducible refine Kd.C_drew ?_))); (case side2 => exact (Kd.R_reads' HO223.out).2.1); (case side3 => repeat (first | exact (Kd.R_reads' HO228.out).2.2 | (with_reducible refine Kd.C_alloc ?_ _) | (with_reducible refine Kd.C_drewN ?_ _) | (with_reducible refine Kd.C_drew ?_))); (case side4 => exact (Kd.R_reads' HO228.out).2.1); rintro e w' ⟨rfl, ⟨nd, rfl⟩⟩))
                          go_meet
                          case rel => exact ⟨_, (true), (by first | rfl | (simp; done) | (simp [*]; done)), H', ⟨by have := HK1.out; first | omega | exact Nat.le_refl _⟩, ⟨by (with_reducible repeat (first | apply Kd.R_alloc | apply Kd.R_drewN | apply Kd.R_drew)); exact HO_5.out⟩, ⟨by (with_reducible repeat (first | apply Kd.R_alloc | apply Kd.R_drewN | apply Kd.R_drew)); exact Kd.R_mono HO214.out (fun _ hk => ⟨hk.1.2, hk.2⟩)⟩, ⟨by (with_reducible repeat (first | apply Kd.R_alloc | apply Kd.R_drewN | apply Kd.R_drew)); exact Kd.R_mono HO223.out (fun _ hk => ⟨hk.1.2, hk.2⟩)⟩, ⟨by (with_reducible repeat (first | apply Kd.R_alloc | apply Kd.R_drewN | apply Kd.R_drew)); exact Kd.R_mono HO228.out (fun _ hk => ⟨hk.1.2, hk.2⟩)⟩, ⟨by repeat (first | (with_reducible first | exact HB.out | apply below_alloc | apply pw_below_drewN | apply below_drew1) | exact HB.out)⟩⟩
                      · replace c32 := Bool.eq_false_iff.mpr c32
                        subst c32
                        have H1 : (payofflaw11_CodeDecodes.j1 k1 l0 a1 x5_1 t210 t219 t224 t226 true) = some r := by rw [if_neg (show ¬ (false = true) by decide)] at H; exact H
                        clear H
                        have H := H1
                        clear H1
                        have H' := Aside0.mk H
                        clear H
                        obtain ⟨Ao45, co45, eo45⟩ := Kd.R_slice HO214.out
                        subst eo45
                        obtain ⟨Ao46, co46, eo46⟩ := Kd.R_slice HO228.out
                        subst eo46
                        go_wp2_with (first | (go_at_call 27; (with_reducible refine (payofflaw11_sameCode.calls k1 _ _ t210 _ _ t224 false _ ?side1 ?side2 ?side3 ?side4 A31.out).mono ?_); (case side1 => repeat (first | exact (Kd.R_reads' HO214.out).2.2 | (with_reducible refine Kd.C_alloc ?_ _) | (with_reducible refine Kd.C_drewN ?_ _) | (with_reducible refine Kd.C_drew ?_))); (case side2 => exact (Kd.R_reads' HO214.out).2.1); (case side3 => repeat (first | exact (Kd.R_reads' HO228.out).2.2 | (with_reducible refine Kd.C_alloc ?_ _) | (with_reducible refine Kd.C_drewN ?_ _) | (with_reducible refine Kd.C_drew ?_))); (case side4 => exact (Kd.R_reads' HO228.out).2.1); rintro e w' ⟨rfl, ⟨nd, rfl⟩⟩))
                        go_meet
                        case rel => exact ⟨_, (true), (by first | rfl | (simp; done) | (simp [*]; done)), H', ⟨by have := HK1.out; first | omega | exact Nat.le_refl _⟩, ⟨by (with_reducible repeat (first | apply Kd.R_alloc | apply Kd.R_drewN | apply Kd.R_drew)); exact HO_5.out⟩, ⟨by (with_reducible repeat (first | apply Kd.R_alloc | apply Kd.R_drewN | apply Kd.R_drew)); exact Kd.R_mono HO214.out (fun _ hk => ⟨hk.1.2, hk.2⟩)⟩, ⟨by (with_reducible repeat (first | apply Kd.R_alloc | apply Kd.R_drewN | apply Kd.R_drew)); exact Kd.R_mono HO223.out (fun _ hk => ⟨hk.1.2, hk.2⟩)⟩, ⟨by (with_reducible repeat (first | apply Kd.R_alloc | apply Kd.R_drewN | apply Kd.R_drew)); exact Kd.R_mono HO228.out (fun _ hk => ⟨hk.1.2, hk.2⟩)⟩, ⟨by repeat (first | (with_reducible first | exact HB.out | apply below_alloc | apply pw_below_drewN | apply below_drew1) | exact HB.out)⟩⟩
                    · rw [if_neg c30] at H
                      have c30b0 : (t211 == t225) = false := beq_eq_false_iff_ne.mpr c30
                      have c30b1 : (t211 != t225) = true := bne_iff_ne.mpr c30
                      have H' := Aside0.mk H
                      clear H
                      go_wp2
                      go_meet
                      case rel => exact ⟨_, (true), (by first | rfl | (simp; done) | (simp [*]; done)), H', ⟨by have := HK1.out; first | omega | exact Nat.le_refl _⟩, ⟨by (with_reducible repeat (first | apply Kd.R_alloc | apply Kd.R_drewN | apply Kd.R_drew)); exact HO_5.out⟩, ⟨by (with_reducible repeat (first | apply Kd.R_alloc | apply Kd.R_drewN | apply Kd.R_drew)); exact Kd.R_mono HO214.out (fun _ hk => ⟨hk.1.2, hk.2⟩)⟩, ⟨by (with_reducible repeat (first | apply Kd.R_alloc | apply Kd.R_drewN | apply Kd.R_drew)); exact Kd.R_mono HO223.out (fun _ hk => ⟨hk.1.2, hk.2⟩)⟩, ⟨by (with_reducible repeat (first | apply Kd.R_alloc | apply Kd.R_drewN | apply Kd.R_drew)); exact Kd.R_mono HO228.out (fun _ hk => ⟨hk.1.2, hk.2⟩)⟩, ⟨by repeat (first | (with_reducible first | exact HB.out | apply below_alloc | apply pw_below_drewN | apply below_drew1) | exact HB.out)⟩⟩
                  · rw [if_neg c29] at H
                    have c29b0 : (t212 == t226) = false := beq_eq_false_iff_ne.mpr c29
                    have c29b1 : (t212 != t226) = true := bne_iff_ne.mpr c29
                    (first | rw [c29b0] | (simp only [i64_w, i32_w]; rw [c29b0]) | skip)
                    have H' := Aside0.mk H
                    clear H
                    go_wp2
                    go_meet
                    case rel => exact ⟨_, (true), (by first | rfl | (simp; done) | (simp [*]; done)), H', ⟨by have := HK1.out; first | omega | exact Nat.le_refl _⟩, ⟨by (with_reducible repeat (first | apply Kd.R_alloc | apply Kd.R_drewN | apply Kd.R_drew)); exact HO_5.out⟩, ⟨by (with_reducible repeat (first | apply Kd.R_alloc | apply Kd.R_drewN | apply Kd.R_drew)); exact Kd.R_mono HO214.out (fun _ hk => ⟨hk.1.2, hk.2⟩)⟩, ⟨by (with_reducible repeat (first | apply Kd.R_alloc | apply Kd.R_drewN | apply Kd.R_drew)); exact Kd.R_mono HO223.out (fun _ hk => ⟨hk.1.2, hk.2⟩)⟩, ⟨by (with_reducible repeat (first | apply Kd.R_alloc | apply Kd.R_drewN | apply Kd.R_drew)); exact Kd.R_mono HO228.out (fun _ hk => ⟨hk.1.2, hk.2⟩)⟩, ⟨by repeat (first | (with_reducible first | exact HB.out | apply below_alloc | apply pw_below_drewN | apply below_drew1) | exact HB.out)⟩⟩
                case rest =>
                  clear HC22
                  try clear c1
                  try clear p1
                  try clear q1
                  try clear hx1
                  try clear c2
                  try clear p2
                  try clear q2
                  try clear c3
                  try clear c4
                  try clear c4b0
                  try clear c4b1
                  try clear q4
                  try clear c5
                  try clear c5b0
                  try clear c5b1
                  try clear p6
                  try clear c8
                  try clear c8b0
                  try clear c9
                  try clear c10
                  try clear c10b0
                  try clear c11
                  try clear c11b0
                  try clear p12
                  try clear q12
                  try clear hx12
                  try clear hf12
                  try clear c15
                  try clear c15b0
                  try clear c15b1
                  try clear c16
                  try clear c16b0
                  try clear c16b1
                  try clear c18
                  try clear c18b0
                  try clear c19
                  try clear c19b0
                  try clear q23
                  try clear q26
                  try clear c29
                  try clear c29b0
                  try clear c29b1
                  try clear c30
                  try clear c30b0
                  try clear c30b1
                  try clear c32
                  try clear c34
                  try clear c35
                  try clear c35b0
                  try clear c36
                  try clear c36b0
                  try clear q41
                  try clear hx12_0
                  try clear p12
                  try clear p2
                  try clear p6
                  try clear q12
                  try clear q23
                  try clear q26
                  try clear q41
                  obtain ⟨kq, x103_21, rfl, HA, HJ21, HO_5, HO_7, HO_10, HO_13, HB⟩ := hcut
                  cases kq with
                  | zero => exact absurd HA.out (by simp [payofflaw11_CodeDecodes.j1])
                  | succ kj21 =>
                    have H := HA.out
                    clear HA
                    simp only [payofflaw11_CodeDecodes.j1] at H
                    by_cases c47 : x103_21 = true
                    · subst c47
                      have H1 : (none) = some r := by rw [if_pos rfl] at H; exact H
                      exact absurd H1 (by simp)
                    · replace c47 := Bool.eq_false_iff.mpr c47
                      subst c47
                      have H1 : (payofflaw11_CodeDecodes.l1 kj21 l0 a1 x5_1 t210 t219 t224 t226 0) = some r := by rw [if_neg (show ¬ (false = true) by decide)] at H; exact H
                      clear H
                      have H := H1
                      clear H1
                      have H' := Aside0.mk H
                      clear H
                      go_wp2
                      go_loopg [16] kj21 (fun kq v16 w' => ∃ (x16_3 : Int), v16 = .int .i64 x16_3 ∧ Aside0 (payofflaw11_CodeDecodes.l1 kq l0 a1 x5_1 t210 t219 t224 t226 x16_3 = some r) ∧ Aside0 (kq ≤ kj21) ∧ Aside0 (Kd.R (Kd.int .u8) 5 w' w.heap.size (fun _ => True) (.slice Ao24 x5_1.length co24) x5_1) ∧ Aside0 (Kd.R k27 27 w' w.heap.size (fun k_ => some k_ ≠ (v222 : Value).ownBlock ∧ some k_ ≠ (v227 : Value).ownBlock) v213 t210) ∧ Aside0 (Kd.R k27 27 w' w.heap.size (fun k_ => some k_ ≠ (v213 : Value).ownBlock ∧ some k_ ≠ (v227 : Value).ownBlock) v222 t219) ∧ Aside0 (Kd.R k27 27 w' w.heap.size (fun k_ => some k_ ≠ (v213 : Value).ownBlock ∧ some k_ ≠ (v222 : Value).ownBlock) v227 t224) ∧ Aside0 (Below w.heap.size w w'))
                      case atStart => exact ⟨(0), (by first | rfl | (simp; done) | (simp [*]; done)), H', ⟨Nat.le_refl _⟩, ⟨by (with_reducible repeat (first | apply Kd.R_alloc | apply Kd.R_drewN | apply Kd.R_drew)); exact HO_5.out⟩, ⟨by (with_reducible repeat (first | apply Kd.R_alloc | apply Kd.R_drewN | apply Kd.R_drew)); exact HO_7.out⟩, ⟨by (with_reducible repeat (first | apply Kd.R_alloc | apply Kd.R_drewN | apply Kd.R_drew)); exact HO_10.out⟩, ⟨by (with_reducible repeat (first | apply Kd.R_alloc | apply Kd.R_drewN | apply Kd.R_drew)); exact HO_13.out⟩, ⟨by repeat (first | (with_reducible first | exact HB.out | apply below_alloc | apply pw_below_drewN | apply below_drew1) | exact HB.out)⟩⟩
                      case round =>
                        clear H'
                        try clear c1
                        try clear p1
                        try clear q1
                        try clear hx1
                        try clear c2
                        try clear p2
                        try clear q2
                        try clear c3
                        try clear c4
                        try clear c4b0
                        try clear c4b1
                        try clear q4
                        try clear c5
                        try clear c5b0
                        try clear c5b1
                        try clear p6
                        try clear c8
                        try clear c8b0
                        try clear c9
                        try clear c10
                        try clear c10b0
                        try clear c11
                        try clear c11b0
                        try clear p12
                        try clear q12
                        try clear hx12
                        try clear hf12
                        try clear c15
                        try clear c15b0
                        try clear c15b1
                        try clear c16
                        try clear c16b0
                        try clear c16b1
                        try clear c18
                        try clear c18b0
                        try clear c19
                        try clear c19b0
                        try clear q23
                        try clear q26
                        try clear c29
                        try clear c29b0
                        try clear c29b1
                        try clear c30
                        try clear c30b0
                        try clear c30b1
                        try clear c32
                        try clear c34
                        try clear c35
                        try clear c35b0
                        try clear c36
                        try clear c36b0
                        try clear q41
                        try clear c47
                        try clear hx12_0
                        try clear p1
                        try clear p12
                        try clear p2
                        try clear p6
                        try clear q1
                        try clear q12
                        try clear q2
                        try clear q23
                        try clear q26
                        try clear q4
                        try clear q41
                        obtain ⟨x16_3, rfl, HA, HK3, HO_5, HO_7, HO_10, HO_13, HB⟩ := hrel
                        cases gk with
                        | zero => exact absurd HA.out (by simp [payofflaw11_CodeDecodes.l1])
                        | succ k3 =>
                          have H := HA.out
                          clear HA
                          simp only [payofflaw11_CodeDecodes.l1] at H
                          by_cases c48 : x16_3 < 8
                          · rw [if_pos c48] at H
                            have c48b0 : decide (x16_3 < 8) = true := decide_eq_true c48
                            clear c48
                            obtain ⟨ji49, hji49⟩ : ∃ j_ : Int, (wrap64 ((l0.length : Int) + x16_3)) = j_ := ⟨_, rfl⟩
                            replace H : (if 0 ≤ (ji49) then (if (ji49) < (x5_1.length : Int) then (if (rd x5_1 (ji49)) = ((wrap64 (9 * x16_3)) % 256) then (payofflaw11_CodeDecodes.l1 k3 l0 a1 x5_1 t210 t219 t224 t226 (wrap64 (x16_3 + 1))) else (none)) else (none)) else (none)) = some r := by first | (rw [hji49] at H; exact H) | (simp only [hji49] at H ⊢; exact H)
                            have hji49w : (IntKind.i64.wrap ((l0.length : Int) + x16_3)) = ji49 := (i64_w _).trans hji49
                            by_cases c50 : 0 ≤ (ji49)
                            · rw [if_pos c50] at H
                              have c50b0 : decide (0 ≤ (ji49)) = true := decide_eq_true c50
                              clear c50
                              by_cases c51 : (ji49) < (x5_1.length : Int)
                              · rw [if_pos c51] at H
                                have c51b0 : decide ((ji49) < (x5_1.length : Int)) = true := decide_eq_true c51
                                clear c51
                                by_cases c52 : (rd x5_1 (ji49)) = ((wrap64 (9 * x16_3)) % 256)
                                · rw [if_pos c52] at H
                                  have c52b0 : ((rd x5_1 (ji49)) == ((wrap64 (9 * x16_3)) % 256)) = true := beq_iff_eq.mpr c52
                                  have c52b1 : ((rd x5_1 (ji49)) != ((wrap64 (9 * x16_3)) % 256)) = false := bne_eq_false_iff_eq.mpr c52
                                  clear c52
                                  have H' := Aside0.mk H
                                  clear H
                                  have p236 : 0 ≤ ((ji49) : Int) := of_decide_eq_true (by first | (with_reducible assumption) | assumption)
                                  have q236 : (ji49) < (x5_1.length : Int) := of_decide_eq_true (by first | (with_reducible assumption) | assumption)
                                  obtain ⟨ad236, e236, hx236_0⟩ := Kd.at_int (Kd.R_reads' HO_5.out).2.2 (ji49) p236 q236
                                  cases e236
                                  replace p236 := eq_true p236
                                  replace q236 := eq_true q236
                                  go_wp2
                                  go_roundg k3
                                  case measure => have := HK1.out; have := HJ21.out; have := HK3.out; omega
                                  case rel => exact ⟨(wrap64 (x16_3 + 1)), (by first | rfl | (simp; done) | (simp [*]; done)), H', ⟨by have := HK1.out; have := HJ21.out; have := HK3.out; omega⟩, ⟨by (with_reducible repeat (first | apply Kd.R_alloc | apply Kd.R_drewN | apply Kd.R_drew)); exact HO_5.out⟩, ⟨by (with_reducible repeat (first | apply Kd.R_alloc | apply Kd.R_drewN | apply Kd.R_drew)); exact HO_7.out⟩, ⟨by (with_reducible repeat (first | apply Kd.R_alloc | apply Kd.R_drewN | apply Kd.R_drew)); exact HO_10.out⟩, ⟨by (with_reducible repeat (first | apply Kd.R_alloc | apply Kd.R_drewN | apply Kd.R_drew)); exact HO_13.out⟩, ⟨by repeat (first | (with_reducible first | exact HB.out | apply below_alloc | apply pw_below_drewN | apply below_drew1) | exact HB.out)⟩⟩
                                · rw [if_neg c52] at H
                                  exact absurd H (by simp)
                              · rw [if_neg c51] at H
                                exact absurd H (by simp)
                            · rw [if_neg c50] at H
                              exact absurd H (by simp)
                          · rw [if_neg c48] at H
                            have c48b0 : decide (x16_3 < 8) = false := decide_eq_false c48
                            clear c48
                            have H' := Aside0.mk H
                            clear H
                            go_wp2
                            go_loopg [17] k3 (fun kq v17 w' => ∃ (x7_4 : List (S27)) (x17_4 : Int), v17 = .int .i64 x17_4 ∧ Aside0 (payofflaw11_CodeDecodes.l2 kq l0 a1 x5_1 x7_4 t219 t224 t226 x17_4 = some r) ∧ Aside0 (kq ≤ k3) ∧ Aside0 (Kd.R (Kd.int .u8) 5 w' w.heap.size (fun _ => True) (.slice Ao24 x5_1.length co24) x5_1) ∧ Aside0 (Kd.R k27 27 w' w.heap.size (fun k_ => some k_ ≠ (v222 : Value).ownBlock ∧ some k_ ≠ (v227 : Value).ownBlock) v213 x7_4) ∧ Aside0 (Kd.R k27 27 w' w.heap.size (fun k_ => some k_ ≠ (v213 : Value).ownBlock ∧ some k_ ≠ (v227 : Value).ownBlock) v222 t219) ∧ Aside0 (Kd.R k27 27 w' w.heap.size (fun k_ => some k_ ≠ (v213 : Value).ownBlock ∧ some k_ ≠ (v222 : Value).ownBlock) v227 t224) ∧ Aside0 (Below w.heap.size w w'))
                            case atStart => exact ⟨(t210), (0), (by first | rfl | (simp; done) | (simp [*]; done)), H', ⟨Nat.le_refl _⟩, ⟨by (with_reducible repeat (first | apply Kd.R_alloc | apply Kd.R_drewN | apply Kd.R_drew)); exact HO_5.out⟩, ⟨by (with_reducible repeat (first | apply Kd.R_alloc | apply Kd.R_drewN | apply Kd.R_drew)); exact HO_7.out⟩, ⟨by (with_reducible repeat (first | apply Kd.R_alloc | apply Kd.R_drewN | apply Kd.R_drew)); exact HO_10.out⟩, ⟨by (with_reducible repeat (first | apply Kd.R_alloc | apply Kd.R_drewN | apply Kd.R_drew)); exact HO_13.out⟩, ⟨by repeat (first | (with_reducible first | exact HB.out | apply below_alloc | apply pw_below_drewN | apply below_drew1) | exact HB.out)⟩⟩
                            case round =>
                              clear H'
                              try clear c1
                              try clear p1
                              try clear q1
                              try clear hx1
                              try clear c2
                              try clear p2
                              try clear q2
                              try clear hx2
                              try clear c3
                              try clear c4
                              try clear c4b0
                              try clear c4b1
                              try clear q4
                              try clear c5
                              try clear c5b0
                              try clear c5b1
                              try clear p6
                              try clear c8
                              try clear c8b0
                              try clear c9
                              try clear c10
                              try clear c10b0
                              try clear c11
                              try clear c11b0
                              try clear p12
                              try clear q12
                              try clear hx12
                              try clear hf12
                              try clear c15
                              try clear c15b0
                              try clear c15b1
                              try clear c16
                              try clear c16b0
                              try clear c16b1
                              try clear c18
                              try clear c18b0
                              try clear c19
                              try clear c19b0
                              try clear p23
                              try clear q23
                              try clear hx23
                              try clear q26
                              try clear c29
                              try clear c29b0
                              try clear c29b1
                              try clear c30
                              try clear c30b0
                              try clear c30b1
                              try clear c32
                              try clear c34
                              try clear c35
                              try clear c35b0
                              try clear c36
                              try clear c36b0
                              try clear q41
                              try clear c47
                              try clear c48
                              try clear c48b0
                              try clear c50
                              try clear c50b0
                              try clear c51
                              try clear c51b0
                              try clear c52
                              try clear c52b0
                              try clear c52b1
                              try clear hx12_0
                              try clear hx236_0
                              try clear p1
                              try clear p12
                              try clear p2
                              try clear p236
                              try clear p6
                              try clear q1
                              try clear q12
                              try clear q2
                              try clear q23
                              try clear q236
                              try clear q26
                              try clear q4
                              try clear q41
                              obtain ⟨x7_4, x17_4, rfl, HA, HK4, HO_5, HO_7, HO_10, HO_13, HB⟩ := hrel
                              cases gk with
                              | zero => exact absurd HA.out (by simp [payofflaw11_CodeDecodes.l2])
                              | succ k4 =>
                                have H := HA.out
                                clear HA
                                simp only [payofflaw11_CodeDecodes.l2] at H
                                by_cases c53 : x17_4 < (x7_4.length : Int)
                                · rw [if_pos c53] at H
                                  have c53b0 : decide (x17_4 < (x7_4.length : Int)) = true := decide_eq_true c53
                                  clear c53
                                  by_cases c54 : 0 ≤ x17_4
                                  · rw [if_pos c54] at H
                                    have c54b0 : decide (0 ≤ x17_4) = true := decide_eq_true c54
                                    clear c54
                                    obtain ⟨y237, hy237⟩ : ∃ y_ : List (S27), y_ = (x7_4.set (x17_4 : Int).toNat (⟨77, 0, 0⟩ : S27)) := ⟨_, rfl⟩
                                    replace H : (payofflaw11_CodeDecodes.l2 k4 l0 a1 x5_1 y237 t219 t224 t226 (wrap64 (x17_4 + 1))) = some r := by first | (rw [hy237]; with_reducible exact H) | (have H2_ := (Option.bind_some _ _).symm.trans H; rw [hy237]; with_reducible exact H2_) | (have H2_ := (Option.bind_some _ _).symm.trans H; with_reducible exact H2_) | with_reducible exact H | (rw [hy237]; exact H) | exact H
                                    have Ny237 := Aside0.mk hy237
                                    clear hy237
                                    have H' := Aside0.mk H
                                    clear H
                                    obtain ⟨Ao56, co56, eo56⟩ := Kd.R_slice HO_7.out
                                    subst eo56
                                    have p55 : 0 ≤ (x17_4 : Int) := of_decide_eq_true (by first | (with_reducible assumption) | assumption)
                                    have q55 : (x17_4 : Int) < ((x7_4.length : Int) : Int) := of_decide_eq_true (by first | (with_reducible assumption) | assumption)
                                    obtain ⟨go55, co55, eo55, gb55, gl55, cl55, HG55⟩ := Kd.R_form HO_7.out (by omega)
                                    (first | cases eo55 | (injection eo55 with ea_ en_ ec_; (first | subst ea_ | (injection ea_ with ea_; subst ea_)); subst ec_; clear en_))
                                    have GB55 := Aside0.mk gb55
                                    have GG55 := Aside0.mk HG55
                                    clear gb55 gl55 HG55
                                    obtain ⟨ce55, hcl55, hM55, hcc55, hfr55⟩ := Kd.R_elem HO_7.out z27 (x17_4 : Int) p55 q55
                                    obtain rfl := k27_openM hM55
                                    have hx55_0 : wr.cell? ⟨go55, (x17_4 : Int).toNat * 3, none⟩ = some (.int .i64 ((rd_T27 x7_4 x17_4).f0)) := hcc55 0 _ rfl
                                    have hx55_1 : wr.cell? ⟨go55, (x17_4 : Int).toNat * 3 + 1, none⟩ = some (.int .i64 ((rd_T27 x7_4 x17_4).f1)) := hcc55 1 _ rfl
                                    have hx55_2 : wr.cell? ⟨go55, (x17_4 : Int).toNat * 3 + 2, none⟩ = some (.int .i64 ((rd_T27 x7_4 x17_4).f2)) := hcc55 2 _ rfl
                                    have hf55_0 : wr.frozen? ⟨go55, (x17_4 : Int).toNat * 3, none⟩ = false := hfr55 0
                                    have hf55_1 : wr.frozen? ⟨go55, (x17_4 : Int).toNat * 3 + 1, none⟩ = false := hfr55 1
                                    have hf55_2 : wr.frozen? ⟨go55, (x17_4 : Int).toNat * 3 + 2, none⟩ = false := hfr55 2
                                    clear hcl55 hcc55 hfr55 hM55
                                    replace p55 := eq_true p55
                                    replace q55 := eq_true q55
                                    have HX57 := Aside0.mk (show Kd.R k27 27 wr w.heap.size (fun k_ => some k_ ≠ (v222 : Value).ownBlock ∧ some k_ ≠ (v227 : Value).ownBlock) (.slice (some ⟨go55, 0, none⟩) x7_4.length co56) x7_4 from (by (with_reducible repeat (first | apply Kd.R_alloc | apply Kd.R_drewN | apply Kd.R_drew)); exact HO_7.out))
                                    obtain ⟨ce57, hcl57, hM57, hcc57, hfr57⟩ := Kd.R_elem HX57.out z27 (x17_4 : Int) (of_decide_eq_true (by first | (with_reducible assumption) | assumption)) (by have h_ : (x17_4 : Int) < ((x7_4.length : Int) : Int) := of_decide_eq_true (by first | (with_reducible assumption) | assumption); first | exact h_ | (have e_ := (Kd.R_reads' HO_7.out).1; omega) | simpa using h_)
                                    obtain rfl := k27_openM hM57
                                    have HP57 := Kd.R_seg HX57.out (x17_4 : Int) (of_decide_eq_true (by first | (with_reducible assumption) | assumption)) (by have h_ : (x17_4 : Int) < ((x7_4.length : Int) : Int) := of_decide_eq_true (by first | (with_reducible assumption) | assumption); first | exact h_ | (have e_ := (Kd.R_reads' HO_7.out).1; omega) | simpa using h_) (seg := [.int .i64 77, .int .i64 0, .int .i64 0]) (j := 0) hcl57 hcc57 (show 3 ≤ 3 from by decide) (x' := (⟨77, 0, 0⟩ : S27)) (k27_mkM _ _ _ (⟨77, 0, 0⟩ : S27) ) (fun _ hk => hk)
                                    have hx57_0 := hcc57 0 _ rfl
                                    (try simp only [show (k27).sz = 3 from rfl, Nat.mul_one, Nat.add_zero] at hx57_0)
                                    have hf57_0 := hfr57 0
                                    (try simp only [show (k27).sz = 3 from rfl, Nat.mul_one, Nat.add_zero] at hf57_0)
                                    have hx57_1 := hcc57 1 _ rfl
                                    (try simp only [show (k27).sz = 3 from rfl, Nat.mul_one, Nat.add_zero] at hx57_1)
                                    have hf57_1 := hfr57 1
                                    (try simp only [show (k27).sz = 3 from rfl, Nat.mul_one, Nat.add_zero] at hf57_1)
                                    have hx57_2 := hcc57 2 _ rfl
                                    (try simp only [show (k27).sz = 3 from rfl, Nat.mul_one, Nat.add_zero] at hx57_2)
                                    have hf57_2 := hfr57 2
                                    (try simp only [show (k27).sz = 3 from rfl, Nat.mul_one, Nat.add_zero] at hf57_2)
                                    clear hcl57 hcc57 hfr57 hM57
                                    go_wp2_with (first | ((with_reducible refine gate_store (t := 27) (p := 128) rfl ?_); refine store_event (t := 27) (p := 128) (v := ?vo_w58) (w1 := (((wr.setCell ⟨go55, (x17_4 : Int).toNat * 3, none⟩ (.int .i64 77)).setCell ⟨go55, (x17_4 : Int).toNat * 3 + 1, none⟩ (.int .i64 0)).setCell ⟨go55, (x17_4 : Int).toNat * 3 + 2, none⟩ (.int .i64 0))) ?hg ?ho ?hn ?hr ?_; (case ho => rfl); (case hg => rfl); (case hn => rfl); (case hr => first | (go_simp; done) | (go_simp; rfl)); intro w58 hw; have hg : wr.grownBy w58 (some go55) := (by rw [hw]; exact HP57.2); have hp_ : Kd.R k27 27 w58 w.heap.size (fun k_ => some k_ ≠ (v222 : Value).ownBlock ∧ some k_ ≠ (v227 : Value).ownBlock) (.slice (some ⟨go55, 0, none⟩) x7_4.length co56) y237 := (by rw [hw, Ny237.out]; exact HP57.1); clear HP57; have n0_ := Aside0.mk (Kd.R_over' (v := (.slice (some ⟨go55, 0, none⟩) x7_4.length co56)) (by (with_reducible repeat (first | apply Kd.R_alloc | apply Kd.R_drewN | apply Kd.R_drew)); exact HO_5.out) (Kd.R_typed HO_7.out) (by decide) hg); have n1_ := Aside0.mk (hp_); have n2_ := Aside0.mk (Kd.R_after (v := (.slice (some ⟨go55, 0, none⟩) x7_4.length co56)) (v1 := (.slice (some ⟨go55, 0, none⟩) x7_4.length co56)) (ok := (fun k_ => some k_ ≠ (v227 : Value).ownBlock)) (by (with_reducible repeat (first | apply Kd.R_alloc | apply Kd.R_drewN | apply Kd.R_drew)); exact Kd.R_mono HO_10.out (fun _ hk => ⟨hk.2, hk.1⟩)) hg (.inl rfl)); have n3_ := Aside0.mk (Kd.R_after (v := (.slice (some ⟨go55, 0, none⟩) x7_4.length co56)) (v1 := (.slice (some ⟨go55, 0, none⟩) x7_4.length co56)) (ok := (fun k_ => some k_ ≠ (v222 : Value).ownBlock)) (by (with_reducible repeat (first | apply Kd.R_alloc | apply Kd.R_drewN | apply Kd.R_drew)); exact Kd.R_mono HO_13.out (fun _ hk => ⟨hk.2, hk.1⟩)) hg (.inl rfl)); have n4_ := Aside0.mk ((by rw [hw]; exact below_set (below_set (below_set (HB.out) GB55.out) GB55.out) GB55.out : Below w.heap.size w w58)); clear HO_5; clear HO_7; clear HO_10; clear HO_13; clear HB; have HO_5 := n0_; have HO_7 := n1_; have HO_10 := n2_; have HO_13 := n3_; have HB := n4_; clear n0_ n1_ n2_ n3_ n4_; clear hg hw hp_))
                                    go_roundg k4
                                    case measure => have := HK1.out; have := HJ21.out; have := HK3.out; have := HK4.out; omega
                                    case rel => exact ⟨(y237), (wrap64 (x17_4 + 1)), (by first | rfl | (simp; done) | (simp [*]; done)), H', ⟨by have := HK1.out; have := HJ21.out; have := HK3.out; have := HK4.out; omega⟩, ⟨by (with_reducible repeat (first | apply Kd.R_alloc | apply Kd.R_drewN | apply Kd.R_drew)); exact HO_5.out⟩, ⟨by (with_reducible repeat (first | apply Kd.R_alloc | apply Kd.R_drewN | apply Kd.R_drew)); exact HO_7.out⟩, ⟨by (with_reducible repeat (first | apply Kd.R_alloc | apply Kd.R_drewN | apply Kd.R_drew)); exact Kd.R_mono HO_10.out (fun _ hk => ⟨hk.2, hk.1⟩)⟩, ⟨by (with_reducible repeat (first | apply Kd.R_alloc | apply Kd.R_drewN | apply Kd.R_drew)); exact Kd.R_mono HO_13.out (fun _ hk => ⟨hk.2, hk.1⟩)⟩, ⟨by repeat (first | (with_reducible first | exact HB.out | apply below_alloc | apply pw_below_drewN | apply below_drew1) | exact HB.out)⟩⟩
                                  · rw [if_neg c54] at H
                                    exact absurd H (by simp)
                                · rw [if_neg c53] at H
                                  have c53b0 : decide (x17_4 < (x7_4.length : Int)) = false := decide_eq_false c53
                                  clear c53
                                  obtain ⟨y238, hy238⟩ : ∃ y_ : List (S27), y_ = (([] : List (S27))) := ⟨_, rfl⟩
                                  replace H : (if y238.length + x7_4.length < 5864062014805 then (payofflaw11_CodeDecodes.l3 k4 l0 a1 x5_1 x7_4 t219 t224 t226 (y238 ++ x7_4) 0) else (none)) = some r := by first | (rw [hy238]; with_reducible exact H) | (have H2_ := (Option.bind_some _ _).symm.trans H; rw [hy238]; with_reducible exact H2_) | (have H2_ := (Option.bind_some _ _).symm.trans H; with_reducible exact H2_) | with_reducible exact H | (rw [hy238]; exact H) | exact H
                                  have Ny238 := Aside0.mk hy238
                                  clear hy238
                                  by_cases c59 : y238.length + x7_4.length < 5864062014805
                                  · rw [if_pos c59] at H
                                    have LMc59 := Aside0.mk c59
                                    clear c59
                                    obtain ⟨y241, hy241⟩ : ∃ y_ : List (S27), y_ = (y238 ++ x7_4) := ⟨_, rfl⟩
                                    replace H : (payofflaw11_CodeDecodes.l3 k4 l0 a1 x5_1 x7_4 t219 t224 t226 y241 0) = some r := by first | (rw [hy241]; with_reducible exact H) | (have H2_ := (Option.bind_some _ _).symm.trans H; rw [hy241]; with_reducible exact H2_) | (have H2_ := (Option.bind_some _ _).symm.trans H; with_reducible exact H2_) | with_reducible exact H | (rw [hy241]; exact H) | exact H
                                    have Ny241 := Aside0.mk hy241
                                    clear hy241
                                    have H' := Aside0.mk H
                                    clear H
                                    obtain ⟨Ao60, co60, eo60⟩ := Kd.R_slice HO_7.out
                                    subst eo60
                                    go_wp2
                                    go_loopg [18, 19] k4 (fun kq v18 v19 w' => ∃ (x18_5 : List (S27)) (x19_5 : Int), v19 = .int .i64 x19_5 ∧ Aside0 (payofflaw11_CodeDecodes.l3 kq l0 a1 x5_1 x7_4 t219 t224 t226 x18_5 x19_5 = some r) ∧ Aside0 (kq ≤ k4) ∧ Aside0 (Kd.R (Kd.int .u8) 5 w' w.heap.size (fun _ => True) (.slice Ao24 x5_1.length co24) x5_1) ∧ Aside0 (Kd.R k27 27 w' w.heap.size (fun k_ => some k_ ≠ (v222 : Value).ownBlock ∧ some k_ ≠ (v227 : Value).ownBlock ∧ True) (.slice Ao60 x7_4.length co60) x7_4) ∧ Aside0 (Kd.R k27 27 w' w.heap.size (fun k_ => some k_ ≠ ((.slice Ao60 x7_4.length co60) : Value).ownBlock ∧ some k_ ≠ (v227 : Value).ownBlock ∧ some k_ ≠ (v18 : Value).ownBlock) v222 t219) ∧ Aside0 (Kd.R k27 27 w' w.heap.size (fun k_ => some k_ ≠ ((.slice Ao60 x7_4.length co60) : Value).ownBlock ∧ some k_ ≠ (v222 : Value).ownBlock ∧ some k_ ≠ (v18 : Value).ownBlock) v227 t224) ∧ Aside0 (Kd.R k27 27 w' w.heap.size (fun k_ => True ∧ some k_ ≠ (v222 : Value).ownBlock ∧ some k_ ≠ (v227 : Value).ownBlock) v18 x18_5) ∧ Aside0 (Sh (.slice Ao60 x7_4.length co60) v18 x7_4 x18_5) ∧ Aside0 (Below w.heap.size w w'))
                                    case atStart => exact ⟨(y241), (0), (by first | rfl | (simp; done) | (simp [*]; done)), H', ⟨Nat.le_refl _⟩, ⟨by (with_reducible repeat (first | apply Kd.R_alloc | apply Kd.R_drewN | apply Kd.R_drew)); exact HO_5.out⟩, ⟨by (with_reducible repeat (first | apply Kd.R_alloc | apply Kd.R_drewN | apply Kd.R_drew)); exact Kd.R_mono HO_7.out (fun _ hk => ⟨hk.1, ⟨hk.2, trivial⟩⟩)⟩, ⟨by (with_reducible repeat (first | apply Kd.R_alloc | apply Kd.R_drewN | apply Kd.R_drew)); exact Kd.R_mono HO_10.out (fun _ hk => ⟨hk.1, ⟨hk.2, hk.1⟩⟩)⟩, ⟨by (with_reducible repeat (first | apply Kd.R_alloc | apply Kd.R_drewN | apply Kd.R_drew)); exact Kd.R_mono HO_13.out (fun _ hk => ⟨hk.1, ⟨hk.2, hk.1⟩⟩)⟩, ⟨by (with_reducible repeat (first | apply Kd.R_alloc | apply Kd.R_drewN | apply Kd.R_drew)); rw [Ny241.out, Ny238.out, List.nil_append]; exact Kd.R_mono HO_7.out (fun _ hk => ⟨trivial, ⟨hk.1, hk.2⟩⟩)⟩, ⟨by rw [Ny241.out, Ny238.out, List.nil_append]; exact Sh.refl HO_7.out⟩, ⟨by repeat (first | (with_reducible first | exact HB.out | apply below_alloc | apply pw_below_drewN | apply below_drew1) | exact HB.out)⟩⟩
                                    case round =>
                                      clear H'
                                      try clear c1
                                      try clear p1
                                      try clear q1
                                      try clear hx1
                                      try clear c2
                                      try clear p2
                                      try clear q2
                                      try clear hx2
                                      try clear c3
                                      try clear c4
                                      try clear c4b0
                                      try clear c4b1
                                      try clear q4
                                      try clear c5
                                      try clear c5b0
                                      try clear c5b1
                                      try clear p5
                                      try clear q5
                                      try clear hx5
                                      try clear hf5
                                      try clear p6
                                      try clear c8
                                      try clear c8b0
                                      try clear c9
                                      try clear c10
                                      try clear c10b0
                                      try clear c11
                                      try clear c11b0
                                      try clear p12
                                      try clear q12
                                      try clear hx12
                                      try clear hf12
                                      try clear c15
                                      try clear c15b0
                                      try clear c15b1
                                      try clear c16
                                      try clear c16b0
                                      try clear c16b1
                                      try clear c18
                                      try clear c18b0
                                      try clear c19
                                      try clear c19b0
                                      try clear p23
                                      try clear q23
                                      try clear hx23
                                      try clear q26
                                      try clear c29
                                      try clear c29b0
                                      try clear c29b1
                                      try clear c30
                                      try clear c30b0
                                      try clear c30b1
                                      try clear c32
                                      try clear c34
                                      try clear c35
                                      try clear c35b0
                                      try clear c36
                                      try clear c36b0
                                      try clear q41
                                      try clear c47
                                      try clear c48
                                      try clear c48b0
                                      try clear c50
                                      try clear c50b0
                                      try clear c51
                                      try clear c51b0
                                      try clear c52
                                      try clear c52b0
                                      try clear c52b1
                                      try clear c53
                                      try clear c53b0
                                      try clear c54
                                      try clear c54b0
                                      try clear c55
                                      try clear p55
                                      try clear q55
                                      try clear hx55
                                      try clear hf55
                                      try clear c57
                                      try clear hx57
                                      try clear hf57
                                      try clear c59
                                      try clear hx12_0
                                      try clear hx236_0
                                      try clear hx55_0
                                      try clear hx55_1
                                      try clear hx55_2
                                      try clear hx57_0
                                      try clear hx57_1
                                      try clear hx57_2
                                      try clear p1
                                      try clear p12
                                      try clear p2
                                      try clear p23
                                      try clear p236
                                      try clear p55
                                      try clear p6
                                      try clear q1
                                      try clear q12
                                      try clear q2
                                      try clear q23
                                      try clear q236
                                      try clear q26
                                      try clear q4
                                      try clear q41
                                      try clear q55
                                      obtain ⟨x18_5, x19_5, rfl, HA, HK5, HO_5, HO_7, HO_10, HO_13, HO_18, HSH, HB⟩ := hrel
                                      cases gk with
                                      | zero => exact absurd HA.out (by simp [payofflaw11_CodeDecodes.l3])
                                      | succ k5 =>
                                        have H := HA.out
                                        clear HA
                                        simp only [payofflaw11_CodeDecodes.l3] at H
                                        by_cases c64 : x19_5 < 70
                                        · rw [if_pos c64] at H
                                          have c64b0 : decide (x19_5 < 70) = true := decide_eq_true c64
                                          clear c64
                                          by_cases c65 : x18_5.length < 5864062014805
                                          · rw [if_pos c65] at H
                                            have LMc65 := Aside0.mk c65
                                            clear c65
                                            obtain ⟨y244, hy244⟩ : ∃ y_ : List (S27), y_ = (x18_5 ++ [(⟨78, 0, 0⟩ : S27)]) := ⟨_, rfl⟩
                                            replace H : (payofflaw11_CodeDecodes.l3 k5 l0 a1 x5_1 x7_4 t219 t224 t226 y244 (wrap64 (x19_5 + 1))) = some r := by first | (rw [hy244]; with_reducible exact H) | (have H2_ := (Option.bind_some _ _).symm.trans H; rw [hy244]; with_reducible exact H2_) | (have H2_ := (Option.bind_some _ _).symm.trans H; with_reducible exact H2_) | with_reducible exact H | (rw [hy244]; exact H) | exact H
                                            have Ny244 := Aside0.mk hy244
                                            clear hy244
                                            have H' := Aside0.mk H
                                            clear H
                                            go_wp2_with (first | ((with_reducible refine gate_builtin (b := .append) (xs := #[.tmp 134, .tmp 136]) rfl ?_); (try (refine gate_guard (by rfl) ?_; dsimp only)); at_builtin; refine R_append_went (w0 := w) w.heap.size rfl (.tmp 134) (.tmp 136) 37 27 (.agg #[(.int .i64 0), (.int .i64 0), (.int .i64 0)]) 24 rfl Tryd.underlying37 info27 rfl (by omega) u18 x18_5 (⟨78, 0, 0⟩ : S27) (fun k_ => True ∧ some k_ ≠ (v222 : Value).ownBlock ∧ some k_ ≠ (v227 : Value).ownBlock) rfl rfl ?aF ?aO ?aB ?aS ?aL ?_; (case aB => exact (by repeat (first | (with_reducible first | exact HB.out | apply below_alloc | apply pw_below_drewN | apply below_drew1) | exact HB.out))); (case aF => exact (fun k_ hk => ⟨trivial, Kd.fresh' (Kd.R_lt (by (with_reducible repeat (first | apply Kd.R_alloc | apply Kd.R_drewN | apply Kd.R_drew)); exact HO_10.out)) k_ hk, Kd.fresh' (Kd.R_lt (by (with_reducible repeat (first | apply Kd.R_alloc | apply Kd.R_drewN | apply Kd.R_drew)); exact HO_13.out)) k_ hk⟩)); (case aO => exact (by (with_reducible repeat (first | apply Kd.R_alloc | apply Kd.R_drewN | apply Kd.R_drew)); exact HO_18.out)); (case aS => exact (below_size (by repeat (first | (with_reducible first | exact HB.out | apply below_alloc | apply pw_below_drewN | apply below_drew1) | exact HB.out)))); (case aL => have := LMc65.out; omega); intro v245 w66 ho hb hg hat hwent; obtain ⟨hsh1_, hsh2_⟩ := Sh.append (by (with_reducible repeat (first | apply Kd.R_alloc | apply Kd.R_drewN | apply Kd.R_drew)); exact HO_7.out) HSH.out ho hg hat hwent; rw [← Ny244.out] at ho hsh2_; clear hwent; have n0_ := Aside0.mk (Kd.R_over' (by (with_reducible repeat (first | apply Kd.R_alloc | apply Kd.R_drewN | apply Kd.R_drew)); exact HO_5.out) (Kd.R_typed (by (with_reducible repeat (first | apply Kd.R_alloc | apply Kd.R_drewN | apply Kd.R_drew)); exact HO_18.out)) (by decide) hg); have n1_ := Aside0.mk hsh1_; have n20_ := Aside0.mk hsh2_; clear hsh1_ hsh2_ HSH; have n2_ := Aside0.mk (Kd.R_after (ok := (fun k_ => some k_ ≠ (.slice Ao60 x7_4.length co60 : Value).ownBlock ∧ some k_ ≠ (v227 : Value).ownBlock)) (by (with_reducible repeat (first | apply Kd.R_alloc | apply Kd.R_drewN | apply Kd.R_drew)); exact Kd.R_mono HO_10.out (fun _ hk => ⟨⟨hk.1, hk.2.1⟩, hk.2.2⟩)) hg hat); have n3_ := Aside0.mk (Kd.R_after (ok := (fun k_ => some k_ ≠ (.slice Ao60 x7_4.length co60 : Value).ownBlock ∧ some k_ ≠ (v222 : Value).ownBlock)) (by (with_reducible repeat (first | apply Kd.R_alloc | apply Kd.R_drewN | apply Kd.R_drew)); exact Kd.R_mono HO_13.out (fun _ hk => ⟨⟨hk.1, hk.2.1⟩, hk.2.2⟩)) hg hat); have n4_ := Aside0.mk (hb); have n7_ := Aside0.mk (ho); clear HO_5; clear HO_7; clear HO_10; clear HO_13; clear HB; clear HO_18; have HO_5 := n0_; have HO_7 := n1_; have HO_10 := n2_; have HO_13 := n3_; have HB := n4_; have HO246 := n7_; have HSH := n20_; clear n20_; clear n0_ n1_ n2_ n3_ n4_ n7_; clear ho hb hg hat))
                                            go_roundg k5
                                            case measure => have := HK1.out; have := HJ21.out; have := HK3.out; have := HK4.out; have := HK5.out; omega
                                            case rel => exact ⟨(y244), (wrap64 (x19_5 + 1)), (by first | rfl | (simp; done) | (simp [*]; done)), H', ⟨by have := HK1.out; have := HJ21.out; have := HK3.out; have := HK4.out; have := HK5.out; omega⟩, ⟨by (with_reducible repeat (first | apply Kd.R_alloc | apply Kd.R_drewN | apply Kd.R_drew)); exact HO_5.out⟩, ⟨by (with_reducible repeat (first | apply Kd.R_alloc | apply Kd.R_drewN | apply Kd.R_drew)); exact HO_7.out⟩, ⟨by (with_reducible repeat (first | apply Kd.R_alloc | apply Kd.R_drewN | apply Kd.R_drew)); exact Kd.R_mono HO_10.out (fun _ hk => ⟨hk.1.1, ⟨hk.1.2, hk.2⟩⟩)⟩, ⟨by (with_reducible repeat (first | apply Kd.R_alloc | apply Kd.R_drewN | apply Kd.R_drew)); exact Kd.R_mono HO_13.out (fun _ hk => ⟨hk.1.1, ⟨hk.1.2, hk.2⟩⟩)⟩, ⟨by (with_reducible repeat (first | apply Kd.R_alloc | apply Kd.R_drewN | apply Kd.R_drew)); exact HO246.out⟩, HSH, ⟨by repeat (first | (with_reducible first | exact HB.out | apply below_alloc | apply pw_below_drewN | apply below_drew1) | exact HB.out)⟩⟩
                                          · rw [if_neg c65] at H
                                            exact absurd H (by simp)
                                        · rw [if_neg c64] at H
                                          have c64b0 : decide (x19_5 < 70) = false := decide_eq_false c64
                                          clear c64
                                          by_cases c67 : 0 ≤ (l0.length : Int)
                                          · rw [if_pos c67] at H
                                            have c67b0 := eq_true c67
                                            have c67b1 : decide (0 ≤ (l0.length : Int)) = true := decide_eq_true c67
                                            clear c67
                                            by_cases c68 : (l0.length : Int) ≤ (x5_1.length : Int)
                                            · rw [if_pos c68] at H
                                              have c68b0 := eq_true c68
                                              have c68b1 : decide ((l0.length : Int) ≤ (x5_1.length : Int)) = true := decide_eq_true c68
                                              clear c68
                                              obtain ⟨y247, hy247⟩ : ∃ y_ : List Int, y_ = (x5_1.take ((l0.length : Int) : Int).toNat) := ⟨_, rfl⟩
                                              replace H : ((code_Decode.f k5 y247 a1).bind fun bt251 => (payofflaw11_CodeDecodes.l4 k5 l0 a1 x5_1 x7_4 t219 t224 t226 x18_5 bt251.1 bt251.2.2 0)) = some r := by first | (rw [hy247]; with_reducible exact H) | (have H2_ := (Option.bind_some _ _).symm.trans H; rw [hy247]; with_reducible exact H2_) | (have H2_ := (Option.bind_some _ _).symm.trans H; with_reducible exact H2_) | with_reducible exact H | (rw [hy247]; exact H) | exact H
                                              have Ny247 := Aside0.mk hy247
                                              clear hy247
                                              replace H := Option.bind_eq_some_iff.mp H
                                              obtain ⟨⟨t251, t252, t253⟩, A690, H⟩ := H
                                              replace H : (payofflaw11_CodeDecodes.l4 k5 l0 a1 x5_1 x7_4 t219 t224 t226 x18_5 t251 t253 0) = some r := H
                                              have A69 := Aside0.mk A690
                                              clear A690
                                              have H' := Aside0.mk H
                                              clear H
                                              have q70 : ((l0.length : Int) : Int) ≤ ((x5_1.length : Int) : Int) := of_decide_eq_true (by first | (with_reducible assumption) | assumption)
                                              obtain ⟨i070, hi070, _, hsz70, _⟩ := info_parts info5
                                              have hroom70 : x5_1.length ≤ co24 := (Kd.R_reads' HO_5.out).2.1
                                              have hC70 : Kd.C (Kd.int .u8) _ Ao24 x5_1.length x5_1 := (Kd.R_reads' HO_5.out).2.2
                                              (try clear hcut23); (try clear hcut26); (try clear hcut41); have hcut70 := cut_to (P := Tryd.prog) 38 5 .i64 Tryd.underlying38 hi070 Ao24 x5_1.length co24 (l0.length : Int) (of_decide_eq_true (by first | (with_reducible assumption) | assumption)) q70 hroom70
                                              have hr70 := Kd.C_take (m := ((l0.length : Int) : Int).toNat) hC70 (by omega)
                                              have hy70 : y247.length = ((l0.length : Int) : Int).toNat := (by rw [Ny247.out, List.length_take]; omega)
                                              rw [← Ny247.out] at hr70
                                              rw [← hy70] at hcut70
                                              have HR250 := Aside0.mk hr70
                                              have HC250 := Aside0.mk (show y247.length ≤ co24 from by omega)
                                              clear hr70 hC70 hroom70 hi070 hsz70
                                              have KY70 := Aside0.mk hy70
                                              clear hy70
                                              have KL70 := Aside0.mk (show ((l0.length : Int) : Int).toNat ≤ x5_1.length from by omega)
                                              replace q70 := eq_true q70
                                              go_wp2_with (first | ((with_reducible refine gate_callee (f := 29) rfl ?_); refine goesL_ (some 144) rfl rfl Tryd.func29 (by kernel_rfl) rfl #[.slice Ao24 y247.length co24, .int .i64 a1] rfl (by (try simp only [List.map_toArray, List.map_cons, List.map_nil]); first | done | rfl | (simp only [List.length_drop, List.length_take]; rfl)) ?_; (with_reducible refine (code_Decode.calls k5 _ _ y247 a1 t251 t252 t253 _ ?side1 ?side2 A69.out (Pure.G2.below HG.out (by repeat (first | (with_reducible first | exact HB.out | apply below_alloc | apply pw_below_drewN | apply below_drew1 | (refine below_set ?_ (by first | exact trivial )) ) | exact HB.out)))).mono ?_); (case side1 => repeat (first | exact (by repeat (first | (with_reducible exact HR250.out) | (with_reducible refine Kd.C_alloc ?_ _) | (with_reducible refine Kd.C_drewN ?_ _) | (with_reducible refine Kd.C_drew ?_) | exact HR250.out)) | (with_reducible refine Kd.C_alloc ?_ _) | (with_reducible refine Kd.C_drewN ?_ _) | (with_reducible refine Kd.C_drew ?_))); (case side2 => exact HC250.out); rintro e w71 ⟨v254, rfl, ho0, hb⟩; refine ⟨_, rfl, ?_⟩; have n0_ := Aside0.mk (Kd.R_below (by (with_reducible repeat (first | apply Kd.R_alloc | apply Kd.R_drewN | apply Kd.R_drew)); exact HO_5.out) hb); have n1_ := Aside0.mk (Kd.R_elder' (by (with_reducible repeat (first | apply Kd.R_alloc | apply Kd.R_drewN | apply Kd.R_drew)); exact HO_7.out) (Kd.R_base ho0) hb); have n2_ := Aside0.mk (Kd.R_elder' (by (with_reducible repeat (first | apply Kd.R_alloc | apply Kd.R_drewN | apply Kd.R_drew)); exact HO_10.out) (Kd.R_base ho0) hb); have n3_ := Aside0.mk (Kd.R_elder' (by (with_reducible repeat (first | apply Kd.R_alloc | apply Kd.R_drewN | apply Kd.R_drew)); exact HO_13.out) (Kd.R_base ho0) hb); have n4_ := Aside0.mk (Kd.R_elder' (by (with_reducible repeat (first | apply Kd.R_alloc | apply Kd.R_drewN | apply Kd.R_drew)); exact HO_18.out) (Kd.R_base ho0) hb); have n5_ := Aside0.mk (Kd.R_lower (Kd.R_new' (Kd.R_new' (Kd.R_new' (Kd.R_new' ho0 (Kd.R_lt (by (with_reducible repeat (first | apply Kd.R_alloc | apply Kd.R_drewN | apply Kd.R_drew)); exact HO_7.out))) (Kd.R_lt (by (with_reducible repeat (first | apply Kd.R_alloc | apply Kd.R_drewN | apply Kd.R_drew)); exact HO_10.out))) (Kd.R_lt (by (with_reducible repeat (first | apply Kd.R_alloc | apply Kd.R_drewN | apply Kd.R_drew)); exact HO_13.out))) (Kd.R_lt (by (with_reducible repeat (first | apply Kd.R_alloc | apply Kd.R_drewN | apply Kd.R_drew)); exact HO_18.out))) (below_size (by repeat (first | (with_reducible first | exact HB.out | apply below_alloc | apply pw_below_drewN | apply below_drew1) | exact HB.out)))); have n8_ := Aside0.mk (Kd.C_below (by repeat (first | (with_reducible exact HR250.out) | (with_reducible refine Kd.C_alloc ?_ _) | (with_reducible refine Kd.C_drewN ?_ _) | (with_reducible refine Kd.C_drew ?_) | exact HR250.out)) hb); have n9_ := Aside0.mk (below_step (by repeat (first | (with_reducible first | exact HB.out | apply below_alloc | apply pw_below_drewN | apply below_drew1) | exact HB.out)) hb); clear HO_5; clear HO_7; clear HO_10; clear HO_13; clear HO_18; clear HR250; clear HB; have HO_5 := n0_; have HO_7 := n1_; have HO_10 := n2_; have HO_13 := n3_; have HO_18 := n4_; have HO255 := n5_; have HR250 := n8_; have HB := n9_; clear n0_ n1_ n2_ n3_ n4_ n5_ n8_ n9_; (try clear hb); (try clear hb2); (try clear hk); (try clear hi); (try clear ho0)))
                                              go_loopg [23] k5 (fun kq v23 w' => ∃ (x23_6 : Int), v23 = .int .i64 x23_6 ∧ Aside0 (payofflaw11_CodeDecodes.l4 kq l0 a1 x5_1 x7_4 t219 t224 t226 x18_5 t251 t253 x23_6 = some r) ∧ Aside0 (kq ≤ k5) ∧ Aside0 (Kd.R (Kd.int .u8) 5 w' w.heap.size (fun _ => True) (.slice Ao24 x5_1.length co24) x5_1) ∧ Aside0 (Kd.R k27 27 w' w.heap.size (fun k_ => some k_ ≠ (v222 : Value).ownBlock ∧ some k_ ≠ (v227 : Value).ownBlock ∧ True ∧ some k_ ≠ (v254 : Value).ownBlock) (.slice Ao60 x7_4.length co60) x7_4) ∧ Aside0 (Kd.R k27 27 w' w.heap.size (fun k_ => some k_ ≠ ((.slice Ao60 x7_4.length co60) : Value).ownBlock ∧ some k_ ≠ (v227 : Value).ownBlock ∧ some k_ ≠ (u18 : Value).ownBlock ∧ some k_ ≠ (v254 : Value).ownBlock) v222 t219) ∧ Aside0 (Kd.R k27 27 w' w.heap.size (fun k_ => some k_ ≠ ((.slice Ao60 x7_4.length co60) : Value).ownBlock ∧ some k_ ≠ (v222 : Value).ownBlock ∧ some k_ ≠ (u18 : Value).ownBlock ∧ some k_ ≠ (v254 : Value).ownBlock) v227 t224) ∧ Aside0 (Kd.R k27 27 w' w.heap.size (fun k_ => True ∧ some k_ ≠ (v222 : Value).ownBlock ∧ some k_ ≠ (v227 : Value).ownBlock ∧ some k_ ≠ (v254 : Value).ownBlock) u18 x18_5) ∧ Aside0 (Kd.R k27 27 w' w.heap.size (fun k_ => some k_ ≠ ((.slice Ao60 x7_4.length co60) : Value).ownBlock ∧ some k_ ≠ (v222 : Value).ownBlock ∧ some k_ ≠ (v227 : Value).ownBlock ∧ some k_ ≠ (u18 : Value).ownBlock) v254 t251) ∧ Aside0 (Below w.heap.size w w'))
                                              case atStart => exact ⟨(0), (by first | rfl | (simp; done) | (simp [*]; done)), H', ⟨Nat.le_refl _⟩, ⟨by (with_reducible repeat (first | apply Kd.R_alloc | apply Kd.R_drewN | apply Kd.R_drew)); exact HO_5.out⟩, ⟨by (with_reducible repeat (first | apply Kd.R_alloc | apply Kd.R_drewN | apply Kd.R_drew)); exact Kd.R_mono HO_7.out (fun _ hk => ⟨hk.1.1, ⟨hk.1.2.1, ⟨hk.1.2.2, hk.2⟩⟩⟩)⟩, ⟨by (with_reducible repeat (first | apply Kd.R_alloc | apply Kd.R_drewN | apply Kd.R_drew)); exact Kd.R_mono HO_10.out (fun _ hk => ⟨hk.1.1, ⟨hk.1.2.1, ⟨hk.1.2.2, hk.2⟩⟩⟩)⟩, ⟨by (with_reducible repeat (first | apply Kd.R_alloc | apply Kd.R_drewN | apply Kd.R_drew)); exact Kd.R_mono HO_13.out (fun _ hk => ⟨hk.1.1, ⟨hk.1.2.1, ⟨hk.1.2.2, hk.2⟩⟩⟩)⟩, ⟨by (with_reducible repeat (first | apply Kd.R_alloc | apply Kd.R_drewN | apply Kd.R_drew)); exact Kd.R_mono HO_18.out (fun _ hk => ⟨hk.1.1, ⟨hk.1.2.1, ⟨hk.1.2.2, hk.2⟩⟩⟩)⟩, ⟨by (with_reducible repeat (first | apply Kd.R_alloc | apply Kd.R_drewN | apply Kd.R_drew)); exact Kd.R_mono HO255.out (fun _ hk => ⟨hk.1.1.1.2, ⟨hk.1.1.2, ⟨hk.1.2, hk.2⟩⟩⟩)⟩, ⟨by repeat (first | (with_reducible first | exact HB.out | apply below_alloc | apply pw_below_drewN | apply below_drew1) | exact HB.out)⟩⟩
                                              case round =>
                                                clear H'
                                                try clear c1
                                                try clear p1
                                                try clear q1
                                                try clear hx1
                                                try clear c2
                                                try clear p2
                                                try clear q2
                                                try clear hx2
                                                try clear c3
                                                try clear c4
                                                try clear c4b0
                                                try clear c4b1
                                                try clear q4
                                                try clear c5
                                                try clear c5b0
                                                try clear c5b1
                                                try clear p5
                                                try clear q5
                                                try clear hx5
                                                try clear hf5
                                                try clear c6
                                                try clear p6
                                                try clear q7
                                                try clear c8
                                                try clear c8b0
                                                try clear c9
                                                try clear c10
                                                try clear c10b0
                                                try clear c11
                                                try clear c11b0
                                                try clear p12
                                                try clear q12
                                                try clear hx12
                                                try clear hf12
                                                try clear c15
                                                try clear c15b0
                                                try clear c15b1
                                                try clear c16
                                                try clear c16b0
                                                try clear c16b1
                                                try clear c18
                                                try clear c18b0
                                                try clear c19
                                                try clear c19b0
                                                try clear p23
                                                try clear q23
                                                try clear hx23
                                                try clear q26
                                                try clear c29
                                                try clear c29b0
                                                try clear c29b1
                                                try clear c30
                                                try clear c30b0
                                                try clear c30b1
                                                try clear c32
                                                try clear c34
                                                try clear c35
                                                try clear c35b0
                                                try clear c36
                                                try clear c36b0
                                                try clear q41
                                                try clear c47
                                                try clear c48
                                                try clear c48b0
                                                try clear c50
                                                try clear c50b0
                                                try clear c51
                                                try clear c51b0
                                                try clear c52
                                                try clear c52b0
                                                try clear c52b1
                                                try clear c53
                                                try clear c53b0
                                                try clear c54
                                                try clear c54b0
                                                try clear c55
                                                try clear p55
                                                try clear q55
                                                try clear hx55
                                                try clear hf55
                                                try clear c57
                                                try clear hx57
                                                try clear hf57
                                                try clear c59
                                                try clear c64
                                                try clear c64b0
                                                try clear p64
                                                try clear c65
                                                try clear c67
                                                try clear c67b0
                                                try clear c67b1
                                                try clear c68
                                                try clear c68b0
                                                try clear c68b1
                                                try clear q70
                                                try clear hx12_0
                                                try clear hx236_0
                                                try clear hx55_0
                                                try clear hx55_1
                                                try clear hx55_2
                                                try clear hx57_0
                                                try clear hx57_1
                                                try clear hx57_2
                                                try clear p1
                                                try clear p12
                                                try clear p2
                                                try clear p23
                                                try clear p236
                                                try clear p5
                                                try clear p55
                                                try clear p6
                                                try clear q1
                                                try clear q12
                                                try clear q2
                                                try clear q23
                                                try clear q236
                                                try clear q26
                                                try clear q4
                                                try clear q41
                                                try clear q5
                                                try clear q55
                                                try clear q70
                                                obtain ⟨x23_6, rfl, HA, HK6, HO_5, HO_7, HO_10, HO_13, HO_18, HO_20, HB⟩ := hrel
                                                cases gk with
                                                | zero => exact absurd HA.out (by simp [payofflaw11_CodeDecodes.l4])
                                                | succ k6 =>
                                                  have H := HA.out
                                                  clear HA
                                                  simp only [payofflaw11_CodeDecodes.l4] at H
                                                  by_cases c72 : x23_6 < (x18_5.length : Int)
                                                  · rw [if_pos c72] at H
                                                    have c72b0 : decide (x23_6 < (x18_5.length : Int)) = true := decide_eq_true c72
                                                    clear c72
                                                    by_cases c73 : x23_6 < (x7_4.length : Int)
                                                    · rw [if_pos c73] at H
                                                      have c73b0 : decide (x23_6 < (x7_4.length : Int)) = true := decide_eq_true c73
                                                      clear c73
                                                      by_cases c74 : 0 ≤ x23_6
                                                      · rw [if_pos c74] at H
                                                        have c74b0 : decide (0 ≤ x23_6) = true := decide_eq_true c74
                                                        clear c74
                                                        by_cases c75 : ((rd_T27 x7_4 x23_6).f0) = 77
                                                        · rw [if_pos c75] at H
                                                          have c75b0 : (((rd_T27 x7_4 x23_6).f0) == 77) = true := beq_iff_eq.mpr c75
                                                          have c75b1 : (((rd_T27 x7_4 x23_6).f0) != 77) = false := bne_eq_false_iff_eq.mpr c75
                                                          clear c75
                                                          by_cases c76 : ((rd_T27 x18_5 x23_6).f0) = 77
                                                          · rw [if_pos c76] at H
                                                            have c76b0 : (((rd_T27 x18_5 x23_6).f0) == 77) = true := beq_iff_eq.mpr c76
                                                            have c76b1 : (((rd_T27 x18_5 x23_6).f0) != 77) = false := bne_eq_false_iff_eq.mpr c76
                                                            clear c76
                                                            by_cases c77 : x23_6 ≥ (x7_4.length : Int)
                                                            · rw [if_pos c77] at H
                                                              have c77b0 : decide ((x7_4.length : Int) ≤ x23_6) = true := decide_eq_true c77
                                                              clear c77
                                                              by_cases c78 : ((rd_T27 x18_5 x23_6).f0) = 78
                                                              · rw [if_pos c78] at H
                                                                have c78b0 : (((rd_T27 x18_5 x23_6).f0) == 78) = true := beq_iff_eq.mpr c78
                                                                have c78b1 : (((rd_T27 x18_5 x23_6).f0) != 78) = false := bne_eq_false_iff_eq.mpr c78
                                                                clear c78
                                                                have H' := Aside0.mk H
                                                                clear H
                                                                obtain ⟨Ao79, co79, eo79⟩ := Kd.R_slice HO_18.out
                                                                subst eo79
                                                                have p256 : 0 ≤ (x23_6 : Int) := of_decide_eq_true (by first | (with_reducible assumption) | assumption)
                                                                have q256 : x23_6 < (x7_4.length : Int) := of_decide_eq_true (by first | (with_reducible assumption) | assumption)
                                                                obtain ⟨ad256, e256, hx256_0, hx256_1, hx256_2⟩ := at_T27 (Kd.R_reads' HO_7.out).2.2 x23_6 p256 q256
                                                                cases e256
                                                                replace p256 := eq_true p256
                                                                replace q256 := eq_true q256
                                                                have p257 : 0 ≤ (x23_6 : Int) := of_decide_eq_true (by first | (with_reducible assumption) | assumption)
                                                                have q257 : x23_6 < (x18_5.length : Int) := of_decide_eq_true (by first | (with_reducible assumption) | assumption)
                                                                obtain ⟨ad257, e257, hx257_0, hx257_1, hx257_2⟩ := at_T27 (Kd.R_reads' HO_18.out).2.2 x23_6 p257 q257
                                                                cases e257
                                                                replace p257 := eq_true p257
                                                                replace q257 := eq_true q257
                                                                have p258 : 0 ≤ (x23_6 : Int) := of_decide_eq_true (by first | (with_reducible assumption) | assumption)
                                                                have q258 : x23_6 < (x18_5.length : Int) := of_decide_eq_true (by first | (with_reducible assumption) | assumption)
                                                                obtain ⟨ad258, e258, hx258_0, hx258_1, hx258_2⟩ := at_T27 (Kd.R_reads' HO_18.out).2.2 x23_6 p258 q258
                                                                obtain rfl : ad257 = ad258 := (by injection e258)
                                                                replace p258 := eq_true p258
                                                                replace q258 := eq_true q258
                                                                go_wp2
                                                                go_roundg k6
                                                                case measure => have := HK1.out; have := HJ21.out; have := HK3.out; have := HK4.out; have := HK5.out; have := HK6.out; omega
                                                                case rel => exact ⟨(wrap64 (x23_6 + 1)), (by first | rfl | (simp; done) | (simp [*]; done)), H', ⟨by have := HK1.out; have := HJ21.out; have := HK3.out; have := HK4.out; have := HK5.out; have := HK6.out; omega⟩, ⟨by (with_reducible repeat (first | apply Kd.R_alloc | apply Kd.R_drewN | apply Kd.R_drew)); exact HO_5.out⟩, ⟨by (with_reducible repeat (first | apply Kd.R_alloc | apply Kd.R_drewN | apply Kd.R_drew)); exact HO_7.out⟩, ⟨by (with_reducible repeat (first | apply Kd.R_alloc | apply Kd.R_drewN | apply Kd.R_drew)); exact HO_10.out⟩, ⟨by (with_reducible repeat (first | apply Kd.R_alloc | apply Kd.R_drewN | apply Kd.R_drew)); exact HO_13.out⟩, ⟨by (with_reducible repeat (first | apply Kd.R_alloc | apply Kd.R_drewN | apply Kd.R_drew)); exact HO_18.out⟩, ⟨by (with_reducible repeat (first | apply Kd.R_alloc | apply Kd.R_drewN | apply Kd.R_drew)); exact HO_20.out⟩, ⟨by repeat (first | (with_reducible first | exact HB.out | apply below_alloc | apply pw_below_drewN | apply below_drew1) | exact HB.out)⟩⟩
                                                              · rw [if_neg c78] at H
                                                                exact absurd H (by simp)
                                                            · rw [if_neg c77] at H
                                                              have c77b0 : decide ((x7_4.length : Int) ≤ x23_6) = false := decide_eq_false c77
                                                              clear c77
                                                              have H' := Aside0.mk H
                                                              clear H
                                                              obtain ⟨Ao81, co81, eo81⟩ := Kd.R_slice HO_18.out
                                                              subst eo81
                                                              have p256 : 0 ≤ (x23_6 : Int) := of_decide_eq_true (by first | (with_reducible assumption) | assumption)
                                                              have q256 : x23_6 < (x7_4.length : Int) := of_decide_eq_true (by first | (with_reducible assumption) | assumption)
                                                              obtain ⟨ad256, e256, hx256_0, hx256_1, hx256_2⟩ := at_T27 (Kd.R_reads' HO_7.out).2.2 x23_6 p256 q256
                                                              cases e256
                                                              replace p256 := eq_true p256
                                                              replace q256 := eq_true q256
                                                              have p257 : 0 ≤ (x23_6 : Int) := of_decide_eq_true (by first | (with_reducible assumption) | assumption)
                                                              have q257 : x23_6 < (x18_5.length : Int) := of_decide_eq_true (by first | (with_reducible assumption) | assumption)
                                                              obtain ⟨ad257, e257, hx257_0, hx257_1, hx257_2⟩ := at_T27 (Kd.R_reads' HO_18.out).2.2 x23_6 p257 q257
                                                              cases e257
                                                              replace p257 := eq_true p257
                                                              replace q257 := eq_true q257
                                                              go_wp2
                                                              go_roundg k6
                                                              case measure => have := HK1.out; have := HJ21.out; have := HK3.out; have := HK4.out; have := HK5.out; have := HK6.out; omega
                                                              case rel => exact ⟨(wrap64 (x23_6 + 1)), (by first | rfl | (simp; done) | (simp [*]; done)), H', ⟨by have := HK1.out; have := HJ21.out; have := HK3.out; have := HK4.out; have := HK5.out; have := HK6.out; omega⟩, ⟨by (with_reducible repeat (first | apply Kd.R_alloc | apply Kd.R_drewN | apply Kd.R_drew)); exact HO_5.out⟩, ⟨by (with_reducible repeat (first | apply Kd.R_alloc | apply Kd.R_drewN | apply Kd.R_drew)); exact HO_7.out⟩, ⟨by (with_reducible repeat (first | apply Kd.R_alloc | apply Kd.R_drewN | apply Kd.R_drew)); exact HO_10.out⟩, ⟨by (with_reducible repeat (first | apply Kd.R_alloc | apply Kd.R_drewN | apply Kd.R_drew)); exact HO_13.out⟩, ⟨by (with_reducible repeat (first | apply Kd.R_alloc | apply Kd.R_drewN | apply Kd.R_drew)); exact HO_18.out⟩, ⟨by (with_reducible repeat (first | apply Kd.R_alloc | apply Kd.R_drewN | apply Kd.R_drew)); exact HO_20.out⟩, ⟨by repeat (first | (with_reducible first | exact HB.out | apply below_alloc | apply pw_below_drewN | apply below_drew1) | exact HB.out)⟩⟩
                                                          · rw [if_neg c76] at H
                                                            exact absurd H (by simp)
                                                        · rw [if_neg c75] at H
                                                          exact absurd H (by simp)
                                                      · rw [if_neg c74] at H
                                                        exact absurd H (by simp)
                                                    · rw [if_neg c73] at H
                                                      have c73b0 : decide (x23_6 < (x7_4.length : Int)) = false := decide_eq_false c73
                                                      clear c73
                                                      by_cases c84 : x23_6 ≥ (x7_4.length : Int)
                                                      · rw [if_pos c84] at H
                                                        have c84b0 : decide ((x7_4.length : Int) ≤ x23_6) = true := decide_eq_true c84
                                                        clear c84
                                                        by_cases c85 : 0 ≤ x23_6
                                                        · rw [if_pos c85] at H
                                                          have c85b0 : decide (0 ≤ x23_6) = true := decide_eq_true c85
                                                          clear c85
                                                          by_cases c86 : ((rd_T27 x18_5 x23_6).f0) = 78
                                                          · rw [if_pos c86] at H
                                                            have c86b0 : (((rd_T27 x18_5 x23_6).f0) == 78) = true := beq_iff_eq.mpr c86
                                                            have c86b1 : (((rd_T27 x18_5 x23_6).f0) != 78) = false := bne_eq_false_iff_eq.mpr c86
                                                            clear c86
                                                            have H' := Aside0.mk H
                                                            clear H
                                                            obtain ⟨Ao87, co87, eo87⟩ := Kd.R_slice HO_18.out
                                                            subst eo87
                                                            have p259 : 0 ≤ (x23_6 : Int) := of_decide_eq_true (by first | (with_reducible assumption) | assumption)
                                                            have q259 : x23_6 < (x18_5.length : Int) := of_decide_eq_true (by first | (with_reducible assumption) | assumption)
                                                            obtain ⟨ad259, e259, hx259_0, hx259_1, hx259_2⟩ := at_T27 (Kd.R_reads' HO_18.out).2.2 x23_6 p259 q259
                                                            cases e259
                                                            replace p259 := eq_true p259
                                                            replace q259 := eq_true q259
                                                            go_wp2
                                                            go_roundg k6
                                                            case measure => have := HK1.out; have := HJ21.out; have := HK3.out; have := HK4.out; have := HK5.out; have := HK6.out; omega
                                                            case rel => exact ⟨(wrap64 (x23_6 + 1)), (by first | rfl | (simp; done) | (simp [*]; done)), H', ⟨by have := HK1.out; have := HJ21.out; have := HK3.out; have := HK4.out; have := HK5.out; have := HK6.out; omega⟩, ⟨by (with_reducible repeat (first | apply Kd.R_alloc | apply Kd.R_drewN | apply Kd.R_drew)); exact HO_5.out⟩, ⟨by (with_reducible repeat (first | apply Kd.R_alloc | apply Kd.R_drewN | apply Kd.R_drew)); exact HO_7.out⟩, ⟨by (with_reducible repeat (first | apply Kd.R_alloc | apply Kd.R_drewN | apply Kd.R_drew)); exact HO_10.out⟩, ⟨by (with_reducible repeat (first | apply Kd.R_alloc | apply Kd.R_drewN | apply Kd.R_drew)); exact HO_13.out⟩, ⟨by (with_reducible repeat (first | apply Kd.R_alloc | apply Kd.R_drewN | apply Kd.R_drew)); exact HO_18.out⟩, ⟨by (with_reducible repeat (first | apply Kd.R_alloc | apply Kd.R_drewN | apply Kd.R_drew)); exact HO_20.out⟩, ⟨by repeat (first | (with_reducible first | exact HB.out | apply below_alloc | apply pw_below_drewN | apply below_drew1) | exact HB.out)⟩⟩
                                                          · rw [if_neg c86] at H
                                                            exact absurd H (by simp)
                                                        · rw [if_neg c85] at H
                                                          exact absurd H (by simp)
                                                      · rw [if_neg c84] at H
                                                        have c84b0 : decide ((x7_4.length : Int) ≤ x23_6) = false := decide_eq_false c84
                                                        clear c84
                                                        have H' := Aside0.mk H
                                                        clear H
                                                        obtain ⟨Ao89, co89, eo89⟩ := Kd.R_slice HO_18.out
                                                        subst eo89
                                                        go_wp2
                                                        go_roundg k6
                                                        case measure => have := HK1.out; have := HJ21.out; have := HK3.out; have := HK4.out; have := HK5.out; have := HK6.out; omega
                                                        case rel => exact ⟨(wrap64 (x23_6 + 1)), (by first | rfl | (simp; done) | (simp [*]; done)), H', ⟨by have := HK1.out; have := HJ21.out; have := HK3.out; have := HK4.out; have := HK5.out; have := HK6.out; omega⟩, ⟨by (with_reducible repeat (first | apply Kd.R_alloc | apply Kd.R_drewN | apply Kd.R_drew)); exact HO_5.out⟩, ⟨by (with_reducible repeat (first | apply Kd.R_alloc | apply Kd.R_drewN | apply Kd.R_drew)); exact HO_7.out⟩, ⟨by (with_reducible repeat (first | apply Kd.R_alloc | apply Kd.R_drewN | apply Kd.R_drew)); exact HO_10.out⟩, ⟨by (with_reducible repeat (first | apply Kd.R_alloc | apply Kd.R_drewN | apply Kd.R_drew)); exact HO_13.out⟩, ⟨by (with_reducible repeat (first | apply Kd.R_alloc | apply Kd.R_drewN | apply Kd.R_drew)); exact HO_18.out⟩, ⟨by (with_reducible repeat (first | apply Kd.R_alloc | apply Kd.R_drewN | apply Kd.R_drew)); exact HO_20.out⟩, ⟨by repeat (first | (with_reducible first | exact HB.out | apply below_alloc | apply pw_below_drewN | apply below_drew1) | exact HB.out)⟩⟩
                                                  · rw [if_neg c72] at H
                                                    have c72b0 : decide (x23_6 < (x18_5.length : Int)) = false := decide_eq_false c72
                                                    clear c72
                                                    have HC90 := Aside0.mk H
                                                    clear H
                                                    obtain ⟨Ao91, co91, eo91⟩ := Kd.R_slice HO_18.out
                                                    subst eo91
                                                    go_upto_region 32 with (fail)
                                                    go_cut [202] (fun vb202 wc => ∃ (kq : Nat) (x202_89 : Bool), vb202 = .bool x202_89 ∧ Aside0 (payofflaw11_CodeDecodes.j6 kq l0 a1 x5_1 t219 t224 x202_89 = some r) ∧ Aside0 (kq ≤ k6) ∧ Aside0 (Kd.R (Kd.int .u8) 5 wc w.heap.size (fun _ => True) (.slice Ao24 x5_1.length co24) x5_1) ∧ Aside0 (Kd.R k27 27 wc w.heap.size (fun k_ => some k_ ≠ (v227 : Value).ownBlock) v222 t219) ∧ Aside0 (Kd.R k27 27 wc w.heap.size (fun k_ => some k_ ≠ (v222 : Value).ownBlock) v227 t224) ∧ Aside0 (Below w.heap.size w wc))
                                                    case first => as_aux_lemma =>
                                                      have H := HC90.out
                                                      clear HC90
                                                      by_cases c92 : t253 = t226
                                                      · rw [if_pos c92] at H
                                                        have c92b0 : (t253 == t226) = true := beq_iff_eq.mpr c92
                                                        have c92b1 : (t253 != t226) = false := bne_eq_false_iff_eq.mpr c92
                                                        clear c92
                                                        (first | rw [c92b0] | (simp only [i64_w, i32_w]; rw [c92b0]) | skip)
                                                        replace H := Option.bind_eq_some_iff.mp H
                                                        obtain ⟨t260, A930, H⟩ := H
                                                        replace H : (if t260 = true then ((payofflaw11_sameCode.f k6 t219 t224).bind fun t261 => (payofflaw11_CodeDecodes.j6 k6 l0 a1 x5_1 t219 t224 (!t261))) else (payofflaw11_CodeDecodes.j6 k6 l0 a1 x5_1 t219 t224 true)) = some r := H
                                                        have A93 := Aside0.mk A930
                                                        clear A930
                                                        by_cases c94 : t260 = true
                                                        · subst c94
                                                          have H1 : ((payofflaw11_sameCode.f k6 t219 t224).bind fun t261 => (payofflaw11_CodeDecodes.j6 k6 l0 a1 x5_1 t219 t224 (!t261))) = some r := by rw [if_pos rfl] at H; exact H
                                                          clear H
                                                          have H := H1
                                                          clear H1
                                                          replace H := Option.bind_eq_some_iff.mp H
                                                          obtain ⟨t261, A950, H⟩ := H
                                                          replace H : (payofflaw11_CodeDecodes.j6 k6 l0 a1 x5_1 t219 t224 (!t261)) = some r := H
                                                          have A95 := Aside0.mk A950
                                                          clear A950
                                                          have H' := Aside0.mk H
                                                          clear H
                                                          obtain ⟨Ao96, co96, eo96⟩ := Kd.R_slice HO_20.out
                                                          subst eo96
                                                          obtain ⟨Ao97, co97, eo97⟩ := Kd.R_slice HO_13.out
                                                          subst eo97
                                                          go_wp2_with (first | (go_at_call 27; (with_reducible refine (payofflaw11_sameCode.calls k6 _ _ t251 _ _ t224 true _ ?side1 ?side2 ?side3 ?side4 A93.out).mono ?_); (case side1 => repeat (first | exact (Kd.R_reads' HO_20.out).2.2 | (with_reducible refine Kd.C_alloc ?_ _) | (with_reducible refine Kd.C_drewN ?_ _) | (with_reducible refine Kd.C_drew ?_))); (case side2 => exact (Kd.R_reads' HO_20.out).2.1); (case side3 => repeat (first | exact (Kd.R_reads' HO_13.out).2.2 | (with_reducible refine Kd.C_alloc ?_ _) | (with_reducible refine Kd.C_drewN ?_ _) | (with_reducible refine Kd.C_drew ?_))); (case side4 => exact (Kd.R_reads' HO_13.out).2.1); rintro e w' ⟨rfl, ⟨nd, rfl⟩⟩; obtain ⟨Ao98, co98, eo98⟩ := Kd.R_slice HO_10.out; subst eo98) | (go_at_call 27; (with_reducible refine (payofflaw11_sameCode.calls k6 _ _ t219 _ _ t224 t261 _ ?side1 ?side2 ?side3 ?side4 A95.out).mono ?_); (case side1 => repeat (first | exact (Kd.R_reads' HO_10.out).2.2 | (with_reducible refine Kd.C_alloc ?_ _) | (with_reducible refine Kd.C_drewN ?_ _) | (with_reducible refine Kd.C_drew ?_))); (case side2 => exact (Kd.R_reads' HO_10.out).2.1); (case side3 => repeat (first | exact (Kd.R_reads' HO_13.out).2.2 | (with_reducible refine Kd.C_alloc ?_ _) | (with_reducible refine Kd.C_drewN ?_ _) | (with_reducible refine Kd.C_drew ?_))); (case side4 => exact (Kd.R_reads' HO_13.out).2.1); rintro e w' ⟨rfl, ⟨nd, rfl⟩⟩))
                                                          go_meet
                                                          case rel => exact ⟨_, (!t261), (by first | rfl | (simp; done) | (simp [*]; done)), H', ⟨by have := HK1.out; have := HJ21.out; have := HK3.out; have := HK4.out; have := HK5.out; have := HK6.out; first | omega | exact Nat.le_refl _⟩, ⟨by (with_reducible repeat (first | apply Kd.R_alloc | apply Kd.R_drewN | apply Kd.R_drew)); exact HO_5.out⟩, ⟨by (with_reducible repeat (first | apply Kd.R_alloc | apply Kd.R_drewN | apply Kd.R_drew)); exact Kd.R_mono HO_10.out (fun _ hk => hk.2.1)⟩, ⟨by (with_reducible repeat (first | apply Kd.R_alloc | apply Kd.R_drewN | apply Kd.R_drew)); exact Kd.R_mono HO_13.out (fun _ hk => hk.2.1)⟩, ⟨by repeat (first | (with_reducible first | exact HB.out | apply below_alloc | apply pw_below_drewN | apply below_drew1) | exact HB.out)⟩⟩
                                                        · replace c94 := Bool.eq_false_iff.mpr c94
                                                          subst c94
                                                          have H1 : (payofflaw11_CodeDecodes.j6 k6 l0 a1 x5_1 t219 t224 true) = some r := by rw [if_neg (show ¬ (false = true) by decide)] at H; exact H
                                                          clear H
                                                          have H := H1
                                                          clear H1
                                                          have H' := Aside0.mk H
                                                          clear H
                                                          obtain ⟨Ao99, co99, eo99⟩ := Kd.R_slice HO_20.out
                                                          subst eo99
                                                          obtain ⟨Ao100, co100, eo100⟩ := Kd.R_slice HO_13.out
                                                          subst eo100
                                                          go_wp2_with (first | (go_at_call 27; (with_reducible refine (payofflaw11_sameCode.calls k6 _ _ t251 _ _ t224 false _ ?side1 ?side2 ?side3 ?side4 A93.out).mono ?_); (case side1 => repeat (first | exact (Kd.R_reads' HO_20.out).2.2 | (with_reducible refine Kd.C_alloc ?_ _) | (with_reducible refine Kd.C_drewN ?_ _) | (with_reducible refine Kd.C_drew ?_))); (case side2 => exact (Kd.R_reads' HO_20.out).2.1); (case side3 => repeat (first | exact (Kd.R_reads' HO_13.out).2.2 | (with_reducible refine Kd.C_alloc ?_ _) | (with_reducible refine Kd.C_drewN ?_ _) | (with_reducible refine Kd.C_drew ?_))); (case side4 => exact (Kd.R_reads' HO_13.out).2.1); rintro e w' ⟨rfl, ⟨nd, rfl⟩⟩))
                                                          go_meet
                                                          case rel => exact ⟨_, (true), (by first | rfl | (simp; done) | (simp [*]; done)), H', ⟨by have := HK1.out; have := HJ21.out; have := HK3.out; have := HK4.out; have := HK5.out; have := HK6.out; first | omega | exact Nat.le_refl _⟩, ⟨by (with_reducible repeat (first | apply Kd.R_alloc | apply Kd.R_drewN | apply Kd.R_drew)); exact HO_5.out⟩, ⟨by (with_reducible repeat (first | apply Kd.R_alloc | apply Kd.R_drewN | apply Kd.R_drew)); exact Kd.R_mono HO_10.out (fun _ hk => hk.2.1)⟩, ⟨by (with_reducible repeat (first | apply Kd.R_alloc | apply Kd.R_drewN | apply Kd.R_drew)); exact Kd.R_mono HO_13.out (fun _ hk => hk.2.1)⟩, ⟨by repeat (first | (with_reducible first | exact HB.out | apply below_alloc | apply pw_below_drewN | apply below_drew1) | exact HB.out)⟩⟩
                                                      · rw [if_neg c92] at H
                                                        have c92b0 : (t253 == t226) = false := beq_eq_false_iff_ne.mpr c92
                                                        have c92b1 : (t253 != t226) = true := bne_iff_ne.mpr c92
                                                        (first | rw [c92b0] | (simp only [i64_w, i32_w]; rw [c92b0]) | skip)
                                                        have H' := Aside0.mk H
                                                        clear H
                                                        go_wp2
                                                        go_meet
                                                        case rel => exact ⟨_, (true), (by first | rfl | (simp; done) | (simp [*]; done)), H', ⟨by have := HK1.out; have := HJ21.out; have := HK3.out; have := HK4.out; have := HK5.out; have := HK6.out; first | omega | exact Nat.le_refl _⟩, ⟨by (with_reducible repeat (first | apply Kd.R_alloc | apply Kd.R_drewN | apply Kd.R_drew)); exact HO_5.out⟩, ⟨by (with_reducible repeat (first | apply Kd.R_alloc | apply Kd.R_drewN | apply Kd.R_drew)); exact Kd.R_mono HO_10.out (fun _ hk => hk.2.1)⟩, ⟨by (with_reducible repeat (first | apply Kd.R_alloc | apply Kd.R_drewN | apply Kd.R_drew)); exact Kd.R_mono HO_13.out (fun _ hk => hk.2.1)⟩, ⟨by repeat (first | (with_reducible first | exact HB.out | apply below_alloc | apply pw_below_drewN | apply below_drew1) | exact HB.out)⟩⟩
                                                    case rest => as_aux_lemma =>
                                                      clear HC90
                                                      try clear c1
                                                      try clear p1
                                                      try clear q1
                                                      try clear hx1
                                                      try clear c2
                                                      try clear p2
                                                      try clear q2
                                                      try clear hx2
                                                      try clear c3
                                                      try clear c4
                                                      try clear c4b0
                                                      try clear c4b1
                                                      try clear q4
                                                      try clear c5
                                                      try clear c5b0
                                                      try clear c5b1
                                                      try clear p5
                                                      try clear q5
                                                      try clear hx5
                                                      try clear hf5
                                                      try clear c6
                                                      try clear p6
                                                      try clear c7
                                                      try clear q7
                                                      try clear c8
                                                      try clear c8b0
                                                      try clear c9
                                                      try clear c10
                                                      try clear c10b0
                                                      try clear c11
                                                      try clear c11b0
                                                      try clear p12
                                                      try clear q12
                                                      try clear hx12
                                                      try clear hf12
                                                      try clear c15
                                                      try clear c15b0
                                                      try clear c15b1
                                                      try clear c16
                                                      try clear c16b0
                                                      try clear c16b1
                                                      try clear c18
                                                      try clear c18b0
                                                      try clear c19
                                                      try clear c19b0
                                                      try clear p23
                                                      try clear q23
                                                      try clear hx23
                                                      try clear p25
                                                      try clear q25
                                                      try clear hx25
                                                      try clear q26
                                                      try clear c29
                                                      try clear c29b0
                                                      try clear c29b1
                                                      try clear c30
                                                      try clear c30b0
                                                      try clear c30b1
                                                      try clear c32
                                                      try clear c34
                                                      try clear c35
                                                      try clear c35b0
                                                      try clear c36
                                                      try clear c36b0
                                                      try clear q41
                                                      try clear c47
                                                      try clear c48
                                                      try clear c48b0
                                                      try clear c50
                                                      try clear c50b0
                                                      try clear c51
                                                      try clear c51b0
                                                      try clear c52
                                                      try clear c52b0
                                                      try clear c52b1
                                                      try clear c53
                                                      try clear c53b0
                                                      try clear c54
                                                      try clear c54b0
                                                      try clear c55
                                                      try clear p55
                                                      try clear q55
                                                      try clear hx55
                                                      try clear hf55
                                                      try clear c57
                                                      try clear hx57
                                                      try clear hf57
                                                      try clear c59
                                                      try clear c64
                                                      try clear c64b0
                                                      try clear p64
                                                      try clear c65
                                                      try clear c67
                                                      try clear c67b0
                                                      try clear c67b1
                                                      try clear c68
                                                      try clear c68b0
                                                      try clear c68b1
                                                      try clear q70
                                                      try clear c72
                                                      try clear c72b0
                                                      try clear c73
                                                      try clear c73b0
                                                      try clear c74
                                                      try clear c74b0
                                                      try clear c75
                                                      try clear c75b0
                                                      try clear c75b1
                                                      try clear c76
                                                      try clear c76b0
                                                      try clear c76b1
                                                      try clear c77
                                                      try clear c77b0
                                                      try clear c78
                                                      try clear c78b0
                                                      try clear c78b1
                                                      try clear c84
                                                      try clear c84b0
                                                      try clear c85
                                                      try clear c85b0
                                                      try clear c86
                                                      try clear c86b0
                                                      try clear c86b1
                                                      try clear c92
                                                      try clear c92b0
                                                      try clear c92b1
                                                      try clear c94
                                                      try clear hx12_0
                                                      try clear hx236_0
                                                      try clear hx256_0
                                                      try clear hx256_1
                                                      try clear hx256_2
                                                      try clear hx257_0
                                                      try clear hx257_1
                                                      try clear hx257_2
                                                      try clear hx258_0
                                                      try clear hx258_1
                                                      try clear hx258_2
                                                      try clear hx259_0
                                                      try clear hx259_1
                                                      try clear hx259_2
                                                      try clear hx55_0
                                                      try clear hx55_1
                                                      try clear hx55_2
                                                      try clear hx57_0
                                                      try clear hx57_1
                                                      try clear hx57_2
                                                      try clear p1
                                                      try clear p12
                                                      try clear p2
                                                      try clear p23
                                                      try clear p236
                                                      try clear p256
                                                      try clear p257
                                                      try clear p258
                                                      try clear p259
                                                      try clear p5
                                                      try clear p55
                                                      try clear p6
                                                      try clear p64
                                                      try clear q1
                                                      try clear q12
                                                      try clear q2
                                                      try clear q23
                                                      try clear q236
                                                      try clear q256
                                                      try clear q257
                                                      try clear q258
                                                      try clear q259
                                                      try clear q26
                                                      try clear q4
                                                      try clear q41
                                                      try clear q5
                                                      try clear q55
                                                      try clear q7
                                                      try clear q70
                                                      obtain ⟨kq, x202_89, rfl, HA, HJ89, HO_5, HO_10, HO_13, HB⟩ := hcut
                                                      cases kq with
                                                      | zero => exact absurd HA.out (by simp [payofflaw11_CodeDecodes.j6])
                                                      | succ kj89 =>
                                                        have H := HA.out
                                                        clear HA
                                                        simp only [payofflaw11_CodeDecodes.j6] at H
                                                        by_cases c101 : x202_89 = true
                                                        · subst c101
                                                          have H1 : (none) = some r := by rw [if_pos rfl] at H; exact H
                                                          exact absurd H1 (by simp)
                                                        · replace c101 := Bool.eq_false_iff.mpr c101
                                                          subst c101
                                                          have H1 : ((some (([] : List Int) : List Int)).bind fun y262 => (if y262.length + l0.length < 140737488355328 then (payofflaw11_CodeDecodes.l5 kj89 l0 a1 x5_1 t219 t224 (y262 ++ l0) 0) else (none))) = some r := by rw [if_neg (show ¬ (false = true) by decide)] at H; exact H
                                                          clear H
                                                          have H := H1
                                                          clear H1
                                                          obtain ⟨y262, hy262⟩ : ∃ y_ : List Int, y_ = (([] : List Int)) := ⟨_, rfl⟩
                                                          replace H : (if y262.length + l0.length < 140737488355328 then (payofflaw11_CodeDecodes.l5 kj89 l0 a1 x5_1 t219 t224 (y262 ++ l0) 0) else (none)) = some r := by first | (rw [hy262]; with_reducible exact H) | (have H2_ := (Option.bind_some _ _).symm.trans H; rw [hy262]; with_reducible exact H2_) | (have H2_ := (Option.bind_some _ _).symm.trans H; with_reducible exact H2_) | with_reducible exact H | (rw [hy262]; exact H) | exact H
                                                          have Ny262 := Aside0.mk hy262
                                                          clear hy262
                                                          by_cases c102 : y262.length + l0.length < 140737488355328
                                                          · rw [if_pos c102] at H
                                                            have LMc102 := Aside0.mk c102
                                                            clear c102
                                                            obtain ⟨y265, hy265⟩ : ∃ y_ : List Int, y_ = (y262 ++ l0) := ⟨_, rfl⟩
                                                            replace H : (payofflaw11_CodeDecodes.l5 kj89 l0 a1 x5_1 t219 t224 y265 0) = some r := by first | (rw [hy265]; with_reducible exact H) | (have H2_ := (Option.bind_some _ _).symm.trans H; rw [hy265]; with_reducible exact H2_) | (have H2_ := (Option.bind_some _ _).symm.trans H; with_reducible exact H2_) | with_reducible exact H | (rw [hy265]; exact H) | exact H
                                                            have Ny265 := Aside0.mk hy265
                                                            clear hy265
                                                            have H' := Aside0.mk H
                                                            clear H
                                                            go_wp2_with (first | ((with_reducible refine gate_dst (N := 203) rfl ?_); (try (refine gate_guard (by rfl) ?_; dsimp only)); refine Kd.R_lit (Kd.int .u8) _ 5 ?hg (N := 203) ?hd (xs := ([] : List Int)) (inner := []) (ok := fun _ => True) (okp := fun _ => True) ?hr ?hp (fun _ hk => hk) trivial (Below.refl _ _) (Nat.le_refl _) (by simp) ?_; (case hd => rfl); (case hg => rfl); (case hr => first | (go_simp; done) | (go_simp; rfl)); (case hp => exact (Reps.none _ _)); intro v263 w103 ho104 hb hg_ hnew_; clear hg_ hnew_; (first | rw [← Ny262.out] at ho104 | (simp only [Int.reduceToNat] at ho104; rw [← Ny262.out] at ho104)); have n0_ := Aside0.mk (Kd.R_elder' (by (with_reducible repeat (first | apply Kd.R_alloc | apply Kd.R_drewN | apply Kd.R_drew)); exact HO_5.out) (Kd.R_base ho104) hb); have n1_ := Aside0.mk (Kd.R_below (by (with_reducible repeat (first | apply Kd.R_alloc | apply Kd.R_drewN | apply Kd.R_drew)); exact HO_10.out) hb); have n2_ := Aside0.mk (Kd.R_below (by (with_reducible repeat (first | apply Kd.R_alloc | apply Kd.R_drewN | apply Kd.R_drew)); exact HO_13.out) hb); have n3_ := Aside0.mk (Kd.R_lower (Kd.R_new' ho104 (Kd.R_lt (by (with_reducible repeat (first | apply Kd.R_alloc | apply Kd.R_drewN | apply Kd.R_drew)); exact HO_5.out))) (below_size (by repeat (first | (with_reducible first | exact HB.out | apply below_alloc | apply pw_below_drewN | apply below_drew1) | exact HB.out)))); have n7_ := Aside0.mk (below_step (by repeat (first | (with_reducible first | exact HB.out | apply below_alloc | apply pw_below_drewN | apply below_drew1) | exact HB.out)) hb); clear HO_5; clear HO_10; clear HO_13; clear HB; have HO_5 := n0_; have HO_10 := n1_; have HO_13 := n2_; have HO264 := n3_; have HB := n7_; clear n0_ n1_ n2_ n3_ n7_; clear hb ho104) | ((with_reducible refine gate_builtin (b := .append) (xs := #[.tmp 203, .tmp 204]) rfl ?_); (try (refine gate_guard (by rfl) ?_; dsimp only)); at_builtin; refine Kd.R_append_rows (Kd.int .u8) (w0 := w) w.heap.size rfl (.tmp 203) (.tmp 204) 38 5 (.int .u8 0) 1 rfl Tryd.underlying38 info5 rfl (by decide) (by omega) v263 y262 l0 _ _ _ (fun k_ => some k_ ≠ (.slice Ao24 x5_1.length co24 : Value).ownBlock) (fun _ => False) rfl rfl ?aO ?aR (fun _ _ h => h) (fun _ h => h.elim) ?aF ?aB ?aS ?aL ?_; (case aR => repeat (first | exact (Kd.C_below HR0.out HB.out) | (with_reducible refine Kd.C_alloc ?_ _) | (with_reducible refine Kd.C_drewN ?_ _) | (with_reducible refine Kd.C_drew ?_))); (case aB => exact (by repeat (first | (with_reducible first | exact HB.out | apply below_alloc | apply pw_below_drewN | apply below_drew1) | exact HB.out))); (case aF => exact (fun k_ hk => Kd.fresh' (Kd.R_lt (by (with_reducible repeat (first | apply Kd.R_alloc | apply Kd.R_drewN | apply Kd.R_drew)); exact HO_5.out)) k_ hk)); (case aO => exact (by (with_reducible repeat (first | apply Kd.R_alloc | apply Kd.R_drewN | apply Kd.R_drew)); exact Kd.R_mono HO264.out (fun _ hk => hk.2))); (case aS => exact (below_size (by repeat (first | (with_reducible first | exact HB.out | apply below_alloc | apply pw_below_drewN | apply below_drew1) | exact HB.out)))); (case aL => have := LMc102.out; omega); intro v266 w105 ho hb hg hat; rw [← Ny265.out] at ho; have n0_ := Aside0.mk (Kd.R_after (ok := (fun _ => True)) (by (with_reducible repeat (first | apply Kd.R_alloc | apply Kd.R_drewN | apply Kd.R_drew)); exact HO_5.out) hg hat); have n1_ := Aside0.mk (Kd.R_over' (by (with_reducible repeat (first | apply Kd.R_alloc | apply Kd.R_drewN | apply Kd.R_drew)); exact HO_10.out) (Kd.R_typed (by (with_reducible repeat (first | apply Kd.R_alloc | apply Kd.R_drewN | apply Kd.R_drew)); exact HO264.out)) (by decide) hg); have n2_ := Aside0.mk (Kd.R_over' (by (with_reducible repeat (first | apply Kd.R_alloc | apply Kd.R_drewN | apply Kd.R_drew)); exact HO_13.out) (Kd.R_typed (by (with_reducible repeat (first | apply Kd.R_alloc | apply Kd.R_drewN | apply Kd.R_drew)); exact HO264.out)) (by decide) hg); have n3_ := Aside0.mk (hb); have n7_ := Aside0.mk (ho); clear HO_5; clear HO_10; clear HO_13; clear HB; clear HO264; have HO_5 := n0_; have HO_10 := n1_; have HO_13 := n2_; have HB := n3_; have HO267 := n7_; clear n0_ n1_ n2_ n3_ n7_; clear ho hb hg hat))
                                                            go_loopg [25] kj89 (fun kq v25 w' => ∃ (x5_8 : List Int) (x24_8 : List Int) (x25_8 : Int), v25 = .int .i64 x25_8 ∧ Aside0 (payofflaw11_CodeDecodes.l5 kq l0 a1 x5_8 t219 t224 x24_8 x25_8 = some r) ∧ Aside0 (kq ≤ kj89) ∧ Aside0 (Kd.R (Kd.int .u8) 5 w' w.heap.size (fun k_ => some k_ ≠ (v266 : Value).ownBlock) (.slice Ao24 x5_1.length co24) x5_8) ∧ Aside0 (Kd.R k27 27 w' w.heap.size (fun k_ => some k_ ≠ (v227 : Value).ownBlock) v222 t219) ∧ Aside0 (Kd.R k27 27 w' w.heap.size (fun k_ => some k_ ≠ (v222 : Value).ownBlock) v227 t224) ∧ Aside0 (Kd.R (Kd.int .u8) 5 w' w.heap.size (fun k_ => some k_ ≠ ((.slice Ao24 x5_1.length co24) : Value).ownBlock) v266 x24_8) ∧ Aside0 (Below w.heap.size w w'))
                                                            case atStart => exact ⟨(x5_1), (y265), (0), (by first | rfl | (simp; done) | (simp [*]; done)), H', ⟨Nat.le_refl _⟩, ⟨by (with_reducible repeat (first | apply Kd.R_alloc | apply Kd.R_drewN | apply Kd.R_drew)); exact Kd.R_mono HO_5.out (fun _ hk => hk.2)⟩, ⟨by (with_reducible repeat (first | apply Kd.R_alloc | apply Kd.R_drewN | apply Kd.R_drew)); exact HO_10.out⟩, ⟨by (with_reducible repeat (first | apply Kd.R_alloc | apply Kd.R_drewN | apply Kd.R_drew)); exact HO_13.out⟩, ⟨by (with_reducible repeat (first | apply Kd.R_alloc | apply Kd.R_drewN | apply Kd.R_drew)); exact HO267.out⟩, ⟨by repeat (first | (with_reducible first | exact HB.out | apply below_alloc | apply pw_below_drewN | apply below_drew1) | exact HB.out)⟩⟩
                                                            case round =>
                                                              clear H'
                                                              try clear c1
                                                              try clear p1
                                                              try clear q1
                                                              try clear hx1
                                                              try clear c2
                                                              try clear p2
                                                              try clear q2
                                                              try clear hx2
                                                              try clear c3
                                                              try clear c4
                                                              try clear c4b0
                                                              try clear c4b1
                                                              try clear q4
                                                              try clear c5
                                                              try clear c5b0
                                                              try clear c5b1
                                                              try clear p5
                                                              try clear q5
                                                              try clear hx5
                                                              try clear hf5
                                                              try clear c6
                                                              try clear p6
                                                              try clear c7
                                                              try clear q7
                                                              try clear c8
                                                              try clear c8b0
                                                              try clear c9
                                                              try clear c10
                                                              try clear c10b0
                                                              try clear c11
                                                              try clear c11b0
                                                              try clear p12
                                                              try clear q12
                                                              try clear hx12
                                                              try clear hf12
                                                              try clear c15
                                                              try clear c15b0
                                                              try clear c15b1
                                                              try clear c16
                                                              try clear c16b0
                                                              try clear c16b1
                                                              try clear c18
                                                              try clear c18b0
                                                              try clear c19
                                                              try clear c19b0
                                                              try clear p23
                                                              try clear q23
                                                              try clear hx23
                                                              try clear p25
                                                              try clear q25
                                                              try clear hx25
                                                              try clear q26
                                                              try clear c29
                                                              try clear c29b0
                                                              try clear c29b1
                                                              try clear c30
                                                              try clear c30b0
                                                              try clear c30b1
                                                              try clear c32
                                                              try clear c34
                                                              try clear c35
                                                              try clear c35b0
                                                              try clear c36
                                                              try clear c36b0
                                                              try clear q41
                                                              try clear c47
                                                              try clear c48
                                                              try clear c48b0
                                                              try clear c50
                                                              try clear c50b0
                                                              try clear c51
                                                              try clear c51b0
                                                              try clear c52
                                                              try clear c52b0
                                                              try clear c52b1
                                                              try clear c53
                                                              try clear c53b0
                                                              try clear c54
                                                              try clear c54b0
                                                              try clear c55
                                                              try clear p55
                                                              try clear q55
                                                              try clear hx55
                                                              try clear hf55
                                                              try clear c57
                                                              try clear hx57
                                                              try clear hf57
                                                              try clear c59
                                                              try clear c64
                                                              try clear c64b0
                                                              try clear p64
                                                              try clear c65
                                                              try clear c67
                                                              try clear c67b0
                                                              try clear c67b1
                                                              try clear c68
                                                              try clear c68b0
                                                              try clear c68b1
                                                              try clear q70
                                                              try clear c72
                                                              try clear c72b0
                                                              try clear c73
                                                              try clear c73b0
                                                              try clear c74
                                                              try clear c74b0
                                                              try clear c75
                                                              try clear c75b0
                                                              try clear c75b1
                                                              try clear c76
                                                              try clear c76b0
                                                              try clear c76b1
                                                              try clear c77
                                                              try clear c77b0
                                                              try clear c78
                                                              try clear c78b0
                                                              try clear c78b1
                                                              try clear c84
                                                              try clear c84b0
                                                              try clear c85
                                                              try clear c85b0
                                                              try clear c86
                                                              try clear c86b0
                                                              try clear c86b1
                                                              try clear c92
                                                              try clear c92b0
                                                              try clear c92b1
                                                              try clear c94
                                                              try clear c101
                                                              try clear c102
                                                              try clear hx12_0
                                                              try clear hx236_0
                                                              try clear hx256_0
                                                              try clear hx256_1
                                                              try clear hx256_2
                                                              try clear hx257_0
                                                              try clear hx257_1
                                                              try clear hx257_2
                                                              try clear hx258_0
                                                              try clear hx258_1
                                                              try clear hx258_2
                                                              try clear hx259_0
                                                              try clear hx259_1
                                                              try clear hx259_2
                                                              try clear hx55_0
                                                              try clear hx55_1
                                                              try clear hx55_2
                                                              try clear hx57_0
                                                              try clear hx57_1
                                                              try clear hx57_2
                                                              try clear p1
                                                              try clear p12
                                                              try clear p2
                                                              try clear p23
                                                              try clear p236
                                                              try clear p25
                                                              try clear p256
                                                              try clear p257
                                                              try clear p258
                                                              try clear p259
                                                              try clear p5
                                                              try clear p55
                                                              try clear p6
                                                              try clear p64
                                                              try clear q1
                                                              try clear q12
                                                              try clear q2
                                                              try clear q23
                                                              try clear q236
                                                              try clear q25
                                                              try clear q256
                                                              try clear q257
                                                              try clear q258
                                                              try clear q259
                                                              try clear q26
                                                              try clear q4
                                                              try clear q41
                                                              try clear q5
                                                              try clear q55
                                                              try clear q7
                                                              try clear q70
                                                              obtain ⟨x5_8, x24_8, x25_8, rfl, HA, HK8, HO_5, HO_10, HO_13, HO_24, HB⟩ := hrel
                                                              have hl5_8 := (Kd.R_reads' HO_5.out).1
                                                              rw [hl5_8] at HO_5
                                                              (try simp only [hl5_8])
                                                              (try simp only [hl5_8] at HO_10)
                                                              (try simp only [hl5_8] at HO_13)
                                                              (try simp only [hl5_8] at HO_24)
                                                              cases gk with
                                                              | zero => exact absurd HA.out (by simp [payofflaw11_CodeDecodes.l5])
                                                              | succ k8 =>
                                                                have H := HA.out
                                                                clear HA
                                                                simp only [payofflaw11_CodeDecodes.l5] at H
                                                                by_cases c106 : x25_8 < (l0.length : Int)
                                                                · rw [if_pos c106] at H
                                                                  have c106b0 : decide (x25_8 < (l0.length : Int)) = true := decide_eq_true c106
                                                                  clear c106
                                                                  obtain ⟨ji107, hji107⟩ : ∃ j_ : Int, (wrap64 ((wrap64 ((l0.length : Int) - 1)) - x25_8)) = j_ := ⟨_, rfl⟩
                                                                  replace H : (if 0 ≤ (ji107) then (if (ji107) < (l0.length : Int) then (if 0 ≤ x25_8 then (if x25_8 < (x24_8.length : Int) then ((some (x24_8.set (x25_8 : Int).toNat (rd l0 (ji107)) : List Int)).bind fun y269 => (if x25_8 < (x5_8.length : Int) then (payofflaw11_CodeDecodes.l5 k8 l0 a1 (x5_8.set (x25_8 : Int).toNat (rd y269 x25_8)) t219 t224 y269 (wrap64 (x25_8 + 1))) else (none))) else (none)) else (none)) else (none)) else (none)) = some r := by first | (rw [hji107] at H; exact H) | (simp only [hji107] at H ⊢; exact H)
                                                                  have hji107w : (IntKind.i64.wrap ((wrap64 ((l0.length : Int) - 1)) - x25_8)) = ji107 := (i64_w _).trans hji107
                                                                  by_cases c108 : 0 ≤ (ji107)
                                                                  · rw [if_pos c108] at H
                                                                    have c108b0 : decide (0 ≤ (ji107)) = true := decide_eq_true c108
                                                                    clear c108
                                                                    by_cases c109 : (ji107) < (l0.length : Int)
                                                                    · rw [if_pos c109] at H
                                                                      have c109b0 : decide ((ji107) < (l0.length : Int)) = true := decide_eq_true c109
                                                                      clear c109
                                                                      by_cases c110 : 0 ≤ x25_8
                                                                      · rw [if_pos c110] at H
                                                                        have c110b0 : decide (0 ≤ x25_8) = true := decide_eq_true c110
                                                                        clear c110
                                                                        by_cases c111 : x25_8 < (x24_8.length : Int)
                                                                        · rw [if_pos c111] at H
                                                                          have c111b0 : decide (x25_8 < (x24_8.length : Int)) = true := decide_eq_true c111
                                                                          clear c111
                                                                          obtain ⟨y269, hy269⟩ : ∃ y_ : List Int, y_ = (x24_8.set (x25_8 : Int).toNat (rd l0 (ji107))) := ⟨_, rfl⟩
                                                                          replace H : (if x25_8 < (x5_8.length : Int) then (payofflaw11_CodeDecodes.l5 k8 l0 a1 (x5_8.set (x25_8 : Int).toNat (rd y269 x25_8)) t219 t224 y269 (wrap64 (x25_8 + 1))) else (none)) = some r := by first | (rw [hy269]; with_reducible exact H) | (have H2_ := (Option.bind_some _ _).symm.trans H; rw [hy269]; with_reducible exact H2_) | (have H2_ := (Option.bind_some _ _).symm.trans H; with_reducible exact H2_) | with_reducible exact H | (rw [hy269]; exact H) | exact H
                                                                          have Ny269 := Aside0.mk hy269
                                                                          clear hy269
                                                                          by_cases c113 : x25_8 < (x5_8.length : Int)
                                                                          · rw [if_pos c113] at H
                                                                            have c113b0 : decide (x25_8 < (x5_8.length : Int)) = true := decide_eq_true c113
                                                                            clear c113
                                                                            obtain ⟨y271, hy271⟩ : ∃ y_ : List Int, y_ = (x5_8.set (x25_8 : Int).toNat (rd y269 x25_8)) := ⟨_, rfl⟩
                                                                            replace H : (payofflaw11_CodeDecodes.l5 k8 l0 a1 y271 t219 t224 y269 (wrap64 (x25_8 + 1))) = some r := by first | (rw [hy271]; with_reducible exact H) | (have H2_ := (Option.bind_some _ _).symm.trans H; rw [hy271]; with_reducible exact H2_) | (have H2_ := (Option.bind_some _ _).symm.trans H; with_reducible exact H2_) | with_reducible exact H | (rw [hy271]; exact H) | exact H
                                                                            have Ny271 := Aside0.mk hy271
                                                                            clear hy271
                                                                            have H' := Aside0.mk H
                                                                            clear H
                                                                            have p268 : 0 ≤ ((ji107) : Int) := of_decide_eq_true (by first | (with_reducible assumption) | assumption)
                                                                            have q268 : (ji107) < (l0.length : Int) := of_decide_eq_true (by first | (with_reducible assumption) | assumption)
                                                                            obtain ⟨ad268, e268, hx268_0⟩ := Kd.at_int HR0.out (ji107) p268 q268
                                                                            cases e268
                                                                            replace hx268_0 := (HB.out.cell (World.block_lt_of_cell? w _ hx268_0)).trans hx268_0
                                                                            replace p268 := eq_true p268
                                                                            replace q268 := eq_true q268
                                                                            have p112 : 0 ≤ (x25_8 : Int) := of_decide_eq_true (by first | (with_reducible assumption) | assumption)
                                                                            have q112 : (x25_8 : Int) < ((x24_8.length : Int) : Int) := of_decide_eq_true (by first | (with_reducible assumption) | assumption)
                                                                            obtain ⟨go112, co112, eo112, gb112, gl112, cl112, HG112⟩ := Kd.R_form HO_24.out (by omega)
                                                                            (first | cases eo112 | (injection eo112 with ea_ en_ ec_; (first | subst ea_ | (injection ea_ with ea_; subst ea_)); subst ec_; clear en_))
                                                                            have GB112 := Aside0.mk gb112
                                                                            have GG112 := Aside0.mk HG112
                                                                            clear gb112 gl112 HG112
                                                                            obtain ⟨hx112_0, hf112_0⟩ := Kd.R_celln 0 HO_24.out (x25_8 : Int) p112 q112
                                                                            replace p112 := eq_true p112
                                                                            replace q112 := eq_true q112
                                                                            have HP115 := Kd.R_putg HO_24.out (x25_8 : Int) (rd l0 (ji107))
                                                                            go_wp2_with (first | ((with_reducible refine gate_store (t := 5) (p := 222) rfl ?_); refine store_event (t := 5) (p := 222) (v := ?vo_w116) (w1 := (wr.setCell ⟨go112, (x25_8 : Int).toNat, none⟩ (.int .u8 (rd l0 (ji107))))) ?hg ?ho ?hn ?hr ?_; (case ho => rfl); (case hg => rfl); (case hn => rfl); (case hr => first | (go_simp; done) | (go_simp; rfl)); intro w116 hw; have hg : wr.grownBy w116 (some go112) := (by rw [hw]; exact HP115.2); have hp_ : Kd.R (Kd.int .u8) 5 w116 w.heap.size (fun k_ => some k_ ≠ (.slice Ao24 x5_8.length co24 : Value).ownBlock) (.slice (some ⟨go112, 0, none⟩) x24_8.length co112) y269 := (by rw [hw, Ny269.out]; exact HP115.1); clear HP115; have n0_ := Aside0.mk (Kd.R_after (v := (.slice (some ⟨go112, 0, none⟩) x24_8.length co112)) (v1 := (.slice (some ⟨go112, 0, none⟩) x24_8.length co112)) (ok := (fun _ => True)) (by (with_reducible repeat (first | apply Kd.R_alloc | apply Kd.R_drewN | apply Kd.R_drew)); exact Kd.R_mono HO_5.out (fun _ hk => ⟨trivial, hk⟩)) hg (.inl rfl)); have n1_ := Aside0.mk (Kd.R_over' (v := (.slice (some ⟨go112, 0, none⟩) x24_8.length co112)) (by (with_reducible repeat (first | apply Kd.R_alloc | apply Kd.R_drewN | apply Kd.R_drew)); exact HO_10.out) (Kd.R_typed HO_24.out) (by decide) hg); have n2_ := Aside0.mk (Kd.R_over' (v := (.slice (some ⟨go112, 0, none⟩) x24_8.length co112)) (by (with_reducible repeat (first | apply Kd.R_alloc | apply Kd.R_drewN | apply Kd.R_drew)); exact HO_13.out) (Kd.R_typed HO_24.out) (by decide) hg); have n3_ := Aside0.mk (hp_); have n4_ := Aside0.mk ((by rw [hw]; exact below_set (HB.out) GB112.out : Below w.heap.size w w116)); clear HO_5; clear HO_10; clear HO_13; clear HO_24; clear HB; have HO_5 := n0_; have HO_10 := n1_; have HO_13 := n2_; have HO_24 := n3_; have HB := n4_; clear n0_ n1_ n2_ n3_ n4_; clear hg hw hp_; have p270 : 0 ≤ (x25_8 : Int) := of_decide_eq_true (by first | (with_reducible assumption) | assumption); have q270 : x25_8 < (y269.length : Int) := (by have h_ : (x25_8 : Int) < ((x24_8.length : Int) : Int) := of_decide_eq_true (by first | (with_reducible assumption) | assumption); first | (have e_ := (Kd.R_reads' HO_24.out).1; omega) | simpa only [Ny269.out, List.length_set] using h_); have ql270 : ((x25_8 : Int) < ((x24_8.length : Int) : Int)) = True := eq_true (of_decide_eq_true (by first | (with_reducible assumption) | assumption)); obtain ⟨ad270, e270, hx270_0⟩ := Kd.at_int (Kd.R_reads' HO_24.out).2.2 x25_8 p270 q270; obtain rfl : (⟨go112, 0, none⟩ : Addr) = ad270 := (by injection e270); (first | simp only [add_plain] at hx270_0 | simp only [add_at] at hx270_0 | simp only [Addr.add, Nat.zero_add] at hx270_0 | skip); replace p270 := eq_true p270; replace q270 := eq_true q270; have p114 : 0 ≤ (x25_8 : Int) := of_decide_eq_true (by first | (with_reducible assumption) | assumption); have q114 : (x25_8 : Int) < ((x5_8.length : Int) : Int) := of_decide_eq_true (by first | (with_reducible assumption) | assumption); obtain ⟨go114, co114, eo114, gb114, gl114, cl114, HG114⟩ := Kd.R_form HO_5.out (by omega); (first | cases eo114 | (injection eo114 with ea_ en_ ec_; (first | subst ea_ | (injection ea_ with ea_; subst ea_)); subst ec_; clear en_)); have GB114 := Aside0.mk gb114; have GG114 := Aside0.mk HG114; clear gb114 gl114 HG114; obtain ⟨hx114_0, hf114_0⟩ := Kd.R_celln 0 HO_5.out (x25_8 : Int) p114 q114; replace p114 := eq_true p114; replace q114 := eq_true q114; have n_ := Aside0.mk (Kd.R_mono (ok' := (fun k_ => some k_ ≠ (.slice (some ⟨go112, 0, none⟩) x24_8.length co112 : Value).ownBlock)) HO_5.out (fun k_ hk => hk.2)); clear HO_5; have HO_5 := n_; clear n_; obtain ⟨hy117_, hz117_⟩ := Kd.R_celln 0 HO_5.out (x25_8 : Int) (of_decide_eq_true (by first | (with_reducible assumption) | assumption)) (of_decide_eq_true (by first | (with_reducible assumption) | assumption)); have HP117 := Kd.R_putg HO_5.out (x25_8 : Int) (rd y269 x25_8)) | ((with_reducible refine gate_store (t := 5) (p := 229) rfl ?_); refine store_event (t := 5) (p := 229) (v := ?vo_w118) (w1 := (w116.setCell ⟨go114, (x25_8 : Int).toNat, none⟩ (.int .u8 (rd y269 x25_8)))) ?hg ?ho ?hn ?hr ?_; (case ho => rfl); (case hg => rfl); (case hn => rfl); (case hr => first | (go_simp; done) | (go_simp; rfl)); intro w118 hw; have hg : w116.grownBy w118 (some go114) := (by rw [hw]; exact HP117.2); have hp_ : Kd.R (Kd.int .u8) 5 w118 w.heap.size (fun k_ => some k_ ≠ (.slice (some ⟨go112, 0, none⟩) x24_8.length co112 : Value).ownBlock) (.slice (some ⟨go114, 0, none⟩) x5_8.length co24) y271 := (by rw [hw, Ny271.out]; exact HP117.1); clear HP117; have n0_ := Aside0.mk (hp_); have n1_ := Aside0.mk (Kd.R_over' (v := (.slice (some ⟨go114, 0, none⟩) x5_8.length co24)) (by (with_reducible repeat (first | apply Kd.R_alloc | apply Kd.R_drewN | apply Kd.R_drew)); exact HO_10.out) (Kd.R_typed HO_5.out) (by decide) hg); have n2_ := Aside0.mk (Kd.R_over' (v := (.slice (some ⟨go114, 0, none⟩) x5_8.length co24)) (by (with_reducible repeat (first | apply Kd.R_alloc | apply Kd.R_drewN | apply Kd.R_drew)); exact HO_13.out) (Kd.R_typed HO_5.out) (by decide) hg); have n3_ := Aside0.mk (Kd.R_after (v := (.slice (some ⟨go114, 0, none⟩) x5_8.length co24)) (v1 := (.slice (some ⟨go114, 0, none⟩) x5_8.length co24)) (ok := (fun _ => True)) (by (with_reducible repeat (first | apply Kd.R_alloc | apply Kd.R_drewN | apply Kd.R_drew)); exact Kd.R_mono HO_24.out (fun _ hk => ⟨trivial, hk⟩)) hg (.inl rfl)); have n4_ := Aside0.mk ((by rw [hw]; exact below_set (HB.out) GB114.out : Below w.heap.size w w118)); clear HO_5; clear HO_10; clear HO_13; clear HO_24; clear HB; have HO_5 := n0_; have HO_10 := n1_; have HO_13 := n2_; have HO_24 := n3_; have HB := n4_; clear n0_ n1_ n2_ n3_ n4_; clear hg hw hp_))
                                                                            (try simp only [← hl5_8])
                                                                            go_roundg k8
                                                                            case measure => have := HK1.out; have := HJ21.out; have := HK3.out; have := HK4.out; have := HK5.out; have := HK6.out; have := HJ89.out; have := HK8.out; omega
                                                                            case rel => exact ⟨(y271), (y269), (wrap64 (x25_8 + 1)), (by first | rfl | (simp; done) | (simp [*]; done)), H', ⟨by have := HK1.out; have := HJ21.out; have := HK3.out; have := HK4.out; have := HK5.out; have := HK6.out; have := HJ89.out; have := HK8.out; omega⟩, ⟨by (try simp only [hl5_8]); (with_reducible repeat (first | apply Kd.R_alloc | apply Kd.R_drewN | apply Kd.R_drew)); exact HO_5.out⟩, ⟨by (try simp only [hl5_8]); (with_reducible repeat (first | apply Kd.R_alloc | apply Kd.R_drewN | apply Kd.R_drew)); exact HO_10.out⟩, ⟨by (try simp only [hl5_8]); (with_reducible repeat (first | apply Kd.R_alloc | apply Kd.R_drewN | apply Kd.R_drew)); exact HO_13.out⟩, ⟨by (try simp only [hl5_8]); (with_reducible repeat (first | apply Kd.R_alloc | apply Kd.R_drewN | apply Kd.R_drew)); exact Kd.R_mono HO_24.out (fun _ hk => hk.2)⟩, ⟨by repeat (first | (with_reducible first | exact HB.out | apply below_alloc | apply pw_below_drewN | apply below_drew1) | exact HB.out)⟩⟩
                                                                          · rw [if_neg c113] at H
                                                                            exact absurd H (by simp)
                                                                        · rw [if_neg c111] at H
                                                                          exact absurd H (by simp)
                                                                      · rw [if_neg c110] at H
                                                                        exact absurd H (by simp)
                                                                    · rw [if_neg c109] at H
                                                                      exact absurd H (by simp)
                                                                  · rw [if_neg c108] at H
                                                                    exact absurd H (by simp)
                                                                · rw [if_neg c106] at H
                                                                  have c106b0 : decide (x25_8 < (l0.length : Int)) = false := decide_eq_false c106
                                                                  clear c106
                                                                  by_cases c119 : 0 ≤ (l0.length : Int)
                                                                  · rw [if_pos c119] at H
                                                                    have c119b0 := eq_true c119
                                                                    have c119b1 : decide (0 ≤ (l0.length : Int)) = true := decide_eq_true c119
                                                                    clear c119
                                                                    by_cases c120 : (l0.length : Int) ≤ (x5_8.length : Int)
                                                                    · rw [if_pos c120] at H
                                                                      have c120b0 := eq_true c120
                                                                      have c120b1 : decide ((l0.length : Int) ≤ (x5_8.length : Int)) = true := decide_eq_true c120
                                                                      clear c120
                                                                      obtain ⟨y272, hy272⟩ : ∃ y_ : List Int, y_ = (x5_8.take ((l0.length : Int) : Int).toNat) := ⟨_, rfl⟩
                                                                      replace H : ((code_Decode.f k8 y272 a1).bind fun bt276 => ((payoffref11_Decode.f k8 x24_8 a1).bind fun bt281 => (if bt276.2.2 = bt281.2.2 then (if bt276.2.1 = bt281.2.1 then ((payofflaw11_sameCode.f k8 bt276.1 bt281.1).bind fun t286 => (if t286 = true then ((payofflaw11_sameCode.f k8 t219 t224).bind fun t287 => (some t287)) else (none))) else (none)) else (none)))) = some r := by first | (rw [hy272]; with_reducible exact H) | (have H2_ := (Option.bind_some _ _).symm.trans H; rw [hy272]; with_reducible exact H2_) | (have H2_ := (Option.bind_some _ _).symm.trans H; with_reducible exact H2_) | with_reducible exact H | (rw [hy272]; exact H) | exact H
                                                                      have Ny272 := Aside0.mk hy272
                                                                      clear hy272
                                                                      replace H := Option.bind_eq_some_iff.mp H
                                                                      obtain ⟨⟨t276, t277, t278⟩, A1210, H⟩ := H
                                                                      replace H : ((payoffref11_Decode.f k8 x24_8 a1).bind fun bt281 => (if t278 = bt281.2.2 then (if t277 = bt281.2.1 then ((payofflaw11_sameCode.f k8 t276 bt281.1).bind fun t286 => (if t286 = true then ((payofflaw11_sameCode.f k8 t219 t224).bind fun t287 => (some t287)) else (none))) else (none)) else (none))) = some r := H
                                                                      have A121 := Aside0.mk A1210
                                                                      clear A1210
                                                                      replace H := Option.bind_eq_some_iff.mp H
                                                                      obtain ⟨⟨t281, t282, t283⟩, A1220, H⟩ := H
                                                                      replace H : (if t278 = t283 then (if t277 = t282 then ((payofflaw11_sameCode.f k8 t276 t281).bind fun t286 => (if t286 = true then ((payofflaw11_sameCode.f k8 t219 t224).bind fun t287 => (some t287)) else (none))) else (none)) else (none)) = some r := H
                                                                      have A122 := Aside0.mk A1220
                                                                      clear A1220
                                                                      by_cases c123 : t278 = t283
                                                                      · rw [if_pos c123] at H
                                                                        have c123b0 : (t278 == t283) = true := beq_iff_eq.mpr c123
                                                                        have c123b1 : (t278 != t283) = false := bne_eq_false_iff_eq.mpr c123
                                                                        clear c123
                                                                        by_cases c124 : t277 = t282
                                                                        · rw [if_pos c124] at H
                                                                          have c124b0 : (t277 == t282) = true := beq_iff_eq.mpr c124
                                                                          have c124b1 : (t277 != t282) = false := bne_eq_false_iff_eq.mpr c124
                                                                          clear c124
                                                                          replace H := Option.bind_eq_some_iff.mp H
                                                                          obtain ⟨t286, A1250, H⟩ := H
                                                                          replace H : (if t286 = true then ((payofflaw11_sameCode.f k8 t219 t224).bind fun t287 => (some t287)) else (none)) = some r := H
                                                                          have A125 := Aside0.mk A1250
                                                                          clear A1250
                                                                          by_cases c126 : t286 = true
                                                                          · subst c126
                                                                            have H1 : ((payofflaw11_sameCode.f k8 t219 t224).bind fun t287 => (some t287)) = some r := by rw [if_pos rfl] at H; exact H
                                                                            clear H
                                                                            have H := H1
                                                                            clear H1
                                                                            replace H := Option.bind_eq_some_iff.mp H
                                                                            obtain ⟨t287, A1270, H⟩ := H
                                                                            replace H : (some t287) = some r := H
                                                                            have A127 := Aside0.mk A1270
                                                                            clear A1270
                                                                            obtain rfl := Option.some.inj H
                                                                            have q128 : ((l0.length : Int) : Int) ≤ ((x5_8.length : Int) : Int) := of_decide_eq_true (by first | (with_reducible assumption) | assumption)
                                                                            obtain ⟨i0128, hi0128, _, hsz128, _⟩ := info_parts info5
                                                                            have hroom128 : x5_8.length ≤ co24 := (Kd.R_reads' HO_5.out).2.1
                                                                            have hC128 : Kd.C (Kd.int .u8) _ Ao24 x5_8.length x5_8 := (Kd.R_reads' HO_5.out).2.2
                                                                            (try clear hcut23); (try clear hcut26); (try clear hcut41); (try clear hcut70); have hcut128 := cut_to (P := Tryd.prog) 38 5 .i64 Tryd.underlying38 hi0128 Ao24 x5_8.length co24 (l0.length : Int) (of_decide_eq_true (by first | (with_reducible assumption) | assumption)) q128 hroom128
                                                                            have hr128 := Kd.C_take (m := ((l0.length : Int) : Int).toNat) hC128 (by omega)
                                                                            have hy128 : y272.length = ((l0.length : Int) : Int).toNat := (by rw [Ny272.out, List.length_take]; omega)
                                                                            rw [← Ny272.out] at hr128
                                                                            rw [← hy128] at hcut128
                                                                            have HR275 := Aside0.mk hr128
                                                                            have HC275 := Aside0.mk (show y272.length ≤ co24 from by omega)
                                                                            clear hr128 hC128 hroom128 hi0128 hsz128
                                                                            have KY128 := Aside0.mk hy128
                                                                            clear hy128
                                                                            have KL128 := Aside0.mk (show ((l0.length : Int) : Int).toNat ≤ x5_8.length from by omega)
                                                                            replace q128 := eq_true q128
                                                                            go_wp2_with (first | ((with_reducible refine gate_callee (f := 29) rfl ?_); refine goesL_ (some 236) rfl rfl Tryd.func29 (by kernel_rfl) rfl #[.slice Ao24 y272.length co24, .int .i64 a1] rfl (by (try simp only [List.map_toArray, List.map_cons, List.map_nil]); first | done | rfl | (simp only [List.length_drop, List.length_take]; rfl)) ?_; (with_reducible refine (code_Decode.calls k8 _ _ y272 a1 t276 t277 t278 _ ?side1 ?side2 A121.out (Pure.G2.below HG.out (by repeat (first | (with_reducible first | exact HB.out | apply below_alloc | apply pw_below_drewN | apply below_drew1 | (refine below_set ?_ (by first | exact trivial )) ) | exact HB.out)))).mono ?_); (case side1 => repeat (first | exact (by repeat (first | (with_reducible exact HR275.out) | (with_reducible refine Kd.C_alloc ?_ _) | (with_reducible refine Kd.C_drewN ?_ _) | (with_reducible refine Kd.C_drew ?_) | exact HR275.out)) | (with_reducible refine Kd.C_alloc ?_ _) | (with_reducible refine Kd.C_drewN ?_ _) | (with_reducible refine Kd.C_drew ?_))); (case side2 => exact HC275.out); rintro e w129 ⟨v279, rfl, ho0, hb⟩; refine ⟨_, rfl, ?_⟩; have n0_ := Aside0.mk (Kd.R_below (by (with_reducible repeat (first | apply Kd.R_alloc | apply Kd.R_drewN | apply Kd.R_drew)); exact HO_5.out) hb); have n1_ := Aside0.mk (Kd.R_elder' (by (with_reducible repeat (first | apply Kd.R_alloc | apply Kd.R_drewN | apply Kd.R_drew)); exact HO_10.out) (Kd.R_base ho0) hb); have n2_ := Aside0.mk (Kd.R_elder' (by (with_reducible repeat (first | apply Kd.R_alloc | apply Kd.R_drewN | apply Kd.R_drew)); exact HO_13.out) (Kd.R_base ho0) hb); have n3_ := Aside0.mk (Kd.R_below (by (with_reducible repeat (first | apply Kd.R_alloc | apply Kd.R_drewN | apply Kd.R_drew)); exact HO_24.out) hb); have n4_ := Aside0.mk (Kd.R_lower (Kd.R_new' (Kd.R_new' ho0 (Kd.R_lt (by (with_reducible repeat (first | apply Kd.R_alloc | apply Kd.R_drewN | apply Kd.R_drew)); exact HO_10.out))) (Kd.R_lt (by (with_reducible repeat (first | apply Kd.R_alloc | apply Kd.R_drewN | apply Kd.R_drew)); exact HO_13.out))) (below_size (by repeat (first | (with_reducible first | exact HB.out | apply below_alloc | apply pw_below_drewN | apply below_drew1) | exact HB.out)))); have n5_ := Aside0.mk (Kd.C_below (by repeat (first | (with_reducible exact HR275.out) | (with_reducible refine Kd.C_alloc ?_ _) | (with_reducible refine Kd.C_drewN ?_ _) | (with_reducible refine Kd.C_drew ?_) | exact HR275.out)) hb); have n6_ := Aside0.mk (below_step (by repeat (first | (with_reducible first | exact HB.out | apply below_alloc | apply pw_below_drewN | apply below_drew1) | exact HB.out)) hb); clear HO_5; clear HO_10; clear HO_13; clear HO_24; clear HR275; clear HB; have HO_5 := n0_; have HO_10 := n1_; have HO_13 := n2_; have HO_24 := n3_; have HO280 := n4_; have HR275 := n5_; have HB := n6_; clear n0_ n1_ n2_ n3_ n4_ n5_ n6_; (try clear hb); (try clear hb2); (try clear hk); (try clear hi); (try clear ho0); obtain ⟨Ao130, co130, eo130⟩ := Kd.R_slice HO_24.out; subst eo130) | ((with_reducible refine gate_callee (f := 30) rfl ?_); refine goesL_ (some 243) rfl rfl Tryd.func30 (by kernel_rfl) rfl #[.slice Ao130 x24_8.length co130, .int .i64 a1] rfl (by (try simp only [List.map_toArray, List.map_cons, List.map_nil]); first | done | rfl | (simp only [List.length_drop, List.length_take]; rfl)) ?_; (with_reducible refine (payoffref11_Decode.calls k8 _ _ x24_8 a1 t281 t282 t283 _ ?side1 ?side2 A122.out (Pure.G2.below HG.out (by repeat (first | (with_reducible first | exact HB.out | apply below_alloc | apply pw_below_drewN | apply below_drew1 | (refine below_set ?_ (by first | exact trivial )) ) | exact HB.out)))).mono ?_); (case side1 => repeat (first | exact (Kd.R_reads' HO_24.out).2.2 | (with_reducible refine Kd.C_alloc ?_ _) | (with_reducible refine Kd.C_drewN ?_ _) | (with_reducible refine Kd.C_drew ?_))); (case side2 => exact (Kd.R_reads' HO_24.out).2.1); rintro e w131 ⟨v284, rfl, ho0, hb⟩; refine ⟨_, rfl, ?_⟩; have n0_ := Aside0.mk (Kd.R_below (by (with_reducible repeat (first | apply Kd.R_alloc | apply Kd.R_drewN | apply Kd.R_drew)); exact HO_5.out) hb); have n1_ := Aside0.mk (Kd.R_elder' (by (with_reducible repeat (first | apply Kd.R_alloc | apply Kd.R_drewN | apply Kd.R_drew)); exact HO_10.out) (Kd.R_base ho0) hb); have n2_ := Aside0.mk (Kd.R_elder' (by (with_reducible repeat (first | apply Kd.R_alloc | apply Kd.R_drewN | apply Kd.R_drew)); exact HO_13.out) (Kd.R_base ho0) hb); have n3_ := Aside0.mk (Kd.R_below (by (with_reducible repeat (first | apply Kd.R_alloc | apply Kd.R_drewN | apply Kd.R_drew)); exact HO_24.out) hb); have n4_ := Aside0.mk (Kd.R_elder' (by (with_reducible repeat (first | apply Kd.R_alloc | apply Kd.R_drewN | apply Kd.R_drew)); exact HO280.out) (Kd.R_base ho0) hb); have n5_ := Aside0.mk (Kd.R_lower (Kd.R_new' (Kd.R_new' (Kd.R_new' ho0 (Kd.R_lt (by (with_reducible repeat (first | apply Kd.R_alloc | apply Kd.R_drewN | apply Kd.R_drew)); exact HO_10.out))) (Kd.R_lt (by (with_reducible repeat (first | apply Kd.R_alloc | apply Kd.R_drewN | apply Kd.R_drew)); exact HO_13.out))) (Kd.R_lt (by (with_reducible repeat (first | apply Kd.R_alloc | apply Kd.R_drewN | apply Kd.R_drew)); exact HO280.out))) (below_size (by repeat (first | (with_reducible first | exact HB.out | apply below_alloc | apply pw_below_drewN | apply below_drew1) | exact HB.out)))); have n6_ := Aside0.mk (Kd.C_below (by repeat (first | (with_reducible exact HR275.out) | (with_reducible refine Kd.C_alloc ?_ _) | (with_reducible refine Kd.C_drewN ?_ _) | (with_reducible refine Kd.C_drew ?_) | exact HR275.out)) hb); have n7_ := Aside0.mk (below_step (by repeat (first | (with_reducible first | exact HB.out | apply below_alloc | apply pw_below_drewN | apply below_drew1) | exact HB.out)) hb); clear HO_5; clear HO_10; clear HO_13; clear HO_24; clear HO280; clear HR275; clear HB; have HO_5 := n0_; have HO_10 := n1_; have HO_13 := n2_; have HO_24 := n3_; have HO280 := n4_; have HO285 := n5_; have HR275 := n6_; have HB := n7_; clear n0_ n1_ n2_ n3_ n4_ n5_ n6_ n7_; (try clear hb); (try clear hb2); (try clear hk); (try clear hi); (try clear ho0); obtain ⟨Ao132, co132, eo132⟩ := Kd.R_slice HO280.out; subst eo132; obtain ⟨Ao133, co133, eo133⟩ := Kd.R_slice HO285.out; subst eo133) | (go_at_call 27; (with_reducible refine (payofflaw11_sameCode.calls k8 _ _ t276 _ _ t281 true _ ?side1 ?side2 ?side3 ?side4 A125.out).mono ?_); (case side1 => repeat (first | exact (Kd.R_reads' HO280.out).2.2 | (with_reducible refine Kd.C_alloc ?_ _) | (with_reducible refine Kd.C_drewN ?_ _) | (with_reducible refine Kd.C_drew ?_))); (case side2 => exact (Kd.R_reads' HO280.out).2.1); (case side3 => repeat (first | exact (Kd.R_reads' HO285.out).2.2 | (with_reducible refine Kd.C_alloc ?_ _) | (with_reducible refine Kd.C_drewN ?_ _) | (with_reducible refine Kd.C_drew ?_))); (case side4 => exact (Kd.R_reads' HO285.out).2.1); rintro e w' ⟨rfl, ⟨nd, rfl⟩⟩; obtain ⟨Ao134, co134, eo134⟩ := Kd.R_slice HO_10.out; subst eo134; obtain ⟨Ao135, co135, eo135⟩ := Kd.R_slice HO_13.out; subst eo135) | (go_at_call 27; (with_reducible refine (payofflaw11_sameCode.calls k8 _ _ t219 _ _ t224 t287 _ ?side1 ?side2 ?side3 ?side4 A127.out).mono ?_); (case side1 => repeat (first | exact (Kd.R_reads' HO_10.out).2.2 | (with_reducible refine Kd.C_alloc ?_ _) | (with_reducible refine Kd.C_drewN ?_ _) | (with_reducible refine Kd.C_drew ?_))); (case side2 => exact (Kd.R_reads' HO_10.out).2.1); (case side3 => repeat (first | exact (Kd.R_reads' HO_13.out).2.2 | (with_reducible refine Kd.C_alloc ?_ _) | (with_reducible refine Kd.C_drewN ?_ _) | (with_reducible refine Kd.C_drew ?_))); (case side4 => exact (Kd.R_reads' HO_13.out).2.1); rintro e w' ⟨rfl, ⟨nd, rfl⟩⟩))
                                                                            go_ret
                                                                            exact ⟨by first | rfl | (simp [errW_none, errW_some] <;> rfl) | (simp only [← hji3]; first | rfl | (simp [errW_none, errW_some] <;> rfl)) | (simp [*, errW_none, errW_some] <;> rfl), by repeat (first | (with_reducible first | exact HB.out | apply below_alloc | apply pw_below_drewN | apply below_drew1) | exact HB.out)⟩
                                                                          · replace c126 := Bool.eq_false_iff.mpr c126
                                                                            subst c126
                                                                            have H1 : (none) = some r := by rw [if_neg (show ¬ (false = true) by decide)] at H; exact H
                                                                            exact absurd H1 (by simp)
                                                                        · rw [if_neg c124] at H
                                                                          exact absurd H (by simp)
                                                                      · rw [if_neg c123] at H
                                                                        exact absurd H (by simp)
                                                                    · rw [if_neg c120] at H
                                                                      exact absurd H (by simp)
                                                                  · rw [if_neg c119] at H
                                                                    exact absurd H (by simp)
                                                          · rw [if_neg c102] at H
                                                            exact absurd H (by simp)
                                            · rw [if_neg c68] at H
                                              exact absurd H (by simp)
                                          · rw [if_neg c67] at H
                                            exact absurd H (by simp)
                                  · rw [if_neg c59] at H
                                    exact absurd H (by simp)
              · rw [if_neg c16] at H
                exact absurd H (by simp)
            · rw [if_neg c15] at H
              exact absurd H (by simp)
    · rw [if_neg c5] at H
      exact absurd H (by simp)
  · rw [if_neg c4] at H
    exact absurd H (by simp)

end Go.Proofs.YtknlcpojglhbnaaDoor.PCodeDecodes
