/- Own text: the reader of law CodeDecodes: varint after the kit's print, the others by this session. -/
import Derived.Test.YtknlcpojglhbnaaDoorGl
import Derived.Test.YtknlcpojglhbnaaDoorTable
import Derived.Deep.DeepMust
import Derived.Outline
import Derived.Deep.RegionWith
import Derived.Test.YtknlcpojglhbnaaDoorQCodeDecodesx0
import Derived.Test.YtknlcpojglhbnaaDoorQCodeDecodesx1
import Derived.Test.YtknlcpojglhbnaaDoorQCodeDecodesx2
namespace Go.Proofs.YtknlcpojglhbnaaDoor.PCodeDecodes
open Go.RowKit Go.Proofs.YtknlcpojglhbnaaDoorW.PrintWords Go.Proofs.YtknlcpojglhbnaaDoorW.PrintLast Go.Proofs.YtknlcpojglhbnaaDoorW.PrintMore
attribute [local go_sem] max2_int min2_int max_two min_two max_three min_three max_four min_four   -- for this text's walks alone
set_option linter.unusedVariables false
set_option linter.unusedSimpArgs false

attribute [local go_sem high] eqA27
/-! ### octet_varint: function 50 -/
def octet_varint.l0 : Nat → List Int → Int → Int → Int → Option (Int × Int × Int)
  | 0, _, _, _, _ => none
  | k + 1, x0, x5, x9, x10 => if x10 < x9 then (if 0 ≤ x10 then (if x10 < (x0.length : Int) then (if 0 ≤ (wrap64 (7 * x10)) then (if (rd x0 x10) > 127 then (octet_varint.l0 k x0 (Go.bits .or .u64 x5 (shl .u64 (IntKind.u64.wrap (Go.bits .and .u8 (rd x0 x10) 127)) (wrap64 (7 * x10)))) x9 (wrap64 (x10 + 1))) else (if x10 > 0 then (if (rd x0 x10) = 0 then (some (0, 0, 42)) else (if x10 = 9 then (if (rd x0 x10) > 1 then (some (0, 0, 42)) else (some (Go.bits .or .u64 x5 (shl .u64 (IntKind.u64.wrap (Go.bits .and .u8 (rd x0 x10) 127)) (wrap64 (7 * x10))), wrap64 (x10 + 1), 0))) else (some (Go.bits .or .u64 x5 (shl .u64 (IntKind.u64.wrap (Go.bits .and .u8 (rd x0 x10) 127)) (wrap64 (7 * x10))), wrap64 (x10 + 1), 0)))) else (if x10 = 9 then (if (rd x0 x10) > 1 then (some (0, 0, 42)) else (some (Go.bits .or .u64 x5 (shl .u64 (IntKind.u64.wrap (Go.bits .and .u8 (rd x0 x10) 127)) (wrap64 (7 * x10))), wrap64 (x10 + 1), 0))) else (some (Go.bits .or .u64 x5 (shl .u64 (IntKind.u64.wrap (Go.bits .and .u8 (rd x0 x10) 127)) (wrap64 (7 * x10))), wrap64 (x10 + 1), 0))))) else (none)) else (none)) else (none)) else (if (x0.length : Int) < 10 then (some (0, 0, 41)) else (some (0, 0, 42)))
def octet_varint.f (k : Nat) (l0 : List Int) : Option (Int × Int × Int) := octet_varint.l0 k l0 0 (mn (l0.length : Int) 10) 0
theorem octet_varint.mono_l : ∀ k, (∀ y0 y1 y2 y3, LeO (octet_varint.l0 k y0 y1 y2 y3) (octet_varint.l0 (k + 1) y0 y1 y2 y3))
  | 0 => fun _ _ _ _ r h => by simp [octet_varint.l0] at h
  | k + 1 => by
    have ih0 := octet_varint.mono_l k
    · intro y0 y1 y2 y3
      unfold octet_varint.l0
      repeat' first
      | (with_reducible exact ih0 _ _ _ _)
      | (with_reducible exact LeO.refl _)
      | (with_reducible exact LeO.none _)
      | (with_reducible refine LeO.ite ?_ ?_)
      | (with_reducible refine LeO.bind ?_ (fun _ => ?_))
      | exact ih0 _ _ _ _
      | exact LeO.none _
      | refine LeO.ite ?_ ?_
      | refine LeO.bind ?_ (fun _ => ?_)
theorem octet_varint.mono : ∀ a0 k, LeO (octet_varint.f k a0) (octet_varint.f (k + 1) a0) := by
  intro a0 k
  have ih0 := octet_varint.mono_l k
  unfold octet_varint.f
  repeat' first
      | (with_reducible exact ih0 _ _ _ _)
      | (with_reducible exact LeO.refl _)
      | (with_reducible exact LeO.none _)
      | (with_reducible refine LeO.ite ?_ ?_)
      | (with_reducible refine LeO.bind ?_ (fun _ => ?_))
      | exact ih0 _ _ _ _
      | exact LeO.none _
      | refine LeO.ite ?_ ?_
      | refine LeO.bind ?_ (fun _ => ?_)
set_option maxHeartbeats 8000000 in
set_option maxRecDepth 100000 in
theorem octet_varint.calls (k : Nat) (A0 : Option Addr) (c0 : Nat) (l0 : List Int) (r1 : Int) (r2 : Int) (r3 : Int) (w : World) (hr0 : Kd.C (Kd.int .u8) w A0 l0.length l0) (hc0 : l0.length ≤ c0) (h : octet_varint.f k l0 = some (r1, r2, r3)) :
    Calls Tryd.prog 50 #[.slice A0 l0.length c0] w fun e w' => e = .returned (.tuple #[.int .u64 r1, .int .i64 r2, .int .i64 r3]) ∧ Below w.heap.size w w' := by
  have HR0 := Aside0.mk hr0
  have HC0 := Aside0.mk hc0
  clear hr0 hc0
  have HB := Aside0.mk (Below.refl w.heap.size w)
  have H : (octet_varint.l0 k l0 0 (mn (l0.length : Int) 10) 0) = some (r1, r2, r3) := h
  clear h
  obtain ⟨ji2, hji2⟩ : ∃ j_ : Int, (mn (l0.length : Int) 10) = j_ := ⟨_, rfl⟩
  replace H : (octet_varint.l0 k l0 0 ji2 0) = some (r1, r2, r3) := by first | (rw [hji2] at H; exact H) | (simp only [hji2] at H ⊢; exact H)
  (try (have hji2h : ji2 ≤ 10 := by (rw [← hji2]; unfold mn; (repeat' split) <;> omega)))
  (try (have hji2g : ji2 ≤ 64 := by omega))
  (try (have hji2l : 0 ≤ ji2 := by (rw [← hji2]; unfold mn; (repeat' split) <;> omega)))
  (try (have hji2m : 0 ≤ ji2 := by omega))
  have hji2_ : (if 10 < (l0.length : Int) then 10 else (l0.length : Int)) = ji2 := hji2
  have H' := Aside0.mk H
  clear H
  go_enter Tryd.func50, Tryd.ntmps50
  go_wp2
  go_loopg [5, 10] k (fun kq v5 v10 w' => ∃ (x5_1 : Int) (x10_1 : Int), v5 = .int .u64 x5_1 ∧ v10 = .int .i64 x10_1 ∧ Aside0 (octet_varint.l0 kq l0 x5_1 ji2 x10_1 = some (r1, r2, r3)) ∧ Aside0 (kq ≤ k) ∧ Aside0 (Below w.heap.size w w'))
  case atStart => exact ⟨(0), (0), (by first | rfl | (simp; done) | (simp [*]; done)), (by first | rfl | (simp; done) | (simp [*]; done)), H', ⟨Nat.le_refl _⟩, ⟨by repeat (first | (with_reducible first | exact HB.out | apply below_alloc | apply pw_below_drewN | apply below_drew1) | exact HB.out)⟩⟩
  case round =>
    clear H'
    try clear p2
    obtain ⟨x5_1, x10_1, rfl, rfl, HA, HK1, HB⟩ := hrel
    cases gk with
    | zero => exact absurd HA.out (by simp [octet_varint.l0])
    | succ k1 =>
      have H := HA.out
      clear HA
      simp only [octet_varint.l0] at H
      by_cases c3 : x10_1 < ji2
      · rw [if_pos c3] at H
        have c3b0 : decide (x10_1 < ji2) = true := decide_eq_true c3
        clear c3
        by_cases c4 : 0 ≤ x10_1
        · rw [if_pos c4] at H
          have c4b0 : decide (0 ≤ x10_1) = true := decide_eq_true c4
          clear c4
          by_cases c5 : x10_1 < (l0.length : Int)
          · rw [if_pos c5] at H
            have c5b0 : decide (x10_1 < (l0.length : Int)) = true := decide_eq_true c5
            clear c5
            obtain ⟨ji6, hji6⟩ : ∃ j_ : Int, (wrap64 (7 * x10_1)) = j_ := ⟨_, rfl⟩
            replace H : (if 0 ≤ (ji6) then (if (rd l0 x10_1) > 127 then (octet_varint.l0 k1 l0 (Go.bits .or .u64 x5_1 (shl .u64 (IntKind.u64.wrap (Go.bits .and .u8 (rd l0 x10_1) 127)) (ji6))) ji2 (wrap64 (x10_1 + 1))) else (if x10_1 > 0 then (if (rd l0 x10_1) = 0 then (some (0, 0, 42)) else (if x10_1 = 9 then (if (rd l0 x10_1) > 1 then (some (0, 0, 42)) else (some (Go.bits .or .u64 x5_1 (shl .u64 (IntKind.u64.wrap (Go.bits .and .u8 (rd l0 x10_1) 127)) (ji6)), wrap64 (x10_1 + 1), 0))) else (some (Go.bits .or .u64 x5_1 (shl .u64 (IntKind.u64.wrap (Go.bits .and .u8 (rd l0 x10_1) 127)) (ji6)), wrap64 (x10_1 + 1), 0)))) else (if x10_1 = 9 then (if (rd l0 x10_1) > 1 then (some (0, 0, 42)) else (some (Go.bits .or .u64 x5_1 (shl .u64 (IntKind.u64.wrap (Go.bits .and .u8 (rd l0 x10_1) 127)) (ji6)), wrap64 (x10_1 + 1), 0))) else (some (Go.bits .or .u64 x5_1 (shl .u64 (IntKind.u64.wrap (Go.bits .and .u8 (rd l0 x10_1) 127)) (ji6)), wrap64 (x10_1 + 1), 0))))) else (none)) = some (r1, r2, r3) := by first | (rw [hji6] at H; exact H) | (simp only [hji6] at H ⊢; exact H)
            have hji6w : (IntKind.i64.wrap (7 * x10_1)) = ji6 := (i64_w _).trans hji6
            by_cases c7 : 0 ≤ (ji6)
            · rw [if_pos c7] at H
              have c7b0 := eq_true c7
              have c7b1 : decide (0 ≤ (ji6)) = true := decide_eq_true c7
              clear c7
              obtain ⟨ji8, hji8⟩ : ∃ j_ : Int, (shl .u64 (IntKind.u64.wrap (Go.bits .and .u8 (rd l0 x10_1) 127)) (ji6)) = j_ := ⟨_, rfl⟩
              replace H : (if (rd l0 x10_1) > 127 then (octet_varint.l0 k1 l0 (Go.bits .or .u64 x5_1 (ji8)) ji2 (wrap64 (x10_1 + 1))) else (if x10_1 > 0 then (if (rd l0 x10_1) = 0 then (some (0, 0, 42)) else (if x10_1 = 9 then (if (rd l0 x10_1) > 1 then (some (0, 0, 42)) else (some (Go.bits .or .u64 x5_1 (ji8), wrap64 (x10_1 + 1), 0))) else (some (Go.bits .or .u64 x5_1 (ji8), wrap64 (x10_1 + 1), 0)))) else (if x10_1 = 9 then (if (rd l0 x10_1) > 1 then (some (0, 0, 42)) else (some (Go.bits .or .u64 x5_1 (ji8), wrap64 (x10_1 + 1), 0))) else (some (Go.bits .or .u64 x5_1 (ji8), wrap64 (x10_1 + 1), 0))))) = some (r1, r2, r3) := by first | (rw [hji8] at H; exact H) | (simp only [hji8] at H ⊢; exact H)
              have hji8_ : (IntKind.u64.wrap ((IntKind.u64.wrap (Go.bits .and .u8 (rd l0 x10_1) 127)) * 2 ^ min (ji6).toNat 64)) = ji8 := hji8
              have hji8z : (ji6) ≤ 64 → (IntKind.u64.wrap ((IntKind.u64.wrap (Go.bits .and .u8 (rd l0 x10_1) 127)) * 2 ^ (ji6).toNat)) = ji8 := shl_small hji8
              by_cases c9 : (rd l0 x10_1) > 127
              · rw [if_pos c9] at H
                have c9b0 : decide (127 < (rd l0 x10_1)) = true := decide_eq_true c9
                clear c9
                have H' := Aside0.mk H
                clear H
                have p111 : 0 ≤ (x10_1 : Int) := of_decide_eq_true (by first | (with_reducible assumption) | assumption)
                have q111 : x10_1 < (l0.length : Int) := of_decide_eq_true (by first | (with_reducible assumption) | assumption)
                obtain ⟨ad111, e111, hx111_0⟩ := Kd.at_int HR0.out x10_1 p111 q111
                cases e111
                replace hx111_0 := (HB.out.cell (World.block_lt_of_cell? w _ hx111_0)).trans hx111_0
                replace p111 := eq_true p111
                replace q111 := eq_true q111
                have p112 : 0 ≤ (x10_1 : Int) := of_decide_eq_true (by first | (with_reducible assumption) | assumption)
                have q112 : x10_1 < (l0.length : Int) := of_decide_eq_true (by first | (with_reducible assumption) | assumption)
                obtain ⟨ad112, e112, hx112_0⟩ := Kd.at_int HR0.out x10_1 p112 q112
                obtain rfl : ad111 = ad112 := (by injection e112)
                replace hx112_0 := (HB.out.cell (World.block_lt_of_cell? w _ hx112_0)).trans hx112_0
                replace p112 := eq_true p112
                replace q112 := eq_true q112
                go_wp2
                go_roundg k1
                case measure => have := HK1.out; omega
                case rel => exact ⟨(Go.bits .or .u64 x5_1 (ji8)), (wrap64 (x10_1 + 1)), (by first | rfl | (simp; done) | (simp only [← hji8] <;> (first | rfl | simp)) | (simp [*]; done)), (by first | rfl | (simp; done) | (simp [*]; done)), H', ⟨by have := HK1.out; omega⟩, ⟨by repeat (first | (with_reducible first | exact HB.out | apply below_alloc | apply pw_below_drewN | apply below_drew1) | exact HB.out)⟩⟩
              · rw [if_neg c9] at H
                have c9b0 : decide (127 < (rd l0 x10_1)) = false := decide_eq_false c9
                clear c9
                by_cases c10 : x10_1 > 0
                · rw [if_pos c10] at H
                  have c10b0 : decide (0 < x10_1) = true := decide_eq_true c10
                  clear c10
                  by_cases c11 : (rd l0 x10_1) = 0
                  · rw [if_pos c11] at H
                    have c11b0 : ((rd l0 x10_1) == 0) = true := beq_iff_eq.mpr c11
                    have c11b1 : ((rd l0 x10_1) != 0) = false := bne_eq_false_iff_eq.mpr c11
                    clear c11
                    simp only [Option.some.injEq, Prod.mk.injEq] at H
                    obtain ⟨rfl, rfl, rfl⟩ := H
                    have p111 : 0 ≤ (x10_1 : Int) := of_decide_eq_true (by first | (with_reducible assumption) | assumption)
                    have q111 : x10_1 < (l0.length : Int) := of_decide_eq_true (by first | (with_reducible assumption) | assumption)
                    obtain ⟨ad111, e111, hx111_0⟩ := Kd.at_int HR0.out x10_1 p111 q111
                    cases e111
                    replace hx111_0 := (HB.out.cell (World.block_lt_of_cell? w _ hx111_0)).trans hx111_0
                    replace p111 := eq_true p111
                    replace q111 := eq_true q111
                    have p112 : 0 ≤ (x10_1 : Int) := of_decide_eq_true (by first | (with_reducible assumption) | assumption)
                    have q112 : x10_1 < (l0.length : Int) := of_decide_eq_true (by first | (with_reducible assumption) | assumption)
                    obtain ⟨ad112, e112, hx112_0⟩ := Kd.at_int HR0.out x10_1 p112 q112
                    obtain rfl : ad111 = ad112 := (by injection e112)
                    replace hx112_0 := (HB.out.cell (World.block_lt_of_cell? w _ hx112_0)).trans hx112_0
                    replace p112 := eq_true p112
                    replace q112 := eq_true q112
                    have p113 : 0 ≤ (x10_1 : Int) := of_decide_eq_true (by first | (with_reducible assumption) | assumption)
                    have q113 : x10_1 < (l0.length : Int) := of_decide_eq_true (by first | (with_reducible assumption) | assumption)
                    obtain ⟨ad113, e113, hx113_0⟩ := Kd.at_int HR0.out x10_1 p113 q113
                    obtain rfl : ad111 = ad113 := (by injection e113)
                    replace hx113_0 := (HB.out.cell (World.block_lt_of_cell? w _ hx113_0)).trans hx113_0
                    replace p113 := eq_true p113
                    replace q113 := eq_true q113
                    go_wp2
                    go_ret3
                    exact ⟨by first | rfl | (simp [errW_none, errW_some] <;> rfl) | (simp only [← hji2, ← hji6, ← hji8]; first | rfl | (simp [errW_none, errW_some] <;> rfl)) | (simp [*, errW_none, errW_some] <;> rfl), by repeat (first | (with_reducible first | exact HB.out | apply below_alloc | apply pw_below_drewN | apply below_drew1) | exact HB.out)⟩
                  · rw [if_neg c11] at H
                    have c11b0 : ((rd l0 x10_1) == 0) = false := beq_eq_false_iff_ne.mpr c11
                    have c11b1 : ((rd l0 x10_1) != 0) = true := bne_iff_ne.mpr c11
                    by_cases c12 : x10_1 = 9
                    · rw [if_pos c12] at H
                      have c12b0 : (x10_1 == 9) = true := beq_iff_eq.mpr c12
                      have c12b1 : (x10_1 != 9) = false := bne_eq_false_iff_eq.mpr c12
                      clear c12
                      by_cases c13 : (rd l0 x10_1) > 1
                      · rw [if_pos c13] at H
                        have c13b0 : decide (1 < (rd l0 x10_1)) = true := decide_eq_true c13
                        clear c13
                        simp only [Option.some.injEq, Prod.mk.injEq] at H
                        obtain ⟨rfl, rfl, rfl⟩ := H
                        have p111 : 0 ≤ (x10_1 : Int) := of_decide_eq_true (by first | (with_reducible assumption) | assumption)
                        have q111 : x10_1 < (l0.length : Int) := of_decide_eq_true (by first | (with_reducible assumption) | assumption)
                        obtain ⟨ad111, e111, hx111_0⟩ := Kd.at_int HR0.out x10_1 p111 q111
                        cases e111
                        replace hx111_0 := (HB.out.cell (World.block_lt_of_cell? w _ hx111_0)).trans hx111_0
                        replace p111 := eq_true p111
                        replace q111 := eq_true q111
                        have p112 : 0 ≤ (x10_1 : Int) := of_decide_eq_true (by first | (with_reducible assumption) | assumption)
                        have q112 : x10_1 < (l0.length : Int) := of_decide_eq_true (by first | (with_reducible assumption) | assumption)
                        obtain ⟨ad112, e112, hx112_0⟩ := Kd.at_int HR0.out x10_1 p112 q112
                        obtain rfl : ad111 = ad112 := (by injection e112)
                        replace hx112_0 := (HB.out.cell (World.block_lt_of_cell? w _ hx112_0)).trans hx112_0
                        replace p112 := eq_true p112
                        replace q112 := eq_true q112
                        have p113 : 0 ≤ (x10_1 : Int) := of_decide_eq_true (by first | (with_reducible assumption) | assumption)
                        have q113 : x10_1 < (l0.length : Int) := of_decide_eq_true (by first | (with_reducible assumption) | assumption)
                        obtain ⟨ad113, e113, hx113_0⟩ := Kd.at_int HR0.out x10_1 p113 q113
                        obtain rfl : ad111 = ad113 := (by injection e113)
                        replace hx113_0 := (HB.out.cell (World.block_lt_of_cell? w _ hx113_0)).trans hx113_0
                        replace p113 := eq_true p113
                        replace q113 := eq_true q113
                        have p114 : 0 ≤ (x10_1 : Int) := of_decide_eq_true (by first | (with_reducible assumption) | assumption)
                        have q114 : x10_1 < (l0.length : Int) := of_decide_eq_true (by first | (with_reducible assumption) | assumption)
                        obtain ⟨ad114, e114, hx114_0⟩ := Kd.at_int HR0.out x10_1 p114 q114
                        obtain rfl : ad111 = ad114 := (by injection e114)
                        replace hx114_0 := (HB.out.cell (World.block_lt_of_cell? w _ hx114_0)).trans hx114_0
                        replace p114 := eq_true p114
                        replace q114 := eq_true q114
                        go_wp2
                        go_ret3
                        exact ⟨by first | rfl | (simp [errW_none, errW_some] <;> rfl) | (simp only [← hji2, ← hji6, ← hji8]; first | rfl | (simp [errW_none, errW_some] <;> rfl)) | (simp [*, errW_none, errW_some] <;> rfl), by repeat (first | (with_reducible first | exact HB.out | apply below_alloc | apply pw_below_drewN | apply below_drew1) | exact HB.out)⟩
                      · rw [if_neg c13] at H
                        have c13b0 : decide (1 < (rd l0 x10_1)) = false := decide_eq_false c13
                        clear c13
                        simp only [Option.some.injEq, Prod.mk.injEq] at H
                        obtain ⟨rfl, rfl, rfl⟩ := H
                        have p111 : 0 ≤ (x10_1 : Int) := of_decide_eq_true (by first | (with_reducible assumption) | assumption)
                        have q111 : x10_1 < (l0.length : Int) := of_decide_eq_true (by first | (with_reducible assumption) | assumption)
                        obtain ⟨ad111, e111, hx111_0⟩ := Kd.at_int HR0.out x10_1 p111 q111
                        cases e111
                        replace hx111_0 := (HB.out.cell (World.block_lt_of_cell? w _ hx111_0)).trans hx111_0
                        replace p111 := eq_true p111
                        replace q111 := eq_true q111
                        have p112 : 0 ≤ (x10_1 : Int) := of_decide_eq_true (by first | (with_reducible assumption) | assumption)
                        have q112 : x10_1 < (l0.length : Int) := of_decide_eq_true (by first | (with_reducible assumption) | assumption)
                        obtain ⟨ad112, e112, hx112_0⟩ := Kd.at_int HR0.out x10_1 p112 q112
                        obtain rfl : ad111 = ad112 := (by injection e112)
                        replace hx112_0 := (HB.out.cell (World.block_lt_of_cell? w _ hx112_0)).trans hx112_0
                        replace p112 := eq_true p112
                        replace q112 := eq_true q112
                        have p113 : 0 ≤ (x10_1 : Int) := of_decide_eq_true (by first | (with_reducible assumption) | assumption)
                        have q113 : x10_1 < (l0.length : Int) := of_decide_eq_true (by first | (with_reducible assumption) | assumption)
                        obtain ⟨ad113, e113, hx113_0⟩ := Kd.at_int HR0.out x10_1 p113 q113
                        obtain rfl : ad111 = ad113 := (by injection e113)
                        replace hx113_0 := (HB.out.cell (World.block_lt_of_cell? w _ hx113_0)).trans hx113_0
                        replace p113 := eq_true p113
                        replace q113 := eq_true q113
                        have p114 : 0 ≤ (x10_1 : Int) := of_decide_eq_true (by first | (with_reducible assumption) | assumption)
                        have q114 : x10_1 < (l0.length : Int) := of_decide_eq_true (by first | (with_reducible assumption) | assumption)
                        obtain ⟨ad114, e114, hx114_0⟩ := Kd.at_int HR0.out x10_1 p114 q114
                        obtain rfl : ad111 = ad114 := (by injection e114)
                        replace hx114_0 := (HB.out.cell (World.block_lt_of_cell? w _ hx114_0)).trans hx114_0
                        replace p114 := eq_true p114
                        replace q114 := eq_true q114
                        go_wp2
                        go_ret3
                        exact ⟨by first | rfl | (simp [errW_none, errW_some] <;> rfl) | (simp only [← hji2, ← hji6, ← hji8]; first | rfl | (simp [errW_none, errW_some] <;> rfl)) | (simp [*, errW_none, errW_some] <;> rfl), by repeat (first | (with_reducible first | exact HB.out | apply below_alloc | apply pw_below_drewN | apply below_drew1) | exact HB.out)⟩
                    · rw [if_neg c12] at H
                      have c12b0 : (x10_1 == 9) = false := beq_eq_false_iff_ne.mpr c12
                      have c12b1 : (x10_1 != 9) = true := bne_iff_ne.mpr c12
                      simp only [Option.some.injEq, Prod.mk.injEq] at H
                      obtain ⟨rfl, rfl, rfl⟩ := H
                      have p111 : 0 ≤ (x10_1 : Int) := of_decide_eq_true (by first | (with_reducible assumption) | assumption)
                      have q111 : x10_1 < (l0.length : Int) := of_decide_eq_true (by first | (with_reducible assumption) | assumption)
                      obtain ⟨ad111, e111, hx111_0⟩ := Kd.at_int HR0.out x10_1 p111 q111
                      cases e111
                      replace hx111_0 := (HB.out.cell (World.block_lt_of_cell? w _ hx111_0)).trans hx111_0
                      replace p111 := eq_true p111
                      replace q111 := eq_true q111
                      have p112 : 0 ≤ (x10_1 : Int) := of_decide_eq_true (by first | (with_reducible assumption) | assumption)
                      have q112 : x10_1 < (l0.length : Int) := of_decide_eq_true (by first | (with_reducible assumption) | assumption)
                      obtain ⟨ad112, e112, hx112_0⟩ := Kd.at_int HR0.out x10_1 p112 q112
                      obtain rfl : ad111 = ad112 := (by injection e112)
                      replace hx112_0 := (HB.out.cell (World.block_lt_of_cell? w _ hx112_0)).trans hx112_0
                      replace p112 := eq_true p112
                      replace q112 := eq_true q112
                      have p113 : 0 ≤ (x10_1 : Int) := of_decide_eq_true (by first | (with_reducible assumption) | assumption)
                      have q113 : x10_1 < (l0.length : Int) := of_decide_eq_true (by first | (with_reducible assumption) | assumption)
                      obtain ⟨ad113, e113, hx113_0⟩ := Kd.at_int HR0.out x10_1 p113 q113
                      obtain rfl : ad111 = ad113 := (by injection e113)
                      replace hx113_0 := (HB.out.cell (World.block_lt_of_cell? w _ hx113_0)).trans hx113_0
                      replace p113 := eq_true p113
                      replace q113 := eq_true q113
                      go_wp2
                      go_ret3
                      exact ⟨by first | rfl | (simp [errW_none, errW_some] <;> rfl) | (simp only [← hji2, ← hji6, ← hji8]; first | rfl | (simp [errW_none, errW_some] <;> rfl)) | (simp [*, errW_none, errW_some] <;> rfl), by repeat (first | (with_reducible first | exact HB.out | apply below_alloc | apply pw_below_drewN | apply below_drew1) | exact HB.out)⟩
                · rw [if_neg c10] at H
                  have c10b0 : decide (0 < x10_1) = false := decide_eq_false c10
                  clear c10
                  by_cases c14 : x10_1 = 9
                  · rw [if_pos c14] at H
                    have c14b0 : (x10_1 == 9) = true := beq_iff_eq.mpr c14
                    have c14b1 : (x10_1 != 9) = false := bne_eq_false_iff_eq.mpr c14
                    clear c14
                    by_cases c15 : (rd l0 x10_1) > 1
                    · rw [if_pos c15] at H
                      have c15b0 : decide (1 < (rd l0 x10_1)) = true := decide_eq_true c15
                      clear c15
                      simp only [Option.some.injEq, Prod.mk.injEq] at H
                      obtain ⟨rfl, rfl, rfl⟩ := H
                      have p111 : 0 ≤ (x10_1 : Int) := of_decide_eq_true (by first | (with_reducible assumption) | assumption)
                      have q111 : x10_1 < (l0.length : Int) := of_decide_eq_true (by first | (with_reducible assumption) | assumption)
                      obtain ⟨ad111, e111, hx111_0⟩ := Kd.at_int HR0.out x10_1 p111 q111
                      cases e111
                      replace hx111_0 := (HB.out.cell (World.block_lt_of_cell? w _ hx111_0)).trans hx111_0
                      replace p111 := eq_true p111
                      replace q111 := eq_true q111
                      have p112 : 0 ≤ (x10_1 : Int) := of_decide_eq_true (by first | (with_reducible assumption) | assumption)
                      have q112 : x10_1 < (l0.length : Int) := of_decide_eq_true (by first | (with_reducible assumption) | assumption)
                      obtain ⟨ad112, e112, hx112_0⟩ := Kd.at_int HR0.out x10_1 p112 q112
                      obtain rfl : ad111 = ad112 := (by injection e112)
                      replace hx112_0 := (HB.out.cell (World.block_lt_of_cell? w _ hx112_0)).trans hx112_0
                      replace p112 := eq_true p112
                      replace q112 := eq_true q112
                      have p115 : 0 ≤ (x10_1 : Int) := of_decide_eq_true (by first | (with_reducible assumption) | assumption)
                      have q115 : x10_1 < (l0.length : Int) := of_decide_eq_true (by first | (with_reducible assumption) | assumption)
                      obtain ⟨ad115, e115, hx115_0⟩ := Kd.at_int HR0.out x10_1 p115 q115
                      obtain rfl : ad111 = ad115 := (by injection e115)
                      replace hx115_0 := (HB.out.cell (World.block_lt_of_cell? w _ hx115_0)).trans hx115_0
                      replace p115 := eq_true p115
                      replace q115 := eq_true q115
                      go_wp2
                      go_ret3
                      exact ⟨by first | rfl | (simp [errW_none, errW_some] <;> rfl) | (simp only [← hji2, ← hji6, ← hji8]; first | rfl | (simp [errW_none, errW_some] <;> rfl)) | (simp [*, errW_none, errW_some] <;> rfl), by repeat (first | (with_reducible first | exact HB.out | apply below_alloc | apply pw_below_drewN | apply below_drew1) | exact HB.out)⟩
                    · rw [if_neg c15] at H
                      have c15b0 : decide (1 < (rd l0 x10_1)) = false := decide_eq_false c15
                      clear c15
                      simp only [Option.some.injEq, Prod.mk.injEq] at H
                      obtain ⟨rfl, rfl, rfl⟩ := H
                      have p111 : 0 ≤ (x10_1 : Int) := of_decide_eq_true (by first | (with_reducible assumption) | assumption)
                      have q111 : x10_1 < (l0.length : Int) := of_decide_eq_true (by first | (with_reducible assumption) | assumption)
                      obtain ⟨ad111, e111, hx111_0⟩ := Kd.at_int HR0.out x10_1 p111 q111
                      cases e111
                      replace hx111_0 := (HB.out.cell (World.block_lt_of_cell? w _ hx111_0)).trans hx111_0
                      replace p111 := eq_true p111
                      replace q111 := eq_true q111
                      have p112 : 0 ≤ (x10_1 : Int) := of_decide_eq_true (by first | (with_reducible assumption) | assumption)
                      have q112 : x10_1 < (l0.length : Int) := of_decide_eq_true (by first | (with_reducible assumption) | assumption)
                      obtain ⟨ad112, e112, hx112_0⟩ := Kd.at_int HR0.out x10_1 p112 q112
                      obtain rfl : ad111 = ad112 := (by injection e112)
                      replace hx112_0 := (HB.out.cell (World.block_lt_of_cell? w _ hx112_0)).trans hx112_0
                      replace p112 := eq_true p112
                      replace q112 := eq_true q112
                      have p115 : 0 ≤ (x10_1 : Int) := of_decide_eq_true (by first | (with_reducible assumption) | assumption)
                      have q115 : x10_1 < (l0.length : Int) := of_decide_eq_true (by first | (with_reducible assumption) | assumption)
                      obtain ⟨ad115, e115, hx115_0⟩ := Kd.at_int HR0.out x10_1 p115 q115
                      obtain rfl : ad111 = ad115 := (by injection e115)
                      replace hx115_0 := (HB.out.cell (World.block_lt_of_cell? w _ hx115_0)).trans hx115_0
                      replace p115 := eq_true p115
                      replace q115 := eq_true q115
                      go_wp2
                      go_ret3
                      exact ⟨by first | rfl | (simp [errW_none, errW_some] <;> rfl) | (simp only [← hji2, ← hji6, ← hji8]; first | rfl | (simp [errW_none, errW_some] <;> rfl)) | (simp [*, errW_none, errW_some] <;> rfl), by repeat (first | (with_reducible first | exact HB.out | apply below_alloc | apply pw_below_drewN | apply below_drew1) | exact HB.out)⟩
                  · rw [if_neg c14] at H
                    have c14b0 : (x10_1 == 9) = false := beq_eq_false_iff_ne.mpr c14
                    have c14b1 : (x10_1 != 9) = true := bne_iff_ne.mpr c14
                    simp only [Option.some.injEq, Prod.mk.injEq] at H
                    obtain ⟨rfl, rfl, rfl⟩ := H
                    have p111 : 0 ≤ (x10_1 : Int) := of_decide_eq_true (by first | (with_reducible assumption) | assumption)
                    have q111 : x10_1 < (l0.length : Int) := of_decide_eq_true (by first | (with_reducible assumption) | assumption)
                    obtain ⟨ad111, e111, hx111_0⟩ := Kd.at_int HR0.out x10_1 p111 q111
                    cases e111
                    replace hx111_0 := (HB.out.cell (World.block_lt_of_cell? w _ hx111_0)).trans hx111_0
                    replace p111 := eq_true p111
                    replace q111 := eq_true q111
                    have p112 : 0 ≤ (x10_1 : Int) := of_decide_eq_true (by first | (with_reducible assumption) | assumption)
                    have q112 : x10_1 < (l0.length : Int) := of_decide_eq_true (by first | (with_reducible assumption) | assumption)
                    obtain ⟨ad112, e112, hx112_0⟩ := Kd.at_int HR0.out x10_1 p112 q112
                    obtain rfl : ad111 = ad112 := (by injection e112)
                    replace hx112_0 := (HB.out.cell (World.block_lt_of_cell? w _ hx112_0)).trans hx112_0
                    replace p112 := eq_true p112
                    replace q112 := eq_true q112
                    go_wp2
                    go_ret3
                    exact ⟨by first | rfl | (simp [errW_none, errW_some] <;> rfl) | (simp only [← hji2, ← hji6, ← hji8]; first | rfl | (simp [errW_none, errW_some] <;> rfl)) | (simp [*, errW_none, errW_some] <;> rfl), by repeat (first | (with_reducible first | exact HB.out | apply below_alloc | apply pw_below_drewN | apply below_drew1) | exact HB.out)⟩
            · rw [if_neg c7] at H
              exact absurd H (by simp)
          · rw [if_neg c5] at H
            exact absurd H (by simp)
        · rw [if_neg c4] at H
          exact absurd H (by simp)
      · rw [if_neg c3] at H
        have c3b0 : decide (x10_1 < ji2) = false := decide_eq_false c3
        clear c3
        by_cases c16 : (l0.length : Int) < 10
        · rw [if_pos c16] at H
          have c16b0 : decide ((l0.length : Int) < 10) = true := decide_eq_true c16
          have c16b1 : decide (l0.length < 10) = true := decide_eq_true (by omega)
          clear c16
          simp only [Option.some.injEq, Prod.mk.injEq] at H
          obtain ⟨rfl, rfl, rfl⟩ := H
          go_wp2
          go_ret3
          exact ⟨by first | rfl | (simp [errW_none, errW_some] <;> rfl) | (simp only [← hji2]; first | rfl | (simp [errW_none, errW_some] <;> rfl)) | (simp [*, errW_none, errW_some] <;> rfl), by repeat (first | (with_reducible first | exact HB.out | apply below_alloc | apply pw_below_drewN | apply below_drew1) | exact HB.out)⟩
        · rw [if_neg c16] at H
          have c16b0 : decide ((l0.length : Int) < 10) = false := decide_eq_false c16
          have c16b1 : decide (l0.length < 10) = false := decide_eq_false (by omega)
          clear c16
          simp only [Option.some.injEq, Prod.mk.injEq] at H
          obtain ⟨rfl, rfl, rfl⟩ := H
          go_wp2
          go_ret3
          exact ⟨by first | rfl | (simp [errW_none, errW_some] <;> rfl) | (simp only [← hji2]; first | rfl | (simp [errW_none, errW_some] <;> rfl)) | (simp [*, errW_none, errW_some] <;> rfl), by repeat (first | (with_reducible first | exact HB.out | apply below_alloc | apply pw_below_drewN | apply below_drew1) | exact HB.out)⟩

-- NOT PRINTED: function 47 (octet_Reader_Uint)

/-! ### octet_Reader_Take: function 46 (asked with 1 alone) -/
def octet_Reader_Take.f (bs : List Int) (p : Int) : Option (List Int × Int × Int) :=
  if 0 ≤ p ∧ p ≤ bs.length ∧ bs.length ≤ 140737488355328 then (if p < bs.length then some ([rd bs p], 0, p + 1) else some ([], 41, p)) else none
theorem keep_below {w W W1 : World} {g : Nat} (h : KeepBut w W g none) (hb : Below W.heap.size W W1) : KeepBut w W1 g none := h.trans (KeepBut.of_grown (grown_of_below hb none) g) (.inl rfl)
theorem wrap64_id {n : Int} (h : -9223372036854775808 ≤ n ∧ n ≤ 9223372036854775807) : wrap64 n = n := by unfold wrap64; omega
def octet_Reader_Take.T6 : Bool × List (List Nat × List Nat) := (true, [([], []), ([], []), ([1], [1]), ([2], [2]), ([3], [3]), ([], []), ([5], [5]), ([6], [6]), ([7], [7]), ([], []), ([8, 9], [8, 9]), ([], []), ([11], [11]), ([12], [12]), ([13], [13]), ([4, 10, 14], [4, 10, 14]), ([0, 15], [0, 15]), ([16, 16, 0, 1, 2, 3, 4, 5, 6, 7, 8, 9, 10, 11, 12, 13, 14, 15, 16], [16]), ([17, 0, 1, 2, 3, 4, 5, 6, 7, 8, 9, 10, 11, 12, 13, 14, 15, 16, 17], [])])
def octet_Reader_Take.B6 : List Nat := [0, 0, 2, 6, 14, 0, 32, 96, 224, 0, 992, 0, 2048, 6144, 14336, 32766, 65535, 131071, 262143]
theorem octet_Reader_Take.tab6 : rtab .any (opsOf Tryd.f46 6) = octet_Reader_Take.T6 := by kernel_rfl
theorem octet_Reader_Take.bits6 : waitsOk octet_Reader_Take.T6.2 octet_Reader_Take.B6 = true := by kernel_rfl
set_option maxHeartbeats 8000000 in
set_option maxRecDepth 100000 in
theorem octet_Reader_Take.calls (g : Nat) (bs : List Int) (p : Int) (r1 : List Int) (r2 r3 : Int) (w0 w : World) (hI : IsS74 w0 w g bs p) (hB : Below w0.heap.size w0 w) (h : octet_Reader_Take.f bs p = some (r1, r2, r3)) :
    Calls Tryd.prog 46 #[.pointer (some ⟨g, 0, none⟩), .int .i64 1] w fun e w' => ∃ v0_ : Value, e = .returned (.tuple #[v0_, .int .i64 r2]) ∧ Kd.R (Kd.int .u8) 5 w' w0.heap.size (fun k => k ≠ g) v0_ r1 ∧ IsS74 w0 w' g bs r3 ∧ Below w0.heap.size w0 w' ∧ KeepBut w w' g none := by
  unfold octet_Reader_Take.f at h
  split at h
  · rename_i hp
    have HP := Aside0.mk hp
    have HI0 := Aside0.mk hI
    have HK := Aside0.mk (KeepBut.refl w g none)
    have HB := Aside0.mk hB
    clear hI hB hp
    split at h
    · rename_i hlt
      cases h
      have c1 : decide (1 > (bs.length : Int) - p) = false := decide_eq_false (by omega)
      have c2 : decide ((bs.length : Int) - p < 1) = false := decide_eq_false (by omega)
      have hl : octet_Reader_Left.f bs p = some ((bs.length : Int) - p, p) := by unfold octet_Reader_Left.f; rw [wrap64_id (by have := HP.out; omega)]
      have HLF := Aside0.mk hl
      have HLT := Aside0.mk hlt
      clear hl hlt
      go_enter Tryd.func46, Tryd.ntmps46
      go_upto_region 5 with (first | (go_at_call 39; go_must (refine (octet_Reader_Left.calls g bs p _ _ w0 _ HI0.out HB.out HLF.out).mono ?_; rintro e w1 ⟨rfl, hi, hb, hk⟩; have n0_ := Aside0.mk hi; have n1_ := Aside0.mk hb; have n2_ := Aside0.mk hk; clear HI0 HB HK hi hb hk; have HI0 := n0_; have HB := n1_; have HK := n2_; clear n0_ n1_ n2_)))
      obtain ⟨A, c, HG, hg, HS⟩ := HI0.out
      have HSA := Aside0.mk HS
      have hcz_0 := cellS74_0 HG
      have hcz_1 := cellS74_1 HG
      have hfz_1 := blk_frozen HG 1
      have hw1 : wrap64 (p + 1) = p + 1 := wrap64_id (by have := HP.out; omega)
      have HG2 := Aside0.mk (show (w1.setCell ⟨g, 1, none⟩ (.int .i64 (p + 1))).heap[g]? = some (.cells #[.slice A bs.length c, .int .i64 (p + 1)] 74 (0, 0)) by simpa using blk_set HG 1 (.int .i64 (p + 1)))
      have HI2 := Aside0.mk (IsS74.set_1 HI0.out (p + 1))
      have HB2 := Aside0.mk (below_set HB.out hg (j := 1) (v := .int .i64 (p + 1)))
      have HK2 := Aside0.mk (KeepBut.set_ HK.out 1 (.int .i64 (p + 1)))
      clear HG HS
      go_upto_region 6 with (fail)
      generalize w1.setCell ⟨g, 1, none⟩ (.int .i64 (p + 1)) = w2 at HG2 HI2 HB2 HK2 ⊢
      have hm : wrap64 p = p := wrap64_id (by have := HP.out; omega)
      have HCA := Aside0.mk (show 0 ≤ p + 1 ∧ p + 1 ≤ (c : Int) by have := HP.out; have := HLT.out; have := HSA.out.2; omega)
      have HCB := Aside0.mk (show 0 ≤ p ∧ p ≤ max (p + 1) 0 by have := HP.out; omega)
      refine start_ (n := 19) (S := fun w' => w'.cell? ⟨g, 0, none⟩ = some (.slice A bs.length c) ∧ w'.cell? ⟨g, 1, none⟩ = some (.int .i64 (p + 1))) (ds := []) #[false, false, false, false, false, false, false, false, false, false, false, false, false, false, false, false, false, false, false] (by kernel_rfl) rfl rfl ⟨(blk_cell HG2.out 0).trans rfl, (blk_cell HG2.out 1).trans rfl⟩ (fun hHeld => ?_); refine with_tabW octet_Reader_Take.tab6 octet_Reader_Take.bits6 (fun HT_ HW_ => ?_)
      have n1_ := Aside0.mk (below_drew1 HB2.out)
      have n2_ := Aside0.mk (blk_drew HG2.out)
      have n3_ := Aside0.mk (IsS74.drew HI2.out)
      have n4_ := Aside0.mk (keep_drew HK2.out)
      clear HB2 HG2 HI2 HK2
      have HB2 := n1_
      have HG2 := n2_
      have HI2 := n3_
      have HK2 := n4_
      clear n1_ n2_ n3_ n4_
      generalize w2.drew = w3 at HB2 HG2 HI2 HK2 hHeld ⊢
      refine pure_ (i := 1) (N := some 23) (v := ?_) (a' := ?_) #[false, true, false, false, false, false, false, false, false, false, false, false, false, false, false, false, false, false, false] rfl rfl (any_of HT_.out (by kernel_rfl)) (fun _ _ _ h => h) (Or.inl ⟨by rfl, ?_⟩) ?_ ?_
      rotate_left
      · intro w'
        go_simp
        with_reducible rfl
      rotate_left
      · simp only [Act.put, List.setIfInBounds_toArray, List.set_cons_zero, List.set_cons_succ, i64_w, i32_w]
        rfl
      refine pure_ (i := 2) (N := some 24) (v := ?_) (a' := ?_) #[false, true, true, false, false, false, false, false, false, false, false, false, false, false, false, false, false, false, false] rfl rfl (any_of HT_.out (by kernel_rfl)) (fun _ _ _ h => h) (Or.inl ⟨by rfl, ?_⟩) ?_ ?_
      rotate_left
      · intro w'
        go_simp
        with_reducible rfl
      rotate_left
      · simp only [Act.put, List.setIfInBounds_toArray, List.set_cons_zero, List.set_cons_succ, i64_w, i32_w]
        rfl
      refine pure_ (i := 3) (N := some 25) (v := ?_) (a' := ?_) #[false, true, true, true, false, false, false, false, false, false, false, false, false, false, false, false, false, false, false] rfl rfl (any_of HT_.out (by kernel_rfl)) (fun _ _ _ h => h) (Or.inl ⟨by rfl, ?_⟩) ?_ ?_
      rotate_left
      · intro w'
        go_simp
        with_reducible rfl
      rotate_left
      · simp only [Act.put, List.setIfInBounds_toArray, List.set_cons_zero, List.set_cons_succ, i64_w, i32_w]
        rfl
      refine pure_ (i := 5) (N := some 27) (v := ?_) (a' := ?_) #[false, true, true, true, false, true, false, false, false, false, false, false, false, false, false, false, false, false, false] rfl rfl (any_of HT_.out (by kernel_rfl)) (fun _ _ _ h => h) (Or.inl ⟨by rfl, ?_⟩) ?_ ?_
      rotate_left
      · intro w'
        go_simp
        with_reducible rfl
      rotate_left
      · simp only [Act.put, List.setIfInBounds_toArray, List.set_cons_zero, List.set_cons_succ, i64_w, i32_w]
        rfl
      refine pure_ (i := 6) (N := some 28) (v := ?_) (a' := ?_) #[false, true, true, true, false, true, true, false, false, false, false, false, false, false, false, false, false, false, false] rfl rfl (any_of HT_.out (by kernel_rfl)) (fun _ _ _ h => h) (Or.inl ⟨by rfl, ?_⟩) ?_ ?_
      rotate_left
      · intro w'
        go_simp
        with_reducible rfl
      rotate_left
      · simp only [Act.put, List.setIfInBounds_toArray, List.set_cons_zero, List.set_cons_succ, i64_w, i32_w]
        rfl
      refine pure_ (i := 7) (N := some 29) (v := ?_) (a' := ?_) #[false, true, true, true, false, true, true, true, false, false, false, false, false, false, false, false, false, false, false] rfl rfl (any_of HT_.out (by kernel_rfl)) (fun _ _ _ h => h) (Or.inl ⟨by rfl, ?_⟩) ?_ ?_
      rotate_left
      · intro w'
        go_simp
        with_reducible rfl
      rotate_left
      · simp only [Act.put, List.setIfInBounds_toArray, List.set_cons_zero, List.set_cons_succ, i64_w, i32_w]
        rfl
      refine pure_ (i := 9) (N := some 31) (v := ?_) (a' := ?_) #[false, true, true, true, false, true, true, true, false, true, false, false, false, false, false, false, false, false, false] rfl rfl (any_of HT_.out (by kernel_rfl)) (fun _ _ _ h => h) (Or.inl ⟨by rfl, ?_⟩) ?_ ?_
      rotate_left
      · intro w'
        go_simp
        with_reducible rfl
      rotate_left
      · simp only [Act.put, List.setIfInBounds_toArray, List.set_cons_zero, List.set_cons_succ, i64_w, i32_w]
        rfl
      refine pure_ (i := 11) (N := some 33) (v := ?_) (a' := ?_) #[false, true, true, true, false, true, true, true, false, true, false, true, false, false, false, false, false, false, false] rfl rfl (any_of HT_.out (by kernel_rfl)) (fun _ _ _ h => h) (Or.inl ⟨by rfl, ?_⟩) ?_ ?_
      rotate_left
      · intro w'
        go_simp
        with_reducible rfl
      rotate_left
      · simp only [Act.put, List.setIfInBounds_toArray, List.set_cons_zero, List.set_cons_succ, i64_w, i32_w]
        rfl
      refine pure_ (i := 12) (N := some 34) (v := ?_) (a' := ?_) #[false, true, true, true, false, true, true, true, false, true, false, true, true, false, false, false, false, false, false] rfl rfl (any_of HT_.out (by kernel_rfl)) (fun _ _ _ h => h) (Or.inl ⟨by rfl, ?_⟩) ?_ ?_
      rotate_left
      · intro w'
        go_simp
        with_reducible rfl
      rotate_left
      · simp only [Act.put, List.setIfInBounds_toArray, List.set_cons_zero, List.set_cons_succ, i64_w, i32_w]
        rfl
      refine pure_ (i := 13) (N := some 35) (v := ?_) (a' := ?_) #[false, true, true, true, false, true, true, true, false, true, false, true, true, true, false, false, false, false, false] rfl rfl (any_of HT_.out (by kernel_rfl)) (fun _ _ _ h => h) (Or.inl ⟨by rfl, ?_⟩) ?_ ?_
      rotate_left
      · intro w'
        go_simp
        with_reducible rfl
      rotate_left
      · simp only [Act.put, List.setIfInBounds_toArray, List.set_cons_zero, List.set_cons_succ, i64_w, i32_w]
        rfl
      refine take_ (i := 4) (N := some 26) (v := ?_) (a' := ?_) #[false, true, true, true, true, true, true, true, false, true, false, true, true, true, false, false, false, false, false] rfl rfl (take_ofW HT_.out HW_.out (by kernel_rfl)) (fun _ _ _ h => h) (Or.inl ⟨by rfl, ?_⟩) hHeld ?_ ?_
      rotate_left
      · rintro w' ⟨s0, s1⟩
        go_simp
        with_reducible rfl
      rotate_left
      · simp only [Act.put, List.setIfInBounds_toArray, List.set_cons_zero, List.set_cons_succ, i64_w, i32_w]
        rfl
      refine take_ (i := 8) (N := some 30) (v := ?_) (a' := ?_) #[false, true, true, true, true, true, true, true, true, true, false, true, true, true, false, false, false, false, false] rfl rfl (take_ofW HT_.out HW_.out (by kernel_rfl)) (fun _ _ _ h => h) (Or.inl ⟨by rfl, ?_⟩) hHeld ?_ ?_
      rotate_left
      · rintro w' ⟨s0, s1⟩
        go_simp
        with_reducible rfl
      rotate_left
      · simp only [Act.put, List.setIfInBounds_toArray, List.set_cons_zero, List.set_cons_succ, i64_w, i32_w]
        rfl
      refine take_ (i := 14) (N := some 36) (v := ?_) (a' := ?_) #[false, true, true, true, true, true, true, true, true, true, false, true, true, true, true, false, false, false, false] rfl rfl (take_ofW HT_.out HW_.out (by kernel_rfl)) (fun _ _ _ h => h) (Or.inl ⟨by rfl, ?_⟩) hHeld ?_ ?_
      rotate_left
      · rintro w' ⟨s0, s1⟩
        go_simp
        with_reducible rfl
      rotate_left
      · simp only [Act.put, List.setIfInBounds_toArray, List.set_cons_zero, List.set_cons_succ, i64_w, i32_w]
        rfl
      refine pure_ (i := 10) (N := some 32) (v := ?_) (a' := ?_) #[false, true, true, true, true, true, true, true, true, true, true, true, true, true, true, false, false, false, false] rfl rfl (any_of HT_.out (by kernel_rfl)) (fun _ _ _ h => h) (Or.inl ⟨by rfl, ?_⟩) ?_ ?_
      rotate_left
      · intro w'
        go_simp
        with_reducible rfl
      rotate_left
      · simp only [Act.put, List.setIfInBounds_toArray, List.set_cons_zero, List.set_cons_succ, i64_w, i32_w]
        rfl
      refine pure_ (i := 15) (N := some 37) (v := ?_) (a' := ?_) #[false, true, true, true, true, true, true, true, true, true, true, true, true, true, true, true, false, false, false] rfl rfl (any_of HT_.out (by kernel_rfl)) (fun _ _ _ h => h) (Or.inl ⟨by rfl, ?_⟩) ?_ ?_
      rotate_left
      · intro w'
        go_simp
        rw [if_pos HCA.out, if_pos HCB.out]
      rotate_left
      · simp only [Act.put, List.setIfInBounds_toArray, List.set_cons_zero, List.set_cons_succ, i64_w, i32_w]
        rfl
      refine one_ (i := 0) (N := some 22) #[true, true, true, true, true, true, true, true, true, true, true, true, true, true, true, true, false, false, false] rfl rfl (one_of HT_.out (by kernel_rfl)) (by decide) (fun K hK => ?_)
      refine Kd.R_lit_step (Kd.int .u8) _ 5 ?hg (N := 22) ?hd (xs := ([] : List Int)) (inner := []) (ok := fun _ => True) (okp := fun _ => True) ?hr ?hp (fun _ hk => hk) trivial (Below.refl _ _) (Nat.le_refl _) (by simp) ?_; (case hd => rfl); (case hg => rfl); (case hr => first | (go_simp; done) | (go_simp; rfl)); (case hp => exact (Reps.none _ _))
      intro v22 w22 ho22 hb hg_ hnew_
      have HN22 := Aside0.mk (show ∃ b, v22.ownBlock = some b ∧ w.heap.size ≤ b from by obtain ⟨b, hb1, hb2⟩ := hnew_; exact ⟨b, hb1, Nat.le_trans HK2.out.1 hb2⟩)
      have HO22 := Aside0.mk (Kd.R_mono (ok' := fun k => k ≠ g) (Kd.R_lower (Kd.R_bound ho22) (below_size HB2.out)) (fun k hk => by have := blk_lt HG2.out; have := hk.2.1; omega))
      have n1_ := Aside0.mk (below_step HB2.out hb)
      have n2_ := Aside0.mk (blk_below HG2.out hb)
      have n3_ := Aside0.mk (IsS74.below HI2.out hb)
      have n4_ := Aside0.mk (keep_below HK2.out hb)
      clear HB2 HG2 HI2 HK2 hb hg_ hnew_ ho22
      have HB2 := n1_
      have HG2 := n2_
      have HI2 := n3_
      have HK2 := n4_
      clear n1_ n2_ n3_ n4_
      refine hK.out _ _ ⟨(blk_cell HG2.out 0).trans rfl, (blk_cell HG2.out 1).trans rfl⟩ (fun hHeld => ?_)
      clear hK K
      refine norm_ (a' := ?_) ?_ ?_
      rotate_left
      · show Act.put _ (some 22) _ = _
        simp only [Act.put, List.setIfInBounds_toArray, List.set_cons_zero, List.set_cons_succ, i64_w, i32_w]
        rfl
      refine one_ (i := 16) (N := some 38) #[true, true, true, true, true, true, true, true, true, true, true, true, true, true, true, true, true, false, false] rfl rfl (one_of HT_.out (by kernel_rfl)) (by decide) (fun K hK => ?_)
      have e1 : (p + 1).toNat - p.toNat = 1 := by have := HP.out; omega
      have hC : Kd.C (Kd.int .u8) w22 (if c = p.toNat then A else Option.map (fun x => x.add p.toNat) A) ((p + 1).toNat - p.toNat) [rd bs p] := by
        have h := Kd.C_mid (k := Kd.int .u8) (lo := p.toNat) (hi := (p + 1).toNat) (c := c) (Kd.C_below HSA.out.1 HB2.out) (by have := HP.out; omega) (by have := HP.out; have := HLT.out; omega) HSA.out.2
        have e : (bs.take (p + 1).toNat).drop p.toNat = [rd bs p] := by
          have hlt : p.toNat < bs.length := by have := HP.out; have := HLT.out; omega
          rw [show (p + 1).toNat = p.toNat + 1 by have := HP.out; omega, List.take_succ_eq_append_getElem hlt, List.drop_left' (by simp; omega)]
          simp [rd, hlt]
        rw [e] at h
        rw [e1]
        simpa [Kd.int, Kd.scalar] using h
      refine Kd.R_append_rows_step (Kd.int .u8) (w0 := w0) w0.heap.size (by rfl) (.tmp 22) (.tmp 37) 38 5 (.int .u8 0) 1 rfl Tryd.underlying38 info5 rfl (by decide) (by omega) v22 ([] : List Int) [rd bs p] _ _ _ (fun k => k ≠ g) (fun _ => False) rfl rfl HO22.out hC (fun _ _ h => h) (fun _ h => h.elim) (fun k hk => by have := blk_lt HG2.out; omega) HB2.out (below_size HB2.out) (by simp; omega) ?_
      intro v38 w38 ho hb hg_ hat
      have HO38 := Aside0.mk ho
      have n1_ := Aside0.mk hb
      have n2_ := Aside0.mk (blk_grown HG2.out hg_ (Kd.R_away HO22.out (fun _ h => h)))
      have n3_ := Aside0.mk (IsS74.grown HI2.out hg_ (Kd.R_away HO22.out (fun _ h => h)))
      have n4_ := Aside0.mk (HK2.out.trans (KeepBut.of_grown hg_ g) (.inr HN22.out))
      clear HB2 HG2 HI2 HK2 hb hg_ ho hC hat
      have HB2 := n1_
      have HG2 := n2_
      have HI2 := n3_
      have HK2 := n4_
      clear n1_ n2_ n3_ n4_
      refine hK.out _ _ ⟨(blk_cell HG2.out 0).trans rfl, (blk_cell HG2.out 1).trans rfl⟩ (fun hHeld => ?_)
      clear hK K
      refine norm_ (a' := ?_) ?_ ?_
      rotate_left
      · show Act.put _ (some 38) _ = _
        simp only [Act.put, List.setIfInBounds_toArray, List.set_cons_zero, List.set_cons_succ, i64_w, i32_w]
        rfl
      refine pure_ (i := 17) (N := some 4) (v := ?_) (a' := ?_) #[true, true, true, true, true, true, true, true, true, true, true, true, true, true, true, true, true, true, false] rfl rfl (any_of HT_.out (by kernel_rfl)) (fun _ _ _ h => h) (Or.inl ⟨by rfl, ?_⟩) ?_ ?_
      rotate_left
      · intro w'
        go_simp
        with_reducible rfl
      rotate_left
      · simp only [Act.put, List.setIfInBounds_toArray, List.set_cons_zero, List.set_cons_succ, i64_w, i32_w]
        rfl
      refine pure_ (i := 18) (N := some 5) (v := ?_) (a' := ?_) #[true, true, true, true, true, true, true, true, true, true, true, true, true, true, true, true, true, true, true] rfl rfl (any_of HT_.out (by kernel_rfl)) (fun _ _ _ h => h) (Or.inl ⟨by rfl, ?_⟩) ?_ ?_
      rotate_left
      · intro w'
        go_simp
        with_reducible rfl
      rotate_left
      · simp only [Act.put, List.setIfInBounds_toArray, List.set_cons_zero, List.set_cons_succ, i64_w, i32_w]
        rfl
      refine done_ (done_of HT_.out (by kernel_rfl)) ?_
      go_wp2
      all_goals (go_ret2; exact ⟨_, rfl, HO38.out, HI2.out, HB2.out, HK2.out⟩)
    · rename_i hlt
      cases h
      have c1 : decide (1 > (bs.length : Int) - p) = true := decide_eq_true (by have := HP.out; omega)
      have c2 : decide ((bs.length : Int) - p < 1) = true := decide_eq_true (by have := HP.out; omega)
      have hl : octet_Reader_Left.f bs p = some ((bs.length : Int) - p, p) := by unfold octet_Reader_Left.f; rw [wrap64_id (by have := HP.out; omega)]
      have HLF := Aside0.mk hl
      clear hl hlt
      go_enter Tryd.func46, Tryd.ntmps46
      go_wp2_with (first | (go_at_call 39; go_must (refine (octet_Reader_Left.calls g bs p _ _ w0 _ HI0.out HB.out HLF.out).mono ?_; rintro e w1 ⟨rfl, hi, hb, hk⟩; have n0_ := Aside0.mk hi; have n1_ := Aside0.mk hb; have n2_ := Aside0.mk hk; clear HI0 HB HK hi hb hk; have HI0 := n0_; have HB := n1_; have HK := n2_; clear n0_ n1_ n2_)))
      go_ret2
      exact ⟨_, rfl, Kd.R_nil _ _ _ _ _, HI0.out, HB.out, HK.out⟩
  · cases h

/-! ### octet_Reader_Uint: function 47 -/
def octet_Reader_Uint.f (k : Nat) (bs : List Int) (p : Int) (limit : Int) : Option (Int × Int × Int) :=
  if 0 ≤ p ∧ p ≤ bs.length ∧ bs.length ≤ 140737488355328 then
    (octet_varint.f k (bs.drop p.toNat)).bind fun t => if t.2.2 = 0 then (if t.1 > limit then some (0, 42, p) else some (t.1, 0, wrap64 (p + t.2.1))) else some (0, t.2.2, p)
  else none
def octet_Reader_Uint.T1 : Bool × List (List Nat × List Nat) := (true, [([], []), ([0], [0]), ([1], [1]), ([2], [2]), ([], []), ([4], [4]), ([5], [5]), ([6], [6]), ([3, 7], [3, 7]), ([8], [8]), ([9], [9]), ([10], [10]), ([10], [10]), ([10], [10]), ([11, 9, 0, 1, 2, 3, 4, 5, 6, 7, 8, 9, 10, 11], [11]), ([12, 14, 0, 1, 2, 3, 4, 5, 6, 7, 8, 9, 10, 11, 12, 14], [12]), ([13, 15, 0, 1, 2, 3, 4, 5, 6, 7, 8, 9, 10, 11, 12, 13, 14, 15], [13])])
def octet_Reader_Uint.B1 : List Nat := [0, 1, 3, 7, 0, 16, 48, 112, 255, 511, 1023, 2047, 2047, 2047, 4095, 24575, 65535]
theorem octet_Reader_Uint.tab1 : rtab .any (opsOf Tryd.f47 1) = octet_Reader_Uint.T1 := by kernel_rfl
theorem octet_Reader_Uint.bits1 : waitsOk octet_Reader_Uint.T1.2 octet_Reader_Uint.B1 = true := by kernel_rfl
set_option maxHeartbeats 8000000 in
set_option maxRecDepth 100000 in
theorem octet_Reader_Uint.calls (k : Nat) (g : Nat) (bs : List Int) (p limit : Int) (r1 r2 r3 : Int) (w0 w : World) (hI : IsS74 w0 w g bs p) (hB : Below w0.heap.size w0 w) (h : octet_Reader_Uint.f k bs p limit = some (r1, r2, r3)) :
    Calls Tryd.prog 47 #[.pointer (some ⟨g, 0, none⟩), .int .u64 limit] w fun e w' => e = .returned (.tuple #[.int .u64 r1, .int .i64 r2]) ∧ IsS74 w0 w' g bs r3 ∧ Below w0.heap.size w0 w' ∧ KeepBut w w' g none := by
  unfold octet_Reader_Uint.f at h
  split at h
  · rename_i hp
    have HP := Aside0.mk hp
    have HI0 := Aside0.mk hI
    have HK := Aside0.mk (KeepBut.refl w g none)
    have HB := Aside0.mk hB
    clear hI hB hp
    replace h := Option.bind_eq_some_iff.mp h
    obtain ⟨⟨x, n, e⟩, hv, h⟩ := h
    have HV := Aside0.mk hv
    have H := Aside0.mk h
    clear hv h
    obtain ⟨A, c, HG, hg, HS⟩ := HI0.out
    have HSA := Aside0.mk HS
    have HG2 := Aside0.mk HG
    have HCB := Aside0.mk (show 0 ≤ p ∧ p ≤ (bs.length : Int) by have := HP.out; omega)
    clear HG HS
    go_enter Tryd.func47, Tryd.ntmps47
    go_upto_region 1 with (fail)
    refine start_ (n := 17) (S := fun w' => w'.cell? ⟨g, 0, none⟩ = some (.slice A bs.length c) ∧ w'.cell? ⟨g, 1, none⟩ = some (.int .i64 p)) (ds := []) #[false, false, false, false, false, false, false, false, false, false, false, false, false, false, false, false, false] (by kernel_rfl) rfl rfl ⟨(blk_cell HG2.out 0).trans rfl, (blk_cell HG2.out 1).trans rfl⟩ (fun hHeld => ?_); refine with_tabW octet_Reader_Uint.tab1 octet_Reader_Uint.bits1 (fun HT_ HW_ => ?_)
    have n1_ := Aside0.mk (below_drew1 HB.out)
    have n2_ := Aside0.mk (blk_drew HG2.out)
    have n3_ := Aside0.mk (IsS74.drew HI0.out)
    have n4_ := Aside0.mk (keep_drew HK.out)
    clear HB HG2 HI0 HK
    have HB := n1_
    have HG2 := n2_
    have HI0 := n3_
    have HK := n4_
    clear n1_ n2_ n3_ n4_
    generalize w.drew = w3 at HB HG2 HI0 HK hHeld ⊢
    have hC : Kd.C (Kd.int .u8) w3 (if c = p.toNat then A else Option.map (fun x => x.add p.toNat) A) (bs.drop p.toNat).length (bs.drop p.toNat) := by
      have h := Kd.C_drop (k := Kd.int .u8) (m := p.toNat) (c := c) (Kd.C_below HSA.out.1 HB.out) (by have := HP.out; omega) HSA.out.2
      simpa [Kd.int, Kd.scalar] using h
    have hCc : (bs.drop p.toNat).length ≤ c - p.toNat := by rw [List.length_drop]; have := HSA.out.2; omega
    refine pure_ (i := 0) (N := some 10) (v := ?_) (a' := ?_) #[true, false, false, false, false, false, false, false, false, false, false, false, false, false, false, false, false] rfl rfl (any_of HT_.out (by kernel_rfl)) (fun _ _ _ h => h) (Or.inl ⟨by rfl, ?_⟩) ?_ ?_
    rotate_left
    · intro w'
      go_simp
      with_reducible rfl
    rotate_left
    · simp only [Act.put, List.setIfInBounds_toArray, List.set_cons_zero, List.set_cons_succ, i64_w, i32_w]
      rfl
    refine pure_ (i := 1) (N := some 11) (v := ?_) (a' := ?_) #[true, true, false, false, false, false, false, false, false, false, false, false, false, false, false, false, false] rfl rfl (any_of HT_.out (by kernel_rfl)) (fun _ _ _ h => h) (Or.inl ⟨by rfl, ?_⟩) ?_ ?_
    rotate_left
    · intro w'
      go_simp
      with_reducible rfl
    rotate_left
    · simp only [Act.put, List.setIfInBounds_toArray, List.set_cons_zero, List.set_cons_succ, i64_w, i32_w]
      rfl
    refine pure_ (i := 2) (N := some 12) (v := ?_) (a' := ?_) #[true, true, true, false, false, false, false, false, false, false, false, false, false, false, false, false, false] rfl rfl (any_of HT_.out (by kernel_rfl)) (fun _ _ _ h => h) (Or.inl ⟨by rfl, ?_⟩) ?_ ?_
    rotate_left
    · intro w'
      go_simp
      with_reducible rfl
    rotate_left
    · simp only [Act.put, List.setIfInBounds_toArray, List.set_cons_zero, List.set_cons_succ, i64_w, i32_w]
      rfl
    refine pure_ (i := 4) (N := some 14) (v := ?_) (a' := ?_) #[true, true, true, false, true, false, false, false, false, false, false, false, false, false, false, false, false] rfl rfl (any_of HT_.out (by kernel_rfl)) (fun _ _ _ h => h) (Or.inl ⟨by rfl, ?_⟩) ?_ ?_
    rotate_left
    · intro w'
      go_simp
      with_reducible rfl
    rotate_left
    · simp only [Act.put, List.setIfInBounds_toArray, List.set_cons_zero, List.set_cons_succ, i64_w, i32_w]
      rfl
    refine pure_ (i := 5) (N := some 15) (v := ?_) (a' := ?_) #[true, true, true, false, true, true, false, false, false, false, false, false, false, false, false, false, false] rfl rfl (any_of HT_.out (by kernel_rfl)) (fun _ _ _ h => h) (Or.inl ⟨by rfl, ?_⟩) ?_ ?_
    rotate_left
    · intro w'
      go_simp
      with_reducible rfl
    rotate_left
    · simp only [Act.put, List.setIfInBounds_toArray, List.set_cons_zero, List.set_cons_succ, i64_w, i32_w]
      rfl
    refine pure_ (i := 6) (N := some 16) (v := ?_) (a' := ?_) #[true, true, true, false, true, true, true, false, false, false, false, false, false, false, false, false, false] rfl rfl (any_of HT_.out (by kernel_rfl)) (fun _ _ _ h => h) (Or.inl ⟨by rfl, ?_⟩) ?_ ?_
    rotate_left
    · intro w'
      go_simp
      with_reducible rfl
    rotate_left
    · simp only [Act.put, List.setIfInBounds_toArray, List.set_cons_zero, List.set_cons_succ, i64_w, i32_w]
      rfl
    refine take_ (i := 3) (N := some 13) (v := ?_) (a' := ?_) #[true, true, true, true, true, true, true, false, false, false, false, false, false, false, false, false, false] rfl rfl (take_ofW HT_.out HW_.out (by kernel_rfl)) (fun _ _ _ h => h) (Or.inl ⟨by rfl, ?_⟩) hHeld ?_ ?_
    rotate_left
    · rintro w' ⟨s0, s1⟩
      go_simp
      with_reducible rfl
    rotate_left
    · simp only [Act.put, List.setIfInBounds_toArray, List.set_cons_zero, List.set_cons_succ, i64_w, i32_w]
      rfl
    refine take_ (i := 7) (N := some 17) (v := ?_) (a' := ?_) #[true, true, true, true, true, true, true, true, false, false, false, false, false, false, false, false, false] rfl rfl (take_ofW HT_.out HW_.out (by kernel_rfl)) (fun _ _ _ h => h) (Or.inl ⟨by rfl, ?_⟩) hHeld ?_ ?_
    rotate_left
    · rintro w' ⟨s0, s1⟩
      go_simp
      with_reducible rfl
    rotate_left
    · simp only [Act.put, List.setIfInBounds_toArray, List.set_cons_zero, List.set_cons_succ, i64_w, i32_w]
      rfl
    refine pure_ (i := 8) (N := some 18) (v := ?_) (a' := ?_) #[true, true, true, true, true, true, true, true, true, false, false, false, false, false, false, false, false] rfl rfl (any_of HT_.out (by kernel_rfl)) (fun _ _ _ h => h) (Or.inl ⟨by rfl, ?_⟩) ?_ ?_
    rotate_left
    · intro w'
      go_simp
      rw [if_pos HCB.out]
    rotate_left
    · simp only [Act.put, List.setIfInBounds_toArray, List.set_cons_zero, List.set_cons_succ, i64_w, i32_w]
      rfl
    refine one_ (i := 9) (N := some 19) #[true, true, true, true, true, true, true, true, true, true, false, false, false, false, false, false, false] rfl rfl (one_of HT_.out (by kernel_rfl)) (by decide) (fun K hK => ?_)
    refine goes_ Tryd.func50 (by kernel_rfl) rfl #[.slice (if c = p.toNat then A else Option.map (fun x => x.add p.toNat) A) (bs.drop p.toNat).length (c - p.toNat)] (by rfl) rfl rfl (by (try simp only [List.map_toArray, List.map_cons, List.map_nil]); first | done | rfl | (simp only [List.length_drop, List.length_take]; rfl)) ?_
    refine (octet_varint.calls k _ _ (bs.drop p.toNat) x n e _ hC hCc HV.out).mono ?_
    rintro e_ w5 ⟨rfl, hb⟩
    refine ⟨_, rfl, ?_⟩
    have n1_ := Aside0.mk (below_step HB.out hb)
    have n2_ := Aside0.mk (blk_below HG2.out hb)
    have n3_ := Aside0.mk (IsS74.below HI0.out hb)
    have n4_ := Aside0.mk (keep_below HK.out hb)
    clear HB HG2 HI0 HK hb
    have HB := n1_
    have HG2 := n2_
    have HI0 := n3_
    have HK := n4_
    clear n1_ n2_ n3_ n4_
    refine hK.out _ _ ⟨(blk_cell HG2.out 0).trans rfl, (blk_cell HG2.out 1).trans rfl⟩ (fun hHeld => ?_)
    clear hK K
    refine norm_ (a' := ?_) ?_ ?_
    rotate_left
    · show Act.put _ (some 19) _ = _
      simp only [Act.put, List.setIfInBounds_toArray, List.set_cons_zero, List.set_cons_succ, i64_w, i32_w]
      rfl
    refine pure_ (i := 10) (N := some 9) (v := ?_) (a' := ?_) #[true, true, true, true, true, true, true, true, true, true, true, false, false, false, false, false, false] rfl rfl (any_of HT_.out (by kernel_rfl)) (fun _ _ _ h => h) (Or.inl ⟨by rfl, ?_⟩) ?_ ?_
    rotate_left
    · intro w'
      go_simp
      with_reducible rfl
    rotate_left
    · simp only [Act.put, List.setIfInBounds_toArray, List.set_cons_zero, List.set_cons_succ, i64_w, i32_w]
      rfl
    refine pure_ (i := 11) (N := some 20) (v := ?_) (a' := ?_) #[true, true, true, true, true, true, true, true, true, true, true, true, false, false, false, false, false] rfl rfl (any_of HT_.out (by kernel_rfl)) (fun _ _ _ h => h) (Or.inl ⟨by rfl, ?_⟩) ?_ ?_
    rotate_left
    · intro w'
      go_simp
      with_reducible rfl
    rotate_left
    · simp only [Act.put, List.setIfInBounds_toArray, List.set_cons_zero, List.set_cons_succ, i64_w, i32_w]
      rfl
    refine pure_ (i := 12) (N := some 21) (v := ?_) (a' := ?_) #[true, true, true, true, true, true, true, true, true, true, true, true, true, false, false, false, false] rfl rfl (any_of HT_.out (by kernel_rfl)) (fun _ _ _ h => h) (Or.inl ⟨by rfl, ?_⟩) ?_ ?_
    rotate_left
    · intro w'
      go_simp
      with_reducible rfl
    rotate_left
    · simp only [Act.put, List.setIfInBounds_toArray, List.set_cons_zero, List.set_cons_succ, i64_w, i32_w]
      rfl
    refine pure_ (i := 13) (N := some 22) (v := ?_) (a' := ?_) #[true, true, true, true, true, true, true, true, true, true, true, true, true, true, false, false, false] rfl rfl (any_of HT_.out (by kernel_rfl)) (fun _ _ _ h => h) (Or.inl ⟨by rfl, ?_⟩) ?_ ?_
    rotate_left
    · intro w'
      go_simp
      with_reducible rfl
    rotate_left
    · simp only [Act.put, List.setIfInBounds_toArray, List.set_cons_zero, List.set_cons_succ, i64_w, i32_w]
      rfl
    refine pure_ (i := 14) (N := some 6) (v := ?_) (a' := ?_) #[true, true, true, true, true, true, true, true, true, true, true, true, true, true, true, false, false] rfl rfl (any_of HT_.out (by kernel_rfl)) (fun _ _ _ h => h) (Or.inl ⟨by rfl, ?_⟩) ?_ ?_
    rotate_left
    · intro w'
      go_simp
      with_reducible rfl
    rotate_left
    · simp only [Act.put, List.setIfInBounds_toArray, List.set_cons_zero, List.set_cons_succ, i64_w, i32_w]
      rfl
    refine pure_ (i := 15) (N := some 7) (v := ?_) (a' := ?_) #[true, true, true, true, true, true, true, true, true, true, true, true, true, true, true, true, false] rfl rfl (any_of HT_.out (by kernel_rfl)) (fun _ _ _ h => h) (Or.inl ⟨by rfl, ?_⟩) ?_ ?_
    rotate_left
    · intro w'
      go_simp
      with_reducible rfl
    rotate_left
    · simp only [Act.put, List.setIfInBounds_toArray, List.set_cons_zero, List.set_cons_succ, i64_w, i32_w]
      rfl
    refine pure_ (i := 16) (N := some 8) (v := ?_) (a' := ?_) #[true, true, true, true, true, true, true, true, true, true, true, true, true, true, true, true, true] rfl rfl (any_of HT_.out (by kernel_rfl)) (fun _ _ _ h => h) (Or.inl ⟨by rfl, ?_⟩) ?_ ?_
    rotate_left
    · intro w'
      go_simp
      with_reducible rfl
    rotate_left
    · simp only [Act.put, List.setIfInBounds_toArray, List.set_cons_zero, List.set_cons_succ, i64_w, i32_w]
      rfl
    refine done_ (done_of HT_.out (by kernel_rfl)) ?_
    have hcz_0 : w5.cell? ⟨g, 0, none⟩ = some (.slice A bs.length c) := (blk_cell HG2.out 0).trans rfl
    have hcz_1 : w5.cell? ⟨g, 1, none⟩ = some (.int .i64 p) := (blk_cell HG2.out 1).trans rfl
    have hfz_1 := blk_frozen HG2.out 1
    have h : (if e = 0 then (if x > limit then some (0, 42, p) else some (x, 0, wrap64 (p + n))) else some (0, e, p)) = some (r1, r2, r3) := H.out
    clear H HV HG2 hC hCc hHeld
    by_cases he : e = 0
    · rw [if_pos he] at h
      have he0 : (e == 0) = true := beq_iff_eq.mpr he
      have he1 : (e != 0) = false := bne_eq_false_iff_eq.mpr he
      by_cases hx : x > limit
      · rw [if_pos hx] at h
        have hx0 : decide (x > limit) = true := decide_eq_true hx
        have hx1 : decide (limit < x) = true := decide_eq_true hx
        clear he hx
        cases h
        go_wp2
        all_goals (go_ret2; exact ⟨rfl, HI0.out, HB.out, HK.out⟩)
      · rw [if_neg hx] at h
        have hx0 : decide (x > limit) = false := decide_eq_false hx
        have hx1 : decide (limit < x) = false := decide_eq_false hx
        clear he hx
        cases h
        go_wp2
        all_goals (go_ret2; exact ⟨rfl, IsS74.set_1 HI0.out _, below_set HB.out hg, KeepBut.set_ HK.out 1 _⟩)
    · rw [if_neg he] at h
      have he0 : (e == 0) = false := beq_eq_false_iff_ne.mpr he
      have he1 : (e != 0) = true := bne_iff_ne.mpr he
      clear he
      cases h
      go_wp2
      all_goals (go_ret2; exact ⟨rfl, HI0.out, HB.out, HK.out⟩)
  · cases h

/-! ### code_read: function 38 -/
def code_read.one (k : Nat) (bs : List Int) (op a : Int) (p lb : Int) (u : Int × Int × Int) (b : Int) : Option (Int × Int × Int × Int × Int × Int) :=
  if u.2.1 = 0 then (if Pure.opn op = 1 then some (op, wrap64 u.1, 0, 0, 0, u.2.2)
    else (octet_Reader_Uint.f k bs u.2.2 (IntKind.u64.wrap b)).bind fun v =>
      if v.2.1 = 0 then some (op, wrap64 u.1, wrap64 v.1, 0, 0, v.2.2) else some (0, 0, 0, if v.2.1 = 41 then lb else u.2.2, v.2.1, v.2.2))
  else some (0, 0, 0, if u.2.1 = 41 then lb else p, u.2.1, u.2.2)
def code_read.f (k : Nat) (bs : List Int) (p : Int) (lb : Int) : Option (Int × Int × Int × Int × Int × Int) :=
  (octet_Reader_Take.f bs p).bind fun t => if t.2.1 = 0 then
    (if 0 ≤ wrap64 (rd t.1 0) ∧ wrap64 (rd t.1 0) < 29 then
      (if Pure.opn (wrap64 (rd t.1 0)) = 0 then some (wrap64 (rd t.1 0), 0, 0, 0, 0, t.2.2)
      else (octet_Reader_Uint.f k bs t.2.2 (IntKind.u64.wrap (Pure.kat (wrap64 (rd t.1 0)).toNat).a)).bind fun u => code_read.one k bs (wrap64 (rd t.1 0)) (Pure.kat (wrap64 (rd t.1 0)).toNat).a t.2.2 lb u (Pure.kat (wrap64 (rd t.1 0)).toNat).b)
    else some (0, 0, 0, p, 111, t.2.2))
  else some (0, 0, 0, lb, t.2.1, t.2.2)
/-- The rounds that are to come: n of them, of number j; what the instruction holds so far. -/
def code_read.lp (k : Nat) (bs : List Int) (op ka kb lb : Int) : Nat → Nat → Int → Int → Int → Option (Int × Int × Int × Int × Int × Int)
  | 0, _, y1, y2, q => some (op, y1, y2, 0, 0, q)
  | n + 1, j, y1, y2, q => (octet_Reader_Uint.f k bs q (IntKind.u64.wrap (if j = 0 then ka else kb))).bind fun u =>
    if u.2.1 = 0 then code_read.lp k bs op ka kb lb n (j + 1) (if j = 0 then wrap64 u.1 else y1) (if j = 0 then y2 else wrap64 u.1) u.2.2
    else some (0, 0, 0, if u.2.1 = 41 then lb else q, u.2.1, u.2.2)
theorem code_read.lp_of (k : Nat) (bs : List Int) (op kn ka kb lb p : Int) (r : Int × Int × Int × Int × Int × Int) (hn : kn = 0 ∨ kn = 1 ∨ kn = 2)
    (h : (if kn = 0 then some (op, 0, 0, 0, 0, p) else (octet_Reader_Uint.f k bs p (IntKind.u64.wrap ka)).bind fun u =>
      if u.2.1 = 0 then (if kn = 1 then some (op, wrap64 u.1, 0, 0, 0, u.2.2)
        else (octet_Reader_Uint.f k bs u.2.2 (IntKind.u64.wrap kb)).bind fun v =>
          if v.2.1 = 0 then some (op, wrap64 u.1, wrap64 v.1, 0, 0, v.2.2) else some (0, 0, 0, if v.2.1 = 41 then lb else u.2.2, v.2.1, v.2.2))
      else some (0, 0, 0, if u.2.1 = 41 then lb else p, u.2.1, u.2.2)) = some r) :
    code_read.lp k bs op ka kb lb kn.toNat 0 0 0 p = some r := by
  rcases hn with rfl | rfl | rfl
  · exact h
  · exact h
  · exact h
/-- What is known behind the two arrays' making: the reader, what stays, the boxes, and that each is another. -/
def RF (w0 w W : World) (g : Nat) (bs : List Int) (q : Int) (g4 g10 g11 : Nat) (c4 c10 c11 : Array Value) (g12 g13 : Nat) : Prop :=
  IsS74 w0 W g bs q ∧ Below w0.heap.size w0 W ∧ KeepBut w W g none ∧ W.heap[g4]? = some (.cells c4 27 (0, 0)) ∧ W.heap[g10]? = some (.cells c10 27 (0, 0)) ∧ W.heap[g11]? = some (.cells c11 54 (0, 0)) ∧
  W.heap[g12]? = some (.cells #[.pointer none, .pointer none] 76 (0, 0)) ∧ W.heap[g13]? = some (.cells #[.int .i64 0, .int .i64 0] 77 (0, 0)) ∧ g12 ≠ g13 ∧
  (g12 ≠ g ∧ g12 ≠ g4 ∧ g12 ≠ g10 ∧ g12 ≠ g11 ∧ w0.heap.size ≤ g12 ∧ w.heap.size ≤ g12) ∧ (g13 ≠ g ∧ g13 ≠ g4 ∧ g13 ≠ g10 ∧ g13 ≠ g11 ∧ w0.heap.size ≤ g13 ∧ w.heap.size ≤ g13)
def code_read.T9 : Bool × List (List Nat × List Nat) := (true, [([], []), ([], []), ([0, 1], [0, 1]), ([], []), ([3], [3]), ([], []), ([5], [5]), ([4, 6], [4, 6]), ([], []), ([], []), ([8, 2, 0, 1, 2, 8, 9], [2, 8]), ([9, 7, 10, 0, 1, 2, 3, 4, 5, 6, 7, 8, 9, 10], [7, 9])])
def code_read.B9 : List Nat := [0, 0, 3, 0, 8, 0, 32, 120, 0, 0, 775, 2047]
theorem code_read.tab9 : rtab .any (opsOf Tryd.f38 9) = code_read.T9 := by kernel_rfl
theorem code_read.bits9 : waitsOk code_read.T9.2 code_read.B9 = true := by kernel_rfl
theorem blk_far {w : World} {a : Nat} {o : Obj} (h : w.heap[a]? = some o) {p : Addr} (ne : a ≠ p.block) (u : Value) : (w.setCell p u).heap[a]? = some o := (Below.heap_setCell w p u a ne).trans h
theorem blk_keepg {w W : World} {g a : Nat} {o : Obj} (h : w.heap[a]? = some o) (k : KeepBut w W g none) (ne : a ≠ g) : W.heap[a]? = some o := (k.2 a (blk_lt h) ne (by simp)).trans h
set_option maxHeartbeats 8000000 in
set_option maxRecDepth 100000 in
theorem code_read.calls (k : Nat) (g : Nat) (bs : List Int) (p : Int) (A1 : Option Addr) (n1 c1 : Nat) (r1 r2 r3 r4 r5 r6 : Int) (w0 w : World) (hI : IsS74 w0 w g bs p) (hB : Below w0.heap.size w0 w) (hG : Pure.Gl w0) (h : code_read.f k bs p n1 = some (r1, r2, r3, r4, r5, r6)) :
    Calls Tryd.prog 38 #[.pointer (some ⟨g, 0, none⟩), .slice A1 n1 c1] w fun e w' => e = .returned (.tuple #[.agg #[.int .i64 r1, .int .i64 r2, .int .i64 r3], .int .i64 r4, .int .i64 r5]) ∧ IsS74 w0 w' g bs r6 ∧ Below w0.heap.size w0 w' ∧ KeepBut w w' g none := by
  unfold code_read.f at h
  replace h := Option.bind_eq_some_iff.mp h
  obtain ⟨⟨l, e, q⟩, ht, h⟩ := h
  have HT := Aside0.mk ht
  have H := Aside0.mk h
  have HI0 := Aside0.mk hI
  have HK := Aside0.mk (KeepBut.refl w g none)
  have HB := Aside0.mk hB
  have HG := Aside0.mk hG
  have HPL := Aside0.mk (show octet_Reader_Place.f bs p = some (p, p) from rfl)
  clear ht h hI hB hG
  go_enter Tryd.func38, Tryd.ntmps38
  go_upto_region 3 with (first | ((with_reducible refine gate_dst (N := 4) rfl ?_); go_must (refine box_event ?hg (N := 4) ?hd (cs := #[.int .i64 0, .int .i64 0, .int .i64 0]) (t := 27) ?hr ?_; (case hd => rfl); (case hg => rfl); (case hr => first | (go_simp; done) | (go_simp; rfl)); intro gb4 hg wb4_ hbox hb; have BK4 := Aside0.mk hbox; have NE4 := Aside0.mk (show gb4 ≠ g from by have := IsS74.lt HI0.out; omega); have GE4 := Aside0.mk (show w0.heap.size ≤ gb4 from by rw [hg]; exact below_size HB.out); have GW4 := Aside0.mk (show w.heap.size ≤ gb4 from by rw [hg]; exact HK.out.1); have n0_ := Aside0.mk (IsS74.below HI0.out hb); have n1_ := Aside0.mk (below_step HB.out hb); have n2_ := Aside0.mk (keep_below HK.out hb); clear HI0 HB HK; have HI0 := n0_; have HB := n1_; have HK := n2_; clear n0_ n1_ n2_; clear hbox hb hg; have hcz4_0 : wb4_.cell? ⟨gb4, 0, none⟩ = some (.int .i64 0) := (blk_cell BK4.out 0).trans rfl; have hfz4_0 := blk_frozen BK4.out 0; have hcz4_1 : wb4_.cell? ⟨gb4, 1, none⟩ = some (.int .i64 0) := (blk_cell BK4.out 1).trans rfl; have hfz4_1 := blk_frozen BK4.out 1; have hcz4_2 : wb4_.cell? ⟨gb4, 2, none⟩ = some (.int .i64 0) := (blk_cell BK4.out 2).trans rfl; have hfz4_2 := blk_frozen BK4.out 2)) | (go_at_call 40; go_must (refine (octet_Reader_Place.calls g bs p _ _ w0 _ HI0.out HB.out HPL.out).mono ?_; rintro e_ wc_ ⟨rfl, hi, hb, hk⟩; have n0_ := Aside0.mk (hi); have n1_ := Aside0.mk (hb); have n2_ := Aside0.mk (HK.out.trans hk (.inl rfl)); have n3_ := Aside0.mk (blk_keepg BK4.out hk NE4.out); clear HI0 HB HK BK4; have HI0 := n0_; have HB := n1_; have HK := n2_; have BK4 := n3_; clear n0_ n1_ n2_ n3_)) | (go_at_call 46; go_must (refine (octet_Reader_Take.calls g bs p l e q w0 _ HI0.out HB.out HT.out).mono ?_; rintro e_ wc_ ⟨v, rfl, ho, hi, hb, hk⟩; have n0_ := Aside0.mk (hi); have n1_ := Aside0.mk (hb); have n2_ := Aside0.mk (HK.out.trans hk (.inl rfl)); have n3_ := Aside0.mk (blk_keepg BK4.out hk NE4.out); clear HI0 HB HK BK4; have HI0 := n0_; have HB := n1_; have HK := n2_; have BK4 := n3_; clear n0_ n1_ n2_ n3_; have HO := Aside0.mk ho; clear ho hi hb hk)))
  have h : (if e = 0 then
    (if 0 ≤ wrap64 (rd l 0) ∧ wrap64 (rd l 0) < 29 then
      (if Pure.opn (wrap64 (rd l 0)) = 0 then some (wrap64 (rd l 0), 0, 0, 0, 0, q)
      else (octet_Reader_Uint.f k bs q (IntKind.u64.wrap (Pure.kat (wrap64 (rd l 0)).toNat).a)).bind fun u => code_read.one k bs (wrap64 (rd l 0)) (Pure.kat (wrap64 (rd l 0)).toNat).a q n1 u (Pure.kat (wrap64 (rd l 0)).toNat).b)
    else some (0, 0, 0, p, 111, q))
  else some (0, 0, 0, (n1 : Int), e, q)) = some (r1, r2, r3, r4, r5, r6) := H.out
  clear H
  have hcz4_0 : wc_.cell? ⟨gb4, 0, none⟩ = some (.int .i64 0) := (blk_cell BK4.out 0).trans rfl
  have hcz4_1 : wc_.cell? ⟨gb4, 1, none⟩ = some (.int .i64 0) := (blk_cell BK4.out 1).trans rfl
  have hcz4_2 : wc_.cell? ⟨gb4, 2, none⟩ = some (.int .i64 0) := (blk_cell BK4.out 2).trans rfl
  have hfz4_0 := blk_frozen BK4.out 0
  have hfz4_1 := blk_frozen BK4.out 1
  have hfz4_2 := blk_frozen BK4.out 2
  by_cases he : e = 0
  · rw [if_pos he] at h
    have he0 : (e == 0) = true := beq_iff_eq.mpr he
    have he1 : (e != 0) = false := bne_eq_false_iff_eq.mpr he
    have hlq : l = [rd bs p] ∧ q = p + 1 := by
      have ht := HT.out
      unfold octet_Reader_Take.f at ht
      split at ht
      · split at ht
        · injection ht with ht; injection ht with h1 h2; injection h2 with h2 h3; exact ⟨h1.symm, h3.symm⟩
        · injection ht with ht; injection ht with h1 h2; injection h2 with h2 h3; omega
      · cases ht
    clear he
    obtain ⟨rfl, rfl⟩ := hlq
    have hl0 : rd [rd bs p] 0 = rd bs p := rfl
    rw [hl0] at h
    obtain ⟨op, hopd⟩ : ∃ o, wrap64 (rd bs p) = o := ⟨_, rfl⟩
    rw [hopd] at h
    obtain ⟨gv, capv, rfl, -, -, -⟩ := Kd.R_form HO.out (by simp)
    have hcv := (Kd.R_celln (0 : Int) HO.out 0 (by omega) (by simp)).1
    replace hcv : wc_.cell? ⟨gv, 0, none⟩ = some (.int .u8 (rd bs p)) := hcv
    by_cases hop : 0 ≤ op ∧ op < 29
    · rw [if_pos hop] at h
      obtain ⟨i, hi⟩ : ∃ i : Nat, op = i := ⟨op.toNat, by omega⟩
      subst hi
      rw [Int.toNat_natCast] at h
      have HOP := Aside0.mk hop
      go_upto_region 6 with (first | ((with_reducible refine gate_dst (N := 10) rfl ?_); go_must (refine box_event ?hg (N := 10) ?hd (cs := #[.int .i64 0, .int .i64 0, .int .i64 0]) (t := 27) ?hr ?_; (case hd => rfl); (case hg => rfl); (case hr => first | (go_simp; done) | (go_simp; rfl)); intro gb10 hg wb10_ hbox hb; have hnb4_10 : gb4 ≠ gb10 := (by have := blk_lt BK4.out; omega); have hnb10_4 : gb10 ≠ gb4 := (by have := blk_lt BK4.out; omega); have BK10 := Aside0.mk hbox; have NE10 := Aside0.mk (show gb10 ≠ g from by have := IsS74.lt HI0.out; omega); have GE10 := Aside0.mk (show w0.heap.size ≤ gb10 from by rw [hg]; exact below_size HB.out); have GW10 := Aside0.mk (show w.heap.size ≤ gb10 from by rw [hg]; exact HK.out.1); have n0_ := Aside0.mk (IsS74.below HI0.out hb); have n1_ := Aside0.mk (below_step HB.out hb); have n2_ := Aside0.mk (keep_below HK.out hb); have n3_ := Aside0.mk (blk_below BK4.out hb); clear HI0 HB HK BK4; have HI0 := n0_; have HB := n1_; have HK := n2_; have BK4 := n3_; clear n0_ n1_ n2_ n3_; clear hbox hb hg; have hcz10_0 : wb10_.cell? ⟨gb10, 0, none⟩ = some (.int .i64 0) := (blk_cell BK10.out 0).trans rfl; have hfz10_0 := blk_frozen BK10.out 0; have hcz10_1 : wb10_.cell? ⟨gb10, 1, none⟩ = some (.int .i64 0) := (blk_cell BK10.out 1).trans rfl; have hfz10_1 := blk_frozen BK10.out 1; have hcz10_2 : wb10_.cell? ⟨gb10, 2, none⟩ = some (.int .i64 0) := (blk_cell BK10.out 2).trans rfl; have hfz10_2 := blk_frozen BK10.out 2; have hcz4_0_10 : wb10_.cell? ⟨gb4, 0, none⟩ = some (.int .i64 0) := (blk_cell BK4.out 0).trans rfl; have hfz4_0_10 := blk_frozen BK4.out 0; have hcz4_1_10 : wb10_.cell? ⟨gb4, 1, none⟩ = some (.int .i64 0) := (blk_cell BK4.out 1).trans rfl; have hfz4_1_10 := blk_frozen BK4.out 1; have hcz4_2_10 : wb10_.cell? ⟨gb4, 2, none⟩ = some (.int .i64 0) := (blk_cell BK4.out 2).trans rfl; have hfz4_2_10 := blk_frozen BK4.out 2)))
      generalize hW_ : ((wb10_.setCell ⟨gb10, 0, none⟩ (.int .i64 (i : Int))).setCell ⟨gb10, 1, none⟩ (.int .i64 0)).setCell ⟨gb10, 2, none⟩ (.int .i64 0) = w11
      have n0_ := Aside0.mk (show IsS74 w0 w11 g bs (p + 1) by rw [← hW_]; repeat (with_reducible first | exact HI0.out | refine IsS74.far ?_ NE4.out.symm _ | refine IsS74.far ?_ NE10.out.symm _))
      have n1_ := Aside0.mk (show Below w0.heap.size w0 w11 by rw [← hW_]; repeat (with_reducible first | exact HB.out | refine below_set ?_ GE4.out | refine below_set ?_ GE10.out))
      have n2_ := Aside0.mk (show KeepBut w w11 g none by rw [← hW_]; repeat (with_reducible first | exact HK.out | refine keep_far ?_ GW4.out _ | refine keep_far ?_ GW10.out _))
      have n3_ := Aside0.mk (show w11.heap[gb4]? = some (.cells #[.int .i64 0, .int .i64 0, .int .i64 0] 27 (0, 0)) by rw [← hW_]; repeat (with_reducible first | exact BK4.out | refine blk_far ?_ hnb4_10 _))
      have n4_ := Aside0.mk (show w11.heap[gb10]? = some (.cells #[.int .i64 (i : Int), .int .i64 0, .int .i64 0] 27 (0, 0)) by rw [← hW_]; refine blk_put (cs := #[.int .i64 (i : Int), .int .i64 0, .int .i64 0]) ?_ 2 _ rfl; refine blk_put (cs := #[.int .i64 (i : Int), .int .i64 0, .int .i64 0]) ?_ 1 _ rfl; refine blk_put (cs := #[.int .i64 0, .int .i64 0, .int .i64 0]) ?_ 0 _ rfl; repeat (with_reducible first | exact BK10.out | refine blk_far ?_ hnb10_4 _))
      clear hW_ HI0 HB HK BK4 BK10
      have HI0 := n0_
      have HB := n1_
      have HK := n2_
      have BK4 := n3_
      have BK10 := n4_
      clear n0_ n1_ n2_ n3_ n4_
      have hcy4_0_w11 : w11.cell? ⟨gb4, 0, none⟩ = some (.int .i64 0) := (blk_cell BK4.out 0).trans rfl
      have hfy4_0_w11 := blk_frozen BK4.out 0
      have hcy4_1_w11 : w11.cell? ⟨gb4, 1, none⟩ = some (.int .i64 0) := (blk_cell BK4.out 1).trans rfl
      have hfy4_1_w11 := blk_frozen BK4.out 1
      have hcy4_2_w11 : w11.cell? ⟨gb4, 2, none⟩ = some (.int .i64 0) := (blk_cell BK4.out 2).trans rfl
      have hfy4_2_w11 := blk_frozen BK4.out 2
      have hcy10_0_w11 : w11.cell? ⟨gb10, 0, none⟩ = some (.int .i64 (i : Int)) := (blk_cell BK10.out 0).trans rfl
      have hfy10_0_w11 := blk_frozen BK10.out 0
      have hcy10_1_w11 : w11.cell? ⟨gb10, 1, none⟩ = some (.int .i64 0) := (blk_cell BK10.out 1).trans rfl
      have hfy10_1_w11 := blk_frozen BK10.out 1
      have hcy10_2_w11 : w11.cell? ⟨gb10, 2, none⟩ = some (.int .i64 0) := (blk_cell BK10.out 2).trans rfl
      have hfy10_2_w11 := blk_frozen BK10.out 2
      obtain ⟨tK, frK, hK⟩ := Pure.Gl.below HG.out HB.out
      have hcg0 : w11.cell? ⟨0, i * 6, none⟩ = some (.string ⟨(Pure.kat i).nm.toArray⟩) := (cell_of_row w11 0 (i * 6) Pure.kA tK frK hK).trans (Pure.kA_get i 0 (by omega) (by omega))
      have hcg1 : w11.cell? ⟨0, i * 6 + 1, none⟩ = some (.int .i64 (Pure.kat i).n) := (cell_of_row w11 0 (i * 6 + 1) Pure.kA tK frK hK).trans (Pure.kA_get i 1 (by omega) (by omega))
      have hcg2 : w11.cell? ⟨0, i * 6 + 2, none⟩ = some (.int .i64 (Pure.kat i).a) := (cell_of_row w11 0 (i * 6 + 2) Pure.kA tK frK hK).trans (Pure.kA_get i 2 (by omega) (by omega))
      have hcg3 : w11.cell? ⟨0, i * 6 + 3, none⟩ = some (.int .i64 (Pure.kat i).b) := (cell_of_row w11 0 (i * 6 + 3) Pure.kA tK frK hK).trans (Pure.kA_get i 3 (by omega) (by omega))
      have hcg4 : w11.cell? ⟨0, i * 6 + 4, none⟩ = some (.int .i64 (Pure.kat i).t) := (cell_of_row w11 0 (i * 6 + 4) Pure.kA tK frK hK).trans (Pure.kA_get i 4 (by omega) (by omega))
      have hcg5 : w11.cell? ⟨0, i * 6 + 5, none⟩ = some (.int .i64 (Pure.kat i).p) := (cell_of_row w11 0 (i * 6 + 5) Pure.kA tK frK hK).trans (Pure.kA_get i 5 (by omega) (by omega))
      have HE : Aside0 (Pure.knownB (i : Int) = true) := ⟨Pure.knownB_in hop⟩
      have hn := Pure.operands_bounds i (by omega)
      have HN : Aside0 ((Pure.kat i).n = 0 ∨ (Pure.kat i).n = 1 ∨ (Pure.kat i).n = 2) := ⟨by rw [hn]; split <;> split <;> simp⟩
      have h0 : Pure.opn (i : Int) = (Pure.kat i).n := by unfold Pure.opn; rw [Int.toNat_natCast]
      unfold code_read.one at h
      rw [h0] at h
      clear hK hn h0
      generalize Pure.kat i = rw_ at *
      obtain ⟨nm, kn, ka, kb, kt, kp⟩ := rw_
      simp only at h hcg0 hcg1 hcg2 hcg3 hcg4 hcg5 HN
      go_upto_region 9 with (first | (go_at_call 33; go_must (refine (Pure.known_any _ _).mono ?_; rintro e_ wd_ ⟨rfl, rfl⟩; rw [HE.out])) | ((with_reducible refine gate_dst (N := 11) rfl ?_); go_must (refine box_event ?hg (N := 11) ?hd (cs := #[.string ⟨#[]⟩, .int .i64 0, .int .i64 0, .int .i64 0, .int .i64 0, .int .i64 0]) (t := 54) ?hr ?_; (case hd => rfl); (case hg => rfl); (case hr => first | (go_simp; done) | (go_simp; rfl)); intro gb11 hg wb11_ hbox hb; have hnb4_11 : gb4 ≠ gb11 := (by have := blk_lt BK4.out; omega); have hnb11_4 : gb11 ≠ gb4 := (by have := blk_lt BK4.out; omega); have hnb10_11 : gb10 ≠ gb11 := (by have := blk_lt BK10.out; omega); have hnb11_10 : gb11 ≠ gb10 := (by have := blk_lt BK10.out; omega); have BK11 := Aside0.mk hbox; have NE11 := Aside0.mk (show gb11 ≠ g from by have := IsS74.lt HI0.out; omega); have GE11 := Aside0.mk (show w0.heap.size ≤ gb11 from by rw [hg]; exact below_size HB.out); have GW11 := Aside0.mk (show w.heap.size ≤ gb11 from by rw [hg]; exact HK.out.1); have n0_ := Aside0.mk (IsS74.below HI0.out hb); have n1_ := Aside0.mk (below_step HB.out hb); have n2_ := Aside0.mk (keep_below HK.out hb); have n3_ := Aside0.mk (blk_below BK4.out hb); have n4_ := Aside0.mk (blk_below BK10.out hb); clear HI0 HB HK BK4 BK10; have HI0 := n0_; have HB := n1_; have HK := n2_; have BK4 := n3_; have BK10 := n4_; clear n0_ n1_ n2_ n3_ n4_; clear hbox hb hg; have hcz11_0 : wb11_.cell? ⟨gb11, 0, none⟩ = some (.string ⟨#[]⟩) := (blk_cell BK11.out 0).trans rfl; have hfz11_0 := blk_frozen BK11.out 0; have hcz11_1 : wb11_.cell? ⟨gb11, 1, none⟩ = some (.int .i64 0) := (blk_cell BK11.out 1).trans rfl; have hfz11_1 := blk_frozen BK11.out 1; have hcz11_2 : wb11_.cell? ⟨gb11, 2, none⟩ = some (.int .i64 0) := (blk_cell BK11.out 2).trans rfl; have hfz11_2 := blk_frozen BK11.out 2; have hcz11_3 : wb11_.cell? ⟨gb11, 3, none⟩ = some (.int .i64 0) := (blk_cell BK11.out 3).trans rfl; have hfz11_3 := blk_frozen BK11.out 3; have hcz11_4 : wb11_.cell? ⟨gb11, 4, none⟩ = some (.int .i64 0) := (blk_cell BK11.out 4).trans rfl; have hfz11_4 := blk_frozen BK11.out 4; have hcz11_5 : wb11_.cell? ⟨gb11, 5, none⟩ = some (.int .i64 0) := (blk_cell BK11.out 5).trans rfl; have hfz11_5 := blk_frozen BK11.out 5; have hcz4_0_11 : wb11_.cell? ⟨gb4, 0, none⟩ = some (.int .i64 0) := (blk_cell BK4.out 0).trans rfl; have hfz4_0_11 := blk_frozen BK4.out 0; have hcz4_1_11 : wb11_.cell? ⟨gb4, 1, none⟩ = some (.int .i64 0) := (blk_cell BK4.out 1).trans rfl; have hfz4_1_11 := blk_frozen BK4.out 1; have hcz4_2_11 : wb11_.cell? ⟨gb4, 2, none⟩ = some (.int .i64 0) := (blk_cell BK4.out 2).trans rfl; have hfz4_2_11 := blk_frozen BK4.out 2; have hcz10_0_11 : wb11_.cell? ⟨gb10, 0, none⟩ = some (.int .i64 (i : Int)) := (blk_cell BK10.out 0).trans rfl; have hfz10_0_11 := blk_frozen BK10.out 0; have hcz10_1_11 : wb11_.cell? ⟨gb10, 1, none⟩ = some (.int .i64 0) := (blk_cell BK10.out 1).trans rfl; have hfz10_1_11 := blk_frozen BK10.out 1; have hcz10_2_11 : wb11_.cell? ⟨gb10, 2, none⟩ = some (.int .i64 0) := (blk_cell BK10.out 2).trans rfl; have hfz10_2_11 := blk_frozen BK10.out 2)))
      generalize hW_ : ((((((wb11_.setCell ⟨gb11, 0, none⟩ (.string ⟨nm.toArray⟩)).setCell ⟨gb11, 1, none⟩ (.int .i64 kn)).setCell ⟨gb11, 2, none⟩ (.int .i64 ka)).setCell ⟨gb11, 3, none⟩ (.int .i64 kb)).setCell ⟨gb11, 4, none⟩ (.int .i64 kt)).setCell ⟨gb11, 5, none⟩ (.int .i64 kp)) = w12
      have n0_ := Aside0.mk (show IsS74 w0 w12 g bs (p + 1) by rw [← hW_]; repeat (with_reducible first | exact HI0.out | refine IsS74.far ?_ NE4.out.symm _ | refine IsS74.far ?_ NE10.out.symm _ | refine IsS74.far ?_ NE11.out.symm _))
      have n1_ := Aside0.mk (show Below w0.heap.size w0 w12 by rw [← hW_]; repeat (with_reducible first | exact HB.out | refine below_set ?_ GE4.out | refine below_set ?_ GE10.out | refine below_set ?_ GE11.out))
      have n2_ := Aside0.mk (show KeepBut w w12 g none by rw [← hW_]; repeat (with_reducible first | exact HK.out | refine keep_far ?_ GW4.out _ | refine keep_far ?_ GW10.out _ | refine keep_far ?_ GW11.out _))
      have n3_ := Aside0.mk (show w12.heap[gb4]? = some (.cells #[.int .i64 0, .int .i64 0, .int .i64 0] 27 (0, 0)) by rw [← hW_]; repeat (with_reducible first | exact BK4.out | refine blk_far ?_ hnb4_10 _ | refine blk_far ?_ hnb4_11 _))
      have n4_ := Aside0.mk (show w12.heap[gb10]? = some (.cells #[.int .i64 (i : Int), .int .i64 0, .int .i64 0] 27 (0, 0)) by rw [← hW_]; repeat (with_reducible first | exact BK10.out | refine blk_far ?_ hnb10_4 _ | refine blk_far ?_ hnb10_11 _))
      have n5_ := Aside0.mk (show w12.heap[gb11]? = some (.cells #[.string ⟨nm.toArray⟩, .int .i64 kn, .int .i64 ka, .int .i64 kb, .int .i64 kt, .int .i64 kp] 54 (0, 0)) by rw [← hW_]; refine blk_put (cs := #[.string ⟨nm.toArray⟩, .int .i64 kn, .int .i64 ka, .int .i64 kb, .int .i64 kt, .int .i64 0]) ?_ 5 _ rfl; refine blk_put (cs := #[.string ⟨nm.toArray⟩, .int .i64 kn, .int .i64 ka, .int .i64 kb, .int .i64 0, .int .i64 0]) ?_ 4 _ rfl; refine blk_put (cs := #[.string ⟨nm.toArray⟩, .int .i64 kn, .int .i64 ka, .int .i64 0, .int .i64 0, .int .i64 0]) ?_ 3 _ rfl; refine blk_put (cs := #[.string ⟨nm.toArray⟩, .int .i64 kn, .int .i64 0, .int .i64 0, .int .i64 0, .int .i64 0]) ?_ 2 _ rfl; refine blk_put (cs := #[.string ⟨nm.toArray⟩, .int .i64 0, .int .i64 0, .int .i64 0, .int .i64 0, .int .i64 0]) ?_ 1 _ rfl; refine blk_put (cs := #[.string ⟨#[]⟩, .int .i64 0, .int .i64 0, .int .i64 0, .int .i64 0, .int .i64 0]) ?_ 0 _ rfl; repeat (with_reducible first | exact BK11.out | refine blk_far ?_ hnb11_4 _ | refine blk_far ?_ hnb11_10 _))
      clear hW_ HI0 HB HK BK4 BK10 BK11
      have HI0 := n0_
      have HB := n1_
      have HK := n2_
      have BK4 := n3_
      have BK10 := n4_
      have BK11 := n5_
      clear n0_ n1_ n2_ n3_ n4_ n5_
      have hcy4_0_w12 : w12.cell? ⟨gb4, 0, none⟩ = some (.int .i64 0) := (blk_cell BK4.out 0).trans rfl
      have hfy4_0_w12 := blk_frozen BK4.out 0
      have hcy4_1_w12 : w12.cell? ⟨gb4, 1, none⟩ = some (.int .i64 0) := (blk_cell BK4.out 1).trans rfl
      have hfy4_1_w12 := blk_frozen BK4.out 1
      have hcy4_2_w12 : w12.cell? ⟨gb4, 2, none⟩ = some (.int .i64 0) := (blk_cell BK4.out 2).trans rfl
      have hfy4_2_w12 := blk_frozen BK4.out 2
      have hcy10_0_w12 : w12.cell? ⟨gb10, 0, none⟩ = some (.int .i64 (i : Int)) := (blk_cell BK10.out 0).trans rfl
      have hfy10_0_w12 := blk_frozen BK10.out 0
      have hcy10_1_w12 : w12.cell? ⟨gb10, 1, none⟩ = some (.int .i64 0) := (blk_cell BK10.out 1).trans rfl
      have hfy10_1_w12 := blk_frozen BK10.out 1
      have hcy10_2_w12 : w12.cell? ⟨gb10, 2, none⟩ = some (.int .i64 0) := (blk_cell BK10.out 2).trans rfl
      have hfy10_2_w12 := blk_frozen BK10.out 2
      have hcy11_0_w12 : w12.cell? ⟨gb11, 0, none⟩ = some (.string ⟨nm.toArray⟩) := (blk_cell BK11.out 0).trans rfl
      have hfy11_0_w12 := blk_frozen BK11.out 0
      have hcy11_1_w12 : w12.cell? ⟨gb11, 1, none⟩ = some (.int .i64 kn) := (blk_cell BK11.out 1).trans rfl
      have hfy11_1_w12 := blk_frozen BK11.out 1
      have hcy11_2_w12 : w12.cell? ⟨gb11, 2, none⟩ = some (.int .i64 ka) := (blk_cell BK11.out 2).trans rfl
      have hfy11_2_w12 := blk_frozen BK11.out 2
      have hcy11_3_w12 : w12.cell? ⟨gb11, 3, none⟩ = some (.int .i64 kb) := (blk_cell BK11.out 3).trans rfl
      have hfy11_3_w12 := blk_frozen BK11.out 3
      have hcy11_4_w12 : w12.cell? ⟨gb11, 4, none⟩ = some (.int .i64 kt) := (blk_cell BK11.out 4).trans rfl
      have hfy11_4_w12 := blk_frozen BK11.out 4
      have hcy11_5_w12 : w12.cell? ⟨gb11, 5, none⟩ = some (.int .i64 kp) := (blk_cell BK11.out 5).trans rfl
      have hfy11_5_w12 := blk_frozen BK11.out 5
      refine start_ (n := 12) (S := fun w' => w'.cell? ⟨gb11, 2, none⟩ = some (.int .i64 ka) ∧ w'.cell? ⟨gb11, 3, none⟩ = some (.int .i64 kb)) (ds := []) #[false, false, false, false, false, false, false, false, false, false, false, false] (by kernel_rfl) rfl rfl ⟨(blk_cell BK11.out 2).trans rfl, (blk_cell BK11.out 3).trans rfl⟩ (fun hHeld => ?_); refine with_tabW code_read.tab9 code_read.bits9 (fun HT_ HW_ => ?_)
      have n0_ := Aside0.mk (IsS74.drew HI0.out); have n1_ := Aside0.mk (below_drew1 HB.out); have n2_ := Aside0.mk (keep_drew HK.out); have n3_ := Aside0.mk (blk_drew BK4.out); have n4_ := Aside0.mk (blk_drew BK10.out); have n5_ := Aside0.mk (blk_drew BK11.out); clear HI0 HB HK BK4 BK10 BK11; have HI0 := n0_; have HB := n1_; have HK := n2_; have BK4 := n3_; have BK10 := n4_; have BK11 := n5_; clear n0_ n1_ n2_ n3_ n4_ n5_
      generalize w12.drew = w13 at HI0 HB HK BK4 BK10 BK11 hHeld ⊢
      refine pure_ (i := 0) (N := some 45) (v := ?_) (a' := ?_) #[true, false, false, false, false, false, false, false, false, false, false, false] rfl rfl (any_of HT_.out (by kernel_rfl)) (fun _ _ _ h => h) (Or.inl ⟨by rfl, ?_⟩) ?_ ?_
      rotate_left
      · intro w'
        go_simp
        with_reducible rfl
      rotate_left
      · simp only [Act.put, List.setIfInBounds_toArray, List.set_cons_zero, List.set_cons_succ, i64_w, i32_w]
        rfl
      refine pure_ (i := 1) (N := some 46) (v := ?_) (a' := ?_) #[true, true, false, false, false, false, false, false, false, false, false, false] rfl rfl (any_of HT_.out (by kernel_rfl)) (fun _ _ _ h => h) (Or.inl ⟨by rfl, ?_⟩) ?_ ?_
      rotate_left
      · intro w'
        go_simp
        with_reducible rfl
      rotate_left
      · simp only [Act.put, List.setIfInBounds_toArray, List.set_cons_zero, List.set_cons_succ, i64_w, i32_w]
        rfl
      refine pure_ (i := 2) (N := some 47) (v := ?_) (a' := ?_) #[true, true, true, false, false, false, false, false, false, false, false, false] rfl rfl (any_of HT_.out (by kernel_rfl)) (fun _ _ _ h => h) (Or.inl ⟨by rfl, ?_⟩) ?_ ?_
      rotate_left
      · intro w'
        go_simp
        with_reducible rfl
      rotate_left
      · simp only [Act.put, List.setIfInBounds_toArray, List.set_cons_zero, List.set_cons_succ, i64_w, i32_w]
        rfl
      refine pure_ (i := 3) (N := some 48) (v := ?_) (a' := ?_) #[true, true, true, true, false, false, false, false, false, false, false, false] rfl rfl (any_of HT_.out (by kernel_rfl)) (fun _ _ _ h => h) (Or.inl ⟨by rfl, ?_⟩) ?_ ?_
      rotate_left
      · intro w'
        go_simp
        with_reducible rfl
      rotate_left
      · simp only [Act.put, List.setIfInBounds_toArray, List.set_cons_zero, List.set_cons_succ, i64_w, i32_w]
        rfl
      refine pure_ (i := 5) (N := some 50) (v := ?_) (a' := ?_) #[true, true, true, true, false, true, false, false, false, false, false, false] rfl rfl (any_of HT_.out (by kernel_rfl)) (fun _ _ _ h => h) (Or.inl ⟨by rfl, ?_⟩) ?_ ?_
      rotate_left
      · intro w'
        go_simp
        with_reducible rfl
      rotate_left
      · simp only [Act.put, List.setIfInBounds_toArray, List.set_cons_zero, List.set_cons_succ, i64_w, i32_w]
        rfl
      refine take_ (i := 4) (N := some 49) (v := ?_) (a' := ?_) #[true, true, true, true, true, true, false, false, false, false, false, false] rfl rfl (take_ofW HT_.out HW_.out (by kernel_rfl)) (fun _ _ _ h => h) (Or.inl ⟨by rfl, ?_⟩) hHeld ?_ ?_
      rotate_left
      · rintro w' ⟨s0, s1⟩
        go_simp
        with_reducible rfl
      rotate_left
      · simp only [Act.put, List.setIfInBounds_toArray, List.set_cons_zero, List.set_cons_succ, i64_w, i32_w]
        rfl
      refine take_ (i := 6) (N := some 51) (v := ?_) (a' := ?_) #[true, true, true, true, true, true, true, false, false, false, false, false] rfl rfl (take_ofW HT_.out HW_.out (by kernel_rfl)) (fun _ _ _ h => h) (Or.inl ⟨by rfl, ?_⟩) hHeld ?_ ?_
      rotate_left
      · rintro w' ⟨s0, s1⟩
        go_simp
        with_reducible rfl
      rotate_left
      · simp only [Act.put, List.setIfInBounds_toArray, List.set_cons_zero, List.set_cons_succ, i64_w, i32_w]
        rfl
      refine pure_ (i := 7) (N := some 52) (v := ?_) (a' := ?_) #[true, true, true, true, true, true, true, true, false, false, false, false] rfl rfl (any_of HT_.out (by kernel_rfl)) (fun _ _ _ h => h) (Or.inl ⟨by rfl, ?_⟩) ?_ ?_
      rotate_left
      · intro w'
        go_simp
        with_reducible rfl
      rotate_left
      · simp only [Act.put, List.setIfInBounds_toArray, List.set_cons_zero, List.set_cons_succ, i64_w, i32_w]
        rfl
      refine join_ (σ := Nat × Nat) 2 #[true, true, true, true, true, true, true, true, true, true, false, false] (fun s_ => [(12, .pointer (some ⟨s_.1, 0, none⟩)), (13, .pointer (some ⟨s_.2, 0, none⟩))]) (fun s_ w' => (w'.cell? ⟨gb11, 2, none⟩ = some (.int .i64 ka) ∧ w'.cell? ⟨gb11, 3, none⟩ = some (.int .i64 kb)) ∧ RF w0 w w' g bs (p + 1) gb4 gb10 gb11 #[.int .i64 0, .int .i64 0, .int .i64 0] #[.int .i64 (i : Int), .int .i64 0, .int .i64 0] #[.string ⟨nm.toArray⟩, .int .i64 kn, .int .i64 ka, .int .i64 kb, .int .i64 kt, .int .i64 kp] s_.1 s_.2) ?_ ?_
      rotate_left
      · intro hCont
        refine two_ (i := 8) (j := 9) (Ni := some 12) (Nj := some 13) #[true, true, true, true, true, true, true, true, true, false, false, false] #[true, true, true, true, true, true, true, true, false, true, false, false] rfl rfl rfl rfl (two_of HT_.out (by kernel_rfl)) (by decide) (by decide) (fun K hK => ?_) (fun K hK => ?_)
        · refine box_step ?hg (N := 12) ?hd (cs := #[.pointer none, .pointer none]) (t := 76) ?hr ?_; (case hd => rfl); (case hg => rfl); (case hr => first | (go_simp; done) | (go_simp; rfl)); intro gb12 hg wb12_ hbox hb; have hnb4_12 : gb4 ≠ gb12 := (by have := blk_lt BK4.out; omega); have hnb12_4 : gb12 ≠ gb4 := (by have := blk_lt BK4.out; omega); have hnb10_12 : gb10 ≠ gb12 := (by have := blk_lt BK10.out; omega); have hnb12_10 : gb12 ≠ gb10 := (by have := blk_lt BK10.out; omega); have hnb11_12 : gb11 ≠ gb12 := (by have := blk_lt BK11.out; omega); have hnb12_11 : gb12 ≠ gb11 := (by have := blk_lt BK11.out; omega); have BK12 := Aside0.mk hbox; have NE12 := Aside0.mk (show gb12 ≠ g from by have := IsS74.lt HI0.out; omega); have GE12 := Aside0.mk (show w0.heap.size ≤ gb12 from by rw [hg]; exact below_size HB.out); have GW12 := Aside0.mk (show w.heap.size ≤ gb12 from by rw [hg]; exact HK.out.1); have n0_ := Aside0.mk (IsS74.below HI0.out hb); have n1_ := Aside0.mk (below_step HB.out hb); have n2_ := Aside0.mk (keep_below HK.out hb); have n3_ := Aside0.mk (blk_below BK4.out hb); have n4_ := Aside0.mk (blk_below BK10.out hb); have n5_ := Aside0.mk (blk_below BK11.out hb); clear HI0 HB HK BK4 BK10 BK11; have HI0 := n0_; have HB := n1_; have HK := n2_; have BK4 := n3_; have BK10 := n4_; have BK11 := n5_; clear n0_ n1_ n2_ n3_ n4_ n5_; clear hbox hb hg; have hcz12_0 : wb12_.cell? ⟨gb12, 0, none⟩ = some (.pointer none) := (blk_cell BK12.out 0).trans rfl; have hfz12_0 := blk_frozen BK12.out 0; have hcz12_1 : wb12_.cell? ⟨gb12, 1, none⟩ = some (.pointer none) := (blk_cell BK12.out 1).trans rfl; have hfz12_1 := blk_frozen BK12.out 1; have hcz4_0_12 : wb12_.cell? ⟨gb4, 0, none⟩ = some (.int .i64 0) := (blk_cell BK4.out 0).trans rfl; have hfz4_0_12 := blk_frozen BK4.out 0; have hcz4_1_12 : wb12_.cell? ⟨gb4, 1, none⟩ = some (.int .i64 0) := (blk_cell BK4.out 1).trans rfl; have hfz4_1_12 := blk_frozen BK4.out 1; have hcz4_2_12 : wb12_.cell? ⟨gb4, 2, none⟩ = some (.int .i64 0) := (blk_cell BK4.out 2).trans rfl; have hfz4_2_12 := blk_frozen BK4.out 2; have hcz10_0_12 : wb12_.cell? ⟨gb10, 0, none⟩ = some (.int .i64 (i : Int)) := (blk_cell BK10.out 0).trans rfl; have hfz10_0_12 := blk_frozen BK10.out 0; have hcz10_1_12 : wb12_.cell? ⟨gb10, 1, none⟩ = some (.int .i64 0) := (blk_cell BK10.out 1).trans rfl; have hfz10_1_12 := blk_frozen BK10.out 1; have hcz10_2_12 : wb12_.cell? ⟨gb10, 2, none⟩ = some (.int .i64 0) := (blk_cell BK10.out 2).trans rfl; have hfz10_2_12 := blk_frozen BK10.out 2; have hcz11_0_12 : wb12_.cell? ⟨gb11, 0, none⟩ = some (.string ⟨nm.toArray⟩) := (blk_cell BK11.out 0).trans rfl; have hfz11_0_12 := blk_frozen BK11.out 0; have hcz11_1_12 : wb12_.cell? ⟨gb11, 1, none⟩ = some (.int .i64 kn) := (blk_cell BK11.out 1).trans rfl; have hfz11_1_12 := blk_frozen BK11.out 1; have hcz11_2_12 : wb12_.cell? ⟨gb11, 2, none⟩ = some (.int .i64 ka) := (blk_cell BK11.out 2).trans rfl; have hfz11_2_12 := blk_frozen BK11.out 2; have hcz11_3_12 : wb12_.cell? ⟨gb11, 3, none⟩ = some (.int .i64 kb) := (blk_cell BK11.out 3).trans rfl; have hfz11_3_12 := blk_frozen BK11.out 3; have hcz11_4_12 : wb12_.cell? ⟨gb11, 4, none⟩ = some (.int .i64 kt) := (blk_cell BK11.out 4).trans rfl; have hfz11_4_12 := blk_frozen BK11.out 4; have hcz11_5_12 : wb12_.cell? ⟨gb11, 5, none⟩ = some (.int .i64 kp) := (blk_cell BK11.out 5).trans rfl; have hfz11_5_12 := blk_frozen BK11.out 5
          refine hK.out _ _ ⟨(blk_cell BK11.out 2).trans rfl, (blk_cell BK11.out 3).trans rfl⟩ (fun hHeld => ?_)
          clear hK K
          refine norm_ (a' := ?_) ?_ ?_
          rotate_left
          · show Act.put _ (some 12) _ = _
            simp only [Act.put, List.setIfInBounds_toArray, List.set_cons_zero, List.set_cons_succ, i64_w, i32_w]
            rfl
          refine one_ (i := 9) (N := some 13) #[true, true, true, true, true, true, true, true, true, true, false, false] rfl rfl (one_of HT_.out (by kernel_rfl)) (by decide) (fun K hK => ?_)
          refine box_step ?hg (N := 13) ?hd (cs := #[.int .i64 0, .int .i64 0]) (t := 77) ?hr ?_; (case hd => rfl); (case hg => rfl); (case hr => first | (go_simp; done) | (go_simp; rfl)); intro gb13 hg wb13_ hbox hb; have hnb4_13 : gb4 ≠ gb13 := (by have := blk_lt BK4.out; omega); have hnb13_4 : gb13 ≠ gb4 := (by have := blk_lt BK4.out; omega); have hnb10_13 : gb10 ≠ gb13 := (by have := blk_lt BK10.out; omega); have hnb13_10 : gb13 ≠ gb10 := (by have := blk_lt BK10.out; omega); have hnb11_13 : gb11 ≠ gb13 := (by have := blk_lt BK11.out; omega); have hnb13_11 : gb13 ≠ gb11 := (by have := blk_lt BK11.out; omega); have hnb12_13 : gb12 ≠ gb13 := (by have := blk_lt BK12.out; omega); have hnb13_12 : gb13 ≠ gb12 := (by have := blk_lt BK12.out; omega); have BK13 := Aside0.mk hbox; have NE13 := Aside0.mk (show gb13 ≠ g from by have := IsS74.lt HI0.out; omega); have GE13 := Aside0.mk (show w0.heap.size ≤ gb13 from by rw [hg]; exact below_size HB.out); have GW13 := Aside0.mk (show w.heap.size ≤ gb13 from by rw [hg]; exact HK.out.1); have n0_ := Aside0.mk (IsS74.below HI0.out hb); have n1_ := Aside0.mk (below_step HB.out hb); have n2_ := Aside0.mk (keep_below HK.out hb); have n3_ := Aside0.mk (blk_below BK4.out hb); have n4_ := Aside0.mk (blk_below BK10.out hb); have n5_ := Aside0.mk (blk_below BK11.out hb); have n6_ := Aside0.mk (blk_below BK12.out hb); clear HI0 HB HK BK4 BK10 BK11 BK12; have HI0 := n0_; have HB := n1_; have HK := n2_; have BK4 := n3_; have BK10 := n4_; have BK11 := n5_; have BK12 := n6_; clear n0_ n1_ n2_ n3_ n4_ n5_ n6_; clear hbox hb hg; have hcz13_0 : wb13_.cell? ⟨gb13, 0, none⟩ = some (.int .i64 0) := (blk_cell BK13.out 0).trans rfl; have hfz13_0 := blk_frozen BK13.out 0; have hcz13_1 : wb13_.cell? ⟨gb13, 1, none⟩ = some (.int .i64 0) := (blk_cell BK13.out 1).trans rfl; have hfz13_1 := blk_frozen BK13.out 1; have hcz4_0_13 : wb13_.cell? ⟨gb4, 0, none⟩ = some (.int .i64 0) := (blk_cell BK4.out 0).trans rfl; have hfz4_0_13 := blk_frozen BK4.out 0; have hcz4_1_13 : wb13_.cell? ⟨gb4, 1, none⟩ = some (.int .i64 0) := (blk_cell BK4.out 1).trans rfl; have hfz4_1_13 := blk_frozen BK4.out 1; have hcz4_2_13 : wb13_.cell? ⟨gb4, 2, none⟩ = some (.int .i64 0) := (blk_cell BK4.out 2).trans rfl; have hfz4_2_13 := blk_frozen BK4.out 2; have hcz10_0_13 : wb13_.cell? ⟨gb10, 0, none⟩ = some (.int .i64 (i : Int)) := (blk_cell BK10.out 0).trans rfl; have hfz10_0_13 := blk_frozen BK10.out 0; have hcz10_1_13 : wb13_.cell? ⟨gb10, 1, none⟩ = some (.int .i64 0) := (blk_cell BK10.out 1).trans rfl; have hfz10_1_13 := blk_frozen BK10.out 1; have hcz10_2_13 : wb13_.cell? ⟨gb10, 2, none⟩ = some (.int .i64 0) := (blk_cell BK10.out 2).trans rfl; have hfz10_2_13 := blk_frozen BK10.out 2; have hcz11_0_13 : wb13_.cell? ⟨gb11, 0, none⟩ = some (.string ⟨nm.toArray⟩) := (blk_cell BK11.out 0).trans rfl; have hfz11_0_13 := blk_frozen BK11.out 0; have hcz11_1_13 : wb13_.cell? ⟨gb11, 1, none⟩ = some (.int .i64 kn) := (blk_cell BK11.out 1).trans rfl; have hfz11_1_13 := blk_frozen BK11.out 1; have hcz11_2_13 : wb13_.cell? ⟨gb11, 2, none⟩ = some (.int .i64 ka) := (blk_cell BK11.out 2).trans rfl; have hfz11_2_13 := blk_frozen BK11.out 2; have hcz11_3_13 : wb13_.cell? ⟨gb11, 3, none⟩ = some (.int .i64 kb) := (blk_cell BK11.out 3).trans rfl; have hfz11_3_13 := blk_frozen BK11.out 3; have hcz11_4_13 : wb13_.cell? ⟨gb11, 4, none⟩ = some (.int .i64 kt) := (blk_cell BK11.out 4).trans rfl; have hfz11_4_13 := blk_frozen BK11.out 4; have hcz11_5_13 : wb13_.cell? ⟨gb11, 5, none⟩ = some (.int .i64 kp) := (blk_cell BK11.out 5).trans rfl; have hfz11_5_13 := blk_frozen BK11.out 5; have hcz12_0_13 : wb13_.cell? ⟨gb12, 0, none⟩ = some (.pointer none) := (blk_cell BK12.out 0).trans rfl; have hfz12_0_13 := blk_frozen BK12.out 0; have hcz12_1_13 : wb13_.cell? ⟨gb12, 1, none⟩ = some (.pointer none) := (blk_cell BK12.out 1).trans rfl; have hfz12_1_13 := blk_frozen BK12.out 1
          refine hK.out _ _ ⟨(blk_cell BK11.out 2).trans rfl, (blk_cell BK11.out 3).trans rfl⟩ (fun hHeld => ?_)
          clear hK K
          refine norm_ (a' := ?_) ?_ ?_
          rotate_left
          · show Act.put _ (some 13) _ = _
            simp only [Act.put, List.setIfInBounds_toArray, List.set_cons_zero, List.set_cons_succ, i64_w, i32_w]
            rfl
          exact norm_ (by simp only [putAll, Act.put, List.setIfInBounds_toArray, List.set_cons_zero, List.set_cons_succ]) (hCont (gb12, gb13) _ ⟨hHeld, HI0.out, HB.out, HK.out, BK4.out, BK10.out, BK11.out, BK12.out, BK13.out, by omega, ⟨NE12.out, by omega, by omega, by omega, GE12.out, GW12.out⟩, ⟨NE13.out, by omega, by omega, by omega, GE13.out, GW13.out⟩⟩)
        · refine box_step ?hg (N := 13) ?hd (cs := #[.int .i64 0, .int .i64 0]) (t := 77) ?hr ?_; (case hd => rfl); (case hg => rfl); (case hr => first | (go_simp; done) | (go_simp; rfl)); intro gb13 hg wb13_ hbox hb; have hnb4_13 : gb4 ≠ gb13 := (by have := blk_lt BK4.out; omega); have hnb13_4 : gb13 ≠ gb4 := (by have := blk_lt BK4.out; omega); have hnb10_13 : gb10 ≠ gb13 := (by have := blk_lt BK10.out; omega); have hnb13_10 : gb13 ≠ gb10 := (by have := blk_lt BK10.out; omega); have hnb11_13 : gb11 ≠ gb13 := (by have := blk_lt BK11.out; omega); have hnb13_11 : gb13 ≠ gb11 := (by have := blk_lt BK11.out; omega); have BK13 := Aside0.mk hbox; have NE13 := Aside0.mk (show gb13 ≠ g from by have := IsS74.lt HI0.out; omega); have GE13 := Aside0.mk (show w0.heap.size ≤ gb13 from by rw [hg]; exact below_size HB.out); have GW13 := Aside0.mk (show w.heap.size ≤ gb13 from by rw [hg]; exact HK.out.1); have n0_ := Aside0.mk (IsS74.below HI0.out hb); have n1_ := Aside0.mk (below_step HB.out hb); have n2_ := Aside0.mk (keep_below HK.out hb); have n3_ := Aside0.mk (blk_below BK4.out hb); have n4_ := Aside0.mk (blk_below BK10.out hb); have n5_ := Aside0.mk (blk_below BK11.out hb); clear HI0 HB HK BK4 BK10 BK11; have HI0 := n0_; have HB := n1_; have HK := n2_; have BK4 := n3_; have BK10 := n4_; have BK11 := n5_; clear n0_ n1_ n2_ n3_ n4_ n5_; clear hbox hb hg; have hcz13_0 : wb13_.cell? ⟨gb13, 0, none⟩ = some (.int .i64 0) := (blk_cell BK13.out 0).trans rfl; have hfz13_0 := blk_frozen BK13.out 0; have hcz13_1 : wb13_.cell? ⟨gb13, 1, none⟩ = some (.int .i64 0) := (blk_cell BK13.out 1).trans rfl; have hfz13_1 := blk_frozen BK13.out 1; have hcz4_0_13 : wb13_.cell? ⟨gb4, 0, none⟩ = some (.int .i64 0) := (blk_cell BK4.out 0).trans rfl; have hfz4_0_13 := blk_frozen BK4.out 0; have hcz4_1_13 : wb13_.cell? ⟨gb4, 1, none⟩ = some (.int .i64 0) := (blk_cell BK4.out 1).trans rfl; have hfz4_1_13 := blk_frozen BK4.out 1; have hcz4_2_13 : wb13_.cell? ⟨gb4, 2, none⟩ = some (.int .i64 0) := (blk_cell BK4.out 2).trans rfl; have hfz4_2_13 := blk_frozen BK4.out 2; have hcz10_0_13 : wb13_.cell? ⟨gb10, 0, none⟩ = some (.int .i64 (i : Int)) := (blk_cell BK10.out 0).trans rfl; have hfz10_0_13 := blk_frozen BK10.out 0; have hcz10_1_13 : wb13_.cell? ⟨gb10, 1, none⟩ = some (.int .i64 0) := (blk_cell BK10.out 1).trans rfl; have hfz10_1_13 := blk_frozen BK10.out 1; have hcz10_2_13 : wb13_.cell? ⟨gb10, 2, none⟩ = some (.int .i64 0) := (blk_cell BK10.out 2).trans rfl; have hfz10_2_13 := blk_frozen BK10.out 2; have hcz11_0_13 : wb13_.cell? ⟨gb11, 0, none⟩ = some (.string ⟨nm.toArray⟩) := (blk_cell BK11.out 0).trans rfl; have hfz11_0_13 := blk_frozen BK11.out 0; have hcz11_1_13 : wb13_.cell? ⟨gb11, 1, none⟩ = some (.int .i64 kn) := (blk_cell BK11.out 1).trans rfl; have hfz11_1_13 := blk_frozen BK11.out 1; have hcz11_2_13 : wb13_.cell? ⟨gb11, 2, none⟩ = some (.int .i64 ka) := (blk_cell BK11.out 2).trans rfl; have hfz11_2_13 := blk_frozen BK11.out 2; have hcz11_3_13 : wb13_.cell? ⟨gb11, 3, none⟩ = some (.int .i64 kb) := (blk_cell BK11.out 3).trans rfl; have hfz11_3_13 := blk_frozen BK11.out 3; have hcz11_4_13 : wb13_.cell? ⟨gb11, 4, none⟩ = some (.int .i64 kt) := (blk_cell BK11.out 4).trans rfl; have hfz11_4_13 := blk_frozen BK11.out 4; have hcz11_5_13 : wb13_.cell? ⟨gb11, 5, none⟩ = some (.int .i64 kp) := (blk_cell BK11.out 5).trans rfl; have hfz11_5_13 := blk_frozen BK11.out 5
          refine hK.out _ _ ⟨(blk_cell BK11.out 2).trans rfl, (blk_cell BK11.out 3).trans rfl⟩ (fun hHeld => ?_)
          clear hK K
          refine norm_ (a' := ?_) ?_ ?_
          rotate_left
          · show Act.put _ (some 13) _ = _
            simp only [Act.put, List.setIfInBounds_toArray, List.set_cons_zero, List.set_cons_succ, i64_w, i32_w]
            rfl
          refine one_ (i := 8) (N := some 12) #[true, true, true, true, true, true, true, true, true, true, false, false] rfl rfl (one_of HT_.out (by kernel_rfl)) (by decide) (fun K hK => ?_)
          refine box_step ?hg (N := 12) ?hd (cs := #[.pointer none, .pointer none]) (t := 76) ?hr ?_; (case hd => rfl); (case hg => rfl); (case hr => first | (go_simp; done) | (go_simp; rfl)); intro gb12 hg wb12_ hbox hb; have hnb4_12 : gb4 ≠ gb12 := (by have := blk_lt BK4.out; omega); have hnb12_4 : gb12 ≠ gb4 := (by have := blk_lt BK4.out; omega); have hnb10_12 : gb10 ≠ gb12 := (by have := blk_lt BK10.out; omega); have hnb12_10 : gb12 ≠ gb10 := (by have := blk_lt BK10.out; omega); have hnb11_12 : gb11 ≠ gb12 := (by have := blk_lt BK11.out; omega); have hnb12_11 : gb12 ≠ gb11 := (by have := blk_lt BK11.out; omega); have hnb13_12 : gb13 ≠ gb12 := (by have := blk_lt BK13.out; omega); have hnb12_13 : gb12 ≠ gb13 := (by have := blk_lt BK13.out; omega); have BK12 := Aside0.mk hbox; have NE12 := Aside0.mk (show gb12 ≠ g from by have := IsS74.lt HI0.out; omega); have GE12 := Aside0.mk (show w0.heap.size ≤ gb12 from by rw [hg]; exact below_size HB.out); have GW12 := Aside0.mk (show w.heap.size ≤ gb12 from by rw [hg]; exact HK.out.1); have n0_ := Aside0.mk (IsS74.below HI0.out hb); have n1_ := Aside0.mk (below_step HB.out hb); have n2_ := Aside0.mk (keep_below HK.out hb); have n3_ := Aside0.mk (blk_below BK4.out hb); have n4_ := Aside0.mk (blk_below BK10.out hb); have n5_ := Aside0.mk (blk_below BK11.out hb); have n6_ := Aside0.mk (blk_below BK13.out hb); clear HI0 HB HK BK4 BK10 BK11 BK13; have HI0 := n0_; have HB := n1_; have HK := n2_; have BK4 := n3_; have BK10 := n4_; have BK11 := n5_; have BK13 := n6_; clear n0_ n1_ n2_ n3_ n4_ n5_ n6_; clear hbox hb hg; have hcz12_0 : wb12_.cell? ⟨gb12, 0, none⟩ = some (.pointer none) := (blk_cell BK12.out 0).trans rfl; have hfz12_0 := blk_frozen BK12.out 0; have hcz12_1 : wb12_.cell? ⟨gb12, 1, none⟩ = some (.pointer none) := (blk_cell BK12.out 1).trans rfl; have hfz12_1 := blk_frozen BK12.out 1; have hcz4_0_12 : wb12_.cell? ⟨gb4, 0, none⟩ = some (.int .i64 0) := (blk_cell BK4.out 0).trans rfl; have hfz4_0_12 := blk_frozen BK4.out 0; have hcz4_1_12 : wb12_.cell? ⟨gb4, 1, none⟩ = some (.int .i64 0) := (blk_cell BK4.out 1).trans rfl; have hfz4_1_12 := blk_frozen BK4.out 1; have hcz4_2_12 : wb12_.cell? ⟨gb4, 2, none⟩ = some (.int .i64 0) := (blk_cell BK4.out 2).trans rfl; have hfz4_2_12 := blk_frozen BK4.out 2; have hcz10_0_12 : wb12_.cell? ⟨gb10, 0, none⟩ = some (.int .i64 (i : Int)) := (blk_cell BK10.out 0).trans rfl; have hfz10_0_12 := blk_frozen BK10.out 0; have hcz10_1_12 : wb12_.cell? ⟨gb10, 1, none⟩ = some (.int .i64 0) := (blk_cell BK10.out 1).trans rfl; have hfz10_1_12 := blk_frozen BK10.out 1; have hcz10_2_12 : wb12_.cell? ⟨gb10, 2, none⟩ = some (.int .i64 0) := (blk_cell BK10.out 2).trans rfl; have hfz10_2_12 := blk_frozen BK10.out 2; have hcz11_0_12 : wb12_.cell? ⟨gb11, 0, none⟩ = some (.string ⟨nm.toArray⟩) := (blk_cell BK11.out 0).trans rfl; have hfz11_0_12 := blk_frozen BK11.out 0; have hcz11_1_12 : wb12_.cell? ⟨gb11, 1, none⟩ = some (.int .i64 kn) := (blk_cell BK11.out 1).trans rfl; have hfz11_1_12 := blk_frozen BK11.out 1; have hcz11_2_12 : wb12_.cell? ⟨gb11, 2, none⟩ = some (.int .i64 ka) := (blk_cell BK11.out 2).trans rfl; have hfz11_2_12 := blk_frozen BK11.out 2; have hcz11_3_12 : wb12_.cell? ⟨gb11, 3, none⟩ = some (.int .i64 kb) := (blk_cell BK11.out 3).trans rfl; have hfz11_3_12 := blk_frozen BK11.out 3; have hcz11_4_12 : wb12_.cell? ⟨gb11, 4, none⟩ = some (.int .i64 kt) := (blk_cell BK11.out 4).trans rfl; have hfz11_4_12 := blk_frozen BK11.out 4; have hcz11_5_12 : wb12_.cell? ⟨gb11, 5, none⟩ = some (.int .i64 kp) := (blk_cell BK11.out 5).trans rfl; have hfz11_5_12 := blk_frozen BK11.out 5; have hcz13_0_12 : wb12_.cell? ⟨gb13, 0, none⟩ = some (.int .i64 0) := (blk_cell BK13.out 0).trans rfl; have hfz13_0_12 := blk_frozen BK13.out 0; have hcz13_1_12 : wb12_.cell? ⟨gb13, 1, none⟩ = some (.int .i64 0) := (blk_cell BK13.out 1).trans rfl; have hfz13_1_12 := blk_frozen BK13.out 1
          refine hK.out _ _ ⟨(blk_cell BK11.out 2).trans rfl, (blk_cell BK11.out 3).trans rfl⟩ (fun hHeld => ?_)
          clear hK K
          refine norm_ (a' := ?_) ?_ ?_
          rotate_left
          · show Act.put _ (some 12) _ = _
            simp only [Act.put, List.setIfInBounds_toArray, List.set_cons_zero, List.set_cons_succ, i64_w, i32_w]
            rfl
          exact norm_ (by simp only [putAll, Act.put, List.setIfInBounds_toArray, List.set_cons_zero, List.set_cons_succ]) (hCont (gb12, gb13) _ ⟨hHeld, HI0.out, HB.out, HK.out, BK4.out, BK10.out, BK11.out, BK12.out, BK13.out, by omega, ⟨NE12.out, by omega, by omega, by omega, GE12.out, GW12.out⟩, ⟨NE13.out, by omega, by omega, by omega, GE13.out, GW13.out⟩⟩)
      rintro ⟨gb12, gb13⟩ w14 ⟨hHeld, hR⟩
      have HR := Aside0.mk hR
      clear hR HI0 HB HK BK4 BK10 BK11
      refine norm_ (a' := ?_) ?_ ?_
      rotate_left
      · simp only [putAll, Act.put, List.setIfInBounds_toArray, List.set_cons_zero, List.set_cons_succ]
        rfl
      obtain ⟨hi_, hb_, hk_, b4_, b10_, b11_, b12_, b13_, ne_, ⟨x0, x1, x2, x3, x4, x5⟩, ⟨z0, z1, z2, z3, z4, z5⟩⟩ := HR.out
      clear HR
      have HI0 := Aside0.mk hi_; have HB := Aside0.mk hb_; have HK := Aside0.mk hk_; have BK4 := Aside0.mk b4_; have BK10 := Aside0.mk b10_; have BK11 := Aside0.mk b11_; have BK12 := Aside0.mk b12_; have BK13 := Aside0.mk b13_; have NE12 := Aside0.mk x0; have NE13 := Aside0.mk z0; have GE12 := Aside0.mk x4; have GW12 := Aside0.mk x5; have GE13 := Aside0.mk z4; have GW13 := Aside0.mk z5
      have hnb12_4 := x1; have hnb4_12 := x1.symm
      have hnb12_10 := x2; have hnb10_12 := x2.symm
      have hnb12_11 := x3; have hnb11_12 := x3.symm
      have hnb13_4 := z1; have hnb4_13 := z1.symm
      have hnb13_10 := z2; have hnb10_13 := z2.symm
      have hnb13_11 := z3; have hnb11_13 := z3.symm
      have hnb12_13 := ne_; have hnb13_12 := ne_.symm
      clear hi_ hb_ hk_ b4_ b10_ b11_ b12_ b13_ ne_ x0 x1 x2 x3 x4 x5 z0 z1 z2 z3 z4 z5
      refine one_ (i := 10) (N := none) #[true, true, true, true, true, true, true, true, true, true, true, false] rfl rfl (one_of HT_.out (by kernel_rfl)) (by decide) (fun K hK => ?_)
      have hcx1_12_0 := (blk_cell BK12.out 0).trans (show _ = some (.pointer none) from rfl); have hfx1_12_0 := blk_frozen BK12.out 0
      have hcx1_12_1 := (blk_cell BK12.out 1).trans (show _ = some (.pointer none) from rfl); have hfx1_12_1 := blk_frozen BK12.out 1
      refine skip_ (w1 := ((w14.setCell ⟨gb12, 0, none⟩ (.pointer (some ⟨gb10, 1, none⟩))).setCell ⟨gb12, 1, none⟩ (.pointer (some ⟨gb10, 2, none⟩)))) rfl rfl (by go_simp; done) ?_
      generalize hW_ : ((w14.setCell ⟨gb12, 0, none⟩ (.pointer (some ⟨gb10, 1, none⟩))).setCell ⟨gb12, 1, none⟩ (.pointer (some ⟨gb10, 2, none⟩))) = w15
      have n0_ := Aside0.mk (show IsS74 w0 w15 g bs (p + 1) by rw [← hW_]; repeat (with_reducible first | exact HI0.out | refine IsS74.far ?_ NE4.out.symm _ | refine IsS74.far ?_ NE10.out.symm _ | refine IsS74.far ?_ NE11.out.symm _ | refine IsS74.far ?_ NE12.out.symm _ | refine IsS74.far ?_ NE13.out.symm _))
      have n1_ := Aside0.mk (show Below w0.heap.size w0 w15 by rw [← hW_]; repeat (with_reducible first | exact HB.out | refine below_set ?_ GE4.out | refine below_set ?_ GE10.out | refine below_set ?_ GE11.out | refine below_set ?_ GE12.out | refine below_set ?_ GE13.out))
      have n2_ := Aside0.mk (show KeepBut w w15 g none by rw [← hW_]; repeat (with_reducible first | exact HK.out | refine keep_far ?_ GW4.out _ | refine keep_far ?_ GW10.out _ | refine keep_far ?_ GW11.out _ | refine keep_far ?_ GW12.out _ | refine keep_far ?_ GW13.out _))
      have n3_ := Aside0.mk (show w15.heap[gb4]? = some (.cells #[.int .i64 0, .int .i64 0, .int .i64 0] 27 (0, 0)) by rw [← hW_]; repeat (with_reducible first | exact BK4.out | refine blk_far ?_ hnb4_10 _ | refine blk_far ?_ hnb4_11 _ | refine blk_far ?_ hnb4_12 _ | refine blk_far ?_ hnb4_13 _))
      have n4_ := Aside0.mk (show w15.heap[gb10]? = some (.cells #[.int .i64 (i : Int), .int .i64 0, .int .i64 0] 27 (0, 0)) by rw [← hW_]; repeat (with_reducible first | exact BK10.out | refine blk_far ?_ hnb10_4 _ | refine blk_far ?_ hnb10_11 _ | refine blk_far ?_ hnb10_12 _ | refine blk_far ?_ hnb10_13 _))
      have n5_ := Aside0.mk (show w15.heap[gb11]? = some (.cells #[.string ⟨nm.toArray⟩, .int .i64 kn, .int .i64 ka, .int .i64 kb, .int .i64 kt, .int .i64 kp] 54 (0, 0)) by rw [← hW_]; repeat (with_reducible first | exact BK11.out | refine blk_far ?_ hnb11_4 _ | refine blk_far ?_ hnb11_10 _ | refine blk_far ?_ hnb11_12 _ | refine blk_far ?_ hnb11_13 _))
      have n6_ := Aside0.mk (show w15.heap[gb12]? = some (.cells #[.pointer (some ⟨gb10, 1, none⟩), .pointer (some ⟨gb10, 2, none⟩)] 76 (0, 0)) by rw [← hW_]; refine blk_put (cs := #[.pointer (some ⟨gb10, 1, none⟩), .pointer none]) ?_ 1 _ rfl; refine blk_put (cs := #[.pointer none, .pointer none]) ?_ 0 _ rfl; repeat (with_reducible first | exact BK12.out | refine blk_far ?_ hnb12_4 _ | refine blk_far ?_ hnb12_10 _ | refine blk_far ?_ hnb12_11 _ | refine blk_far ?_ hnb12_13 _))
      have n7_ := Aside0.mk (show w15.heap[gb13]? = some (.cells #[.int .i64 0, .int .i64 0] 77 (0, 0)) by rw [← hW_]; repeat (with_reducible first | exact BK13.out | refine blk_far ?_ hnb13_4 _ | refine blk_far ?_ hnb13_10 _ | refine blk_far ?_ hnb13_11 _ | refine blk_far ?_ hnb13_12 _))
      clear hW_ HI0 HB HK BK4 BK10 BK11 BK12 BK13
      have HI0 := n0_
      have HB := n1_
      have HK := n2_
      have BK4 := n3_
      have BK10 := n4_
      have BK11 := n5_
      have BK12 := n6_
      have BK13 := n7_
      clear n0_ n1_ n2_ n3_ n4_ n5_ n6_ n7_
      have hcy4_0_w15 : w15.cell? ⟨gb4, 0, none⟩ = some (.int .i64 0) := (blk_cell BK4.out 0).trans rfl
      have hfy4_0_w15 := blk_frozen BK4.out 0
      have hcy4_1_w15 : w15.cell? ⟨gb4, 1, none⟩ = some (.int .i64 0) := (blk_cell BK4.out 1).trans rfl
      have hfy4_1_w15 := blk_frozen BK4.out 1
      have hcy4_2_w15 : w15.cell? ⟨gb4, 2, none⟩ = some (.int .i64 0) := (blk_cell BK4.out 2).trans rfl
      have hfy4_2_w15 := blk_frozen BK4.out 2
      have hcy10_0_w15 : w15.cell? ⟨gb10, 0, none⟩ = some (.int .i64 (i : Int)) := (blk_cell BK10.out 0).trans rfl
      have hfy10_0_w15 := blk_frozen BK10.out 0
      have hcy10_1_w15 : w15.cell? ⟨gb10, 1, none⟩ = some (.int .i64 0) := (blk_cell BK10.out 1).trans rfl
      have hfy10_1_w15 := blk_frozen BK10.out 1
      have hcy10_2_w15 : w15.cell? ⟨gb10, 2, none⟩ = some (.int .i64 0) := (blk_cell BK10.out 2).trans rfl
      have hfy10_2_w15 := blk_frozen BK10.out 2
      have hcy11_0_w15 : w15.cell? ⟨gb11, 0, none⟩ = some (.string ⟨nm.toArray⟩) := (blk_cell BK11.out 0).trans rfl
      have hfy11_0_w15 := blk_frozen BK11.out 0
      have hcy11_1_w15 : w15.cell? ⟨gb11, 1, none⟩ = some (.int .i64 kn) := (blk_cell BK11.out 1).trans rfl
      have hfy11_1_w15 := blk_frozen BK11.out 1
      have hcy11_2_w15 : w15.cell? ⟨gb11, 2, none⟩ = some (.int .i64 ka) := (blk_cell BK11.out 2).trans rfl
      have hfy11_2_w15 := blk_frozen BK11.out 2
      have hcy11_3_w15 : w15.cell? ⟨gb11, 3, none⟩ = some (.int .i64 kb) := (blk_cell BK11.out 3).trans rfl
      have hfy11_3_w15 := blk_frozen BK11.out 3
      have hcy11_4_w15 : w15.cell? ⟨gb11, 4, none⟩ = some (.int .i64 kt) := (blk_cell BK11.out 4).trans rfl
      have hfy11_4_w15 := blk_frozen BK11.out 4
      have hcy11_5_w15 : w15.cell? ⟨gb11, 5, none⟩ = some (.int .i64 kp) := (blk_cell BK11.out 5).trans rfl
      have hfy11_5_w15 := blk_frozen BK11.out 5
      have hcy12_0_w15 : w15.cell? ⟨gb12, 0, none⟩ = some (.pointer (some ⟨gb10, 1, none⟩)) := (blk_cell BK12.out 0).trans rfl
      have hfy12_0_w15 := blk_frozen BK12.out 0
      have hcy12_1_w15 : w15.cell? ⟨gb12, 1, none⟩ = some (.pointer (some ⟨gb10, 2, none⟩)) := (blk_cell BK12.out 1).trans rfl
      have hfy12_1_w15 := blk_frozen BK12.out 1
      have hcy13_0_w15 : w15.cell? ⟨gb13, 0, none⟩ = some (.int .i64 0) := (blk_cell BK13.out 0).trans rfl
      have hfy13_0_w15 := blk_frozen BK13.out 0
      have hcy13_1_w15 : w15.cell? ⟨gb13, 1, none⟩ = some (.int .i64 0) := (blk_cell BK13.out 1).trans rfl
      have hfy13_1_w15 := blk_frozen BK13.out 1
      refine hK.out _ _ ⟨(blk_cell BK11.out 2).trans rfl, (blk_cell BK11.out 3).trans rfl⟩ (fun hHeld => ?_)
      clear hK K
      refine one_ (i := 11) (N := none) #[true, true, true, true, true, true, true, true, true, true, true, true] rfl rfl (one_of HT_.out (by kernel_rfl)) (by decide) (fun K hK => ?_)
      have hcx2_13_0 := (blk_cell BK13.out 0).trans (show _ = some (.int .i64 0) from rfl); have hfx2_13_0 := blk_frozen BK13.out 0
      have hcx2_13_1 := (blk_cell BK13.out 1).trans (show _ = some (.int .i64 0) from rfl); have hfx2_13_1 := blk_frozen BK13.out 1
      refine skip_ (w1 := ((w15.setCell ⟨gb13, 0, none⟩ (.int .i64 ka)).setCell ⟨gb13, 1, none⟩ (.int .i64 kb))) rfl rfl (by go_simp; done) ?_
      generalize hW_ : ((w15.setCell ⟨gb13, 0, none⟩ (.int .i64 ka)).setCell ⟨gb13, 1, none⟩ (.int .i64 kb)) = w16
      have n0_ := Aside0.mk (show IsS74 w0 w16 g bs (p + 1) by rw [← hW_]; repeat (with_reducible first | exact HI0.out | refine IsS74.far ?_ NE4.out.symm _ | refine IsS74.far ?_ NE10.out.symm _ | refine IsS74.far ?_ NE11.out.symm _ | refine IsS74.far ?_ NE12.out.symm _ | refine IsS74.far ?_ NE13.out.symm _))
      have n1_ := Aside0.mk (show Below w0.heap.size w0 w16 by rw [← hW_]; repeat (with_reducible first | exact HB.out | refine below_set ?_ GE4.out | refine below_set ?_ GE10.out | refine below_set ?_ GE11.out | refine below_set ?_ GE12.out | refine below_set ?_ GE13.out))
      have n2_ := Aside0.mk (show KeepBut w w16 g none by rw [← hW_]; repeat (with_reducible first | exact HK.out | refine keep_far ?_ GW4.out _ | refine keep_far ?_ GW10.out _ | refine keep_far ?_ GW11.out _ | refine keep_far ?_ GW12.out _ | refine keep_far ?_ GW13.out _))
      have n3_ := Aside0.mk (show w16.heap[gb4]? = some (.cells #[.int .i64 0, .int .i64 0, .int .i64 0] 27 (0, 0)) by rw [← hW_]; repeat (with_reducible first | exact BK4.out | refine blk_far ?_ hnb4_10 _ | refine blk_far ?_ hnb4_11 _ | refine blk_far ?_ hnb4_12 _ | refine blk_far ?_ hnb4_13 _))
      have n4_ := Aside0.mk (show w16.heap[gb10]? = some (.cells #[.int .i64 (i : Int), .int .i64 0, .int .i64 0] 27 (0, 0)) by rw [← hW_]; repeat (with_reducible first | exact BK10.out | refine blk_far ?_ hnb10_4 _ | refine blk_far ?_ hnb10_11 _ | refine blk_far ?_ hnb10_12 _ | refine blk_far ?_ hnb10_13 _))
      have n5_ := Aside0.mk (show w16.heap[gb11]? = some (.cells #[.string ⟨nm.toArray⟩, .int .i64 kn, .int .i64 ka, .int .i64 kb, .int .i64 kt, .int .i64 kp] 54 (0, 0)) by rw [← hW_]; repeat (with_reducible first | exact BK11.out | refine blk_far ?_ hnb11_4 _ | refine blk_far ?_ hnb11_10 _ | refine blk_far ?_ hnb11_12 _ | refine blk_far ?_ hnb11_13 _))
      have n6_ := Aside0.mk (show w16.heap[gb12]? = some (.cells #[.pointer (some ⟨gb10, 1, none⟩), .pointer (some ⟨gb10, 2, none⟩)] 76 (0, 0)) by rw [← hW_]; repeat (with_reducible first | exact BK12.out | refine blk_far ?_ hnb12_4 _ | refine blk_far ?_ hnb12_10 _ | refine blk_far ?_ hnb12_11 _ | refine blk_far ?_ hnb12_13 _))
      have n7_ := Aside0.mk (show w16.heap[gb13]? = some (.cells #[.int .i64 ka, .int .i64 kb] 77 (0, 0)) by rw [← hW_]; refine blk_put (cs := #[.int .i64 ka, .int .i64 0]) ?_ 1 _ rfl; refine blk_put (cs := #[.int .i64 0, .int .i64 0]) ?_ 0 _ rfl; repeat (with_reducible first | exact BK13.out | refine blk_far ?_ hnb13_4 _ | refine blk_far ?_ hnb13_10 _ | refine blk_far ?_ hnb13_11 _ | refine blk_far ?_ hnb13_12 _))
      clear hW_ HI0 HB HK BK4 BK10 BK11 BK12 BK13
      have HI0 := n0_
      have HB := n1_
      have HK := n2_
      have BK4 := n3_
      have BK10 := n4_
      have BK11 := n5_
      have BK12 := n6_
      have BK13 := n7_
      clear n0_ n1_ n2_ n3_ n4_ n5_ n6_ n7_
      have hcy4_0_w16 : w16.cell? ⟨gb4, 0, none⟩ = some (.int .i64 0) := (blk_cell BK4.out 0).trans rfl
      have hfy4_0_w16 := blk_frozen BK4.out 0
      have hcy4_1_w16 : w16.cell? ⟨gb4, 1, none⟩ = some (.int .i64 0) := (blk_cell BK4.out 1).trans rfl
      have hfy4_1_w16 := blk_frozen BK4.out 1
      have hcy4_2_w16 : w16.cell? ⟨gb4, 2, none⟩ = some (.int .i64 0) := (blk_cell BK4.out 2).trans rfl
      have hfy4_2_w16 := blk_frozen BK4.out 2
      have hcy10_0_w16 : w16.cell? ⟨gb10, 0, none⟩ = some (.int .i64 (i : Int)) := (blk_cell BK10.out 0).trans rfl
      have hfy10_0_w16 := blk_frozen BK10.out 0
      have hcy10_1_w16 : w16.cell? ⟨gb10, 1, none⟩ = some (.int .i64 0) := (blk_cell BK10.out 1).trans rfl
      have hfy10_1_w16 := blk_frozen BK10.out 1
      have hcy10_2_w16 : w16.cell? ⟨gb10, 2, none⟩ = some (.int .i64 0) := (blk_cell BK10.out 2).trans rfl
      have hfy10_2_w16 := blk_frozen BK10.out 2
      have hcy11_0_w16 : w16.cell? ⟨gb11, 0, none⟩ = some (.string ⟨nm.toArray⟩) := (blk_cell BK11.out 0).trans rfl
      have hfy11_0_w16 := blk_frozen BK11.out 0
      have hcy11_1_w16 : w16.cell? ⟨gb11, 1, none⟩ = some (.int .i64 kn) := (blk_cell BK11.out 1).trans rfl
      have hfy11_1_w16 := blk_frozen BK11.out 1
      have hcy11_2_w16 : w16.cell? ⟨gb11, 2, none⟩ = some (.int .i64 ka) := (blk_cell BK11.out 2).trans rfl
      have hfy11_2_w16 := blk_frozen BK11.out 2
      have hcy11_3_w16 : w16.cell? ⟨gb11, 3, none⟩ = some (.int .i64 kb) := (blk_cell BK11.out 3).trans rfl
      have hfy11_3_w16 := blk_frozen BK11.out 3
      have hcy11_4_w16 : w16.cell? ⟨gb11, 4, none⟩ = some (.int .i64 kt) := (blk_cell BK11.out 4).trans rfl
      have hfy11_4_w16 := blk_frozen BK11.out 4
      have hcy11_5_w16 : w16.cell? ⟨gb11, 5, none⟩ = some (.int .i64 kp) := (blk_cell BK11.out 5).trans rfl
      have hfy11_5_w16 := blk_frozen BK11.out 5
      have hcy12_0_w16 : w16.cell? ⟨gb12, 0, none⟩ = some (.pointer (some ⟨gb10, 1, none⟩)) := (blk_cell BK12.out 0).trans rfl
      have hfy12_0_w16 := blk_frozen BK12.out 0
      have hcy12_1_w16 : w16.cell? ⟨gb12, 1, none⟩ = some (.pointer (some ⟨gb10, 2, none⟩)) := (blk_cell BK12.out 1).trans rfl
      have hfy12_1_w16 := blk_frozen BK12.out 1
      have hcy13_0_w16 : w16.cell? ⟨gb13, 0, none⟩ = some (.int .i64 ka) := (blk_cell BK13.out 0).trans rfl
      have hfy13_0_w16 := blk_frozen BK13.out 0
      have hcy13_1_w16 : w16.cell? ⟨gb13, 1, none⟩ = some (.int .i64 kb) := (blk_cell BK13.out 1).trans rfl
      have hfy13_1_w16 := blk_frozen BK13.out 1
      refine hK.out _ _ ⟨(blk_cell BK11.out 2).trans rfl, (blk_cell BK11.out 3).trans rfl⟩ (fun hHeld => ?_)
      clear hK K
      refine done_ (done_of HT_.out (by kernel_rfl)) ?_
      have H0 := Aside0.mk (code_read.lp_of k bs (i : Int) kn ka kb n1 (p + 1) _ HN.out h)
      clear h
      try clear hcz4_0; try clear hfz4_0; try clear hcz4_1; try clear hfz4_1; try clear hcz4_2; try clear hfz4_2; try clear hcy4_0_w11; try clear hfy4_0_w11; try clear hcy4_1_w11; try clear hfy4_1_w11; try clear hcy4_2_w11; try clear hfy4_2_w11; try clear hcy10_0_w11; try clear hfy10_0_w11; try clear hcy10_1_w11; try clear hfy10_1_w11; try clear hcy10_2_w11; try clear hfy10_2_w11; try clear hcz11_0; try clear hfz11_0; try clear hcz11_1; try clear hfz11_1; try clear hcz11_2; try clear hfz11_2; try clear hcz11_3; try clear hfz11_3; try clear hcz11_4; try clear hfz11_4; try clear hcz11_5; try clear hfz11_5; try clear hcz4_0_11; try clear hfz4_0_11; try clear hcz4_1_11; try clear hfz4_1_11; try clear hcz4_2_11; try clear hfz4_2_11; try clear hcz10_0_11; try clear hfz10_0_11; try clear hcz10_1_11; try clear hfz10_1_11; try clear hcz10_2_11; try clear hfz10_2_11; try clear hcy4_0_w12; try clear hfy4_0_w12; try clear hcy4_1_w12; try clear hfy4_1_w12; try clear hcy4_2_w12; try clear hfy4_2_w12; try clear hcy10_0_w12; try clear hfy10_0_w12; try clear hcy10_1_w12; try clear hfy10_1_w12; try clear hcy10_2_w12; try clear hfy10_2_w12; try clear hcy11_0_w12; try clear hfy11_0_w12; try clear hcy11_1_w12; try clear hfy11_1_w12; try clear hcy11_2_w12; try clear hfy11_2_w12; try clear hcy11_3_w12; try clear hfy11_3_w12; try clear hcy11_4_w12; try clear hfy11_4_w12; try clear hcy11_5_w12; try clear hfy11_5_w12; try clear hcz12_0; try clear hfz12_0; try clear hcz12_1; try clear hfz12_1; try clear hcz4_0_12; try clear hfz4_0_12; try clear hcz4_1_12; try clear hfz4_1_12; try clear hcz4_2_12; try clear hfz4_2_12; try clear hcz10_0_12; try clear hfz10_0_12; try clear hcz10_1_12; try clear hfz10_1_12; try clear hcz10_2_12; try clear hfz10_2_12; try clear hcz11_0_12; try clear hfz11_0_12; try clear hcz11_1_12; try clear hfz11_1_12; try clear hcz11_2_12; try clear hfz11_2_12; try clear hcz11_3_12; try clear hfz11_3_12; try clear hcz11_4_12; try clear hfz11_4_12; try clear hcz11_5_12; try clear hfz11_5_12; try clear hcz13_0; try clear hfz13_0; try clear hcz13_1; try clear hfz13_1; try clear hcz4_0_13; try clear hfz4_0_13; try clear hcz4_1_13; try clear hfz4_1_13; try clear hcz4_2_13; try clear hfz4_2_13; try clear hcz10_0_13; try clear hfz10_0_13; try clear hcz10_1_13; try clear hfz10_1_13; try clear hcz10_2_13; try clear hfz10_2_13; try clear hcz11_0_13; try clear hfz11_0_13; try clear hcz11_1_13; try clear hfz11_1_13; try clear hcz11_2_13; try clear hfz11_2_13; try clear hcz11_3_13; try clear hfz11_3_13; try clear hcz11_4_13; try clear hfz11_4_13; try clear hcz11_5_13; try clear hfz11_5_13; try clear hcz12_0_13; try clear hfz12_0_13; try clear hcz12_1_13; try clear hfz12_1_13; try clear hcz13_0_12; try clear hfz13_0_12; try clear hcz13_1_12; try clear hfz13_1_12; try clear hcx1_12_0; try clear hfx1_12_0; try clear hcx1_12_1; try clear hfx1_12_1; try clear hcy4_0_w15; try clear hfy4_0_w15; try clear hcy4_1_w15; try clear hfy4_1_w15; try clear hcy4_2_w15; try clear hfy4_2_w15; try clear hcy10_0_w15; try clear hfy10_0_w15; try clear hcy10_1_w15; try clear hfy10_1_w15; try clear hcy10_2_w15; try clear hfy10_2_w15; try clear hcy11_0_w15; try clear hfy11_0_w15; try clear hcy11_1_w15; try clear hfy11_1_w15; try clear hcy11_2_w15; try clear hfy11_2_w15; try clear hcy11_3_w15; try clear hfy11_3_w15; try clear hcy11_4_w15; try clear hfy11_4_w15; try clear hcy11_5_w15; try clear hfy11_5_w15; try clear hcy12_0_w15; try clear hfy12_0_w15; try clear hcy12_1_w15; try clear hfy12_1_w15; try clear hcy13_0_w15; try clear hfy13_0_w15; try clear hcy13_1_w15; try clear hfy13_1_w15; try clear hcx2_13_0; try clear hfx2_13_0; try clear hcx2_13_1; try clear hfx2_13_1; try clear hcg0; try clear hcg1; try clear hcg2; try clear hcg3; try clear hcg4; try clear hcg5; try clear hcv
      go_wp2
      go_loopg [55] kn.toNat (fun kq v55 w' => ∃ (j : Nat) (y1 y2 q : Int), v55 = .int .i64 (j : Int) ∧ Aside0 (code_read.lp k bs (i : Int) ka kb n1 kq j y1 y2 q = some (r1, r2, r3, r4, r5, r6)) ∧ Aside0 (kn = (j : Int) + kq) ∧ Aside0 (IsS74 w0 w' g bs q) ∧ Aside0 (Below w0.heap.size w0 w') ∧ Aside0 (KeepBut w w' g none) ∧ Aside0 (w'.heap[gb4]? = some (.cells #[.int .i64 0, .int .i64 0, .int .i64 0] 27 (0, 0))) ∧ Aside0 (w'.heap[gb10]? = some (.cells #[.int .i64 (i : Int), .int .i64 y1, .int .i64 y2] 27 (0, 0))) ∧ Aside0 (w'.heap[gb11]? = some (.cells #[.string ⟨nm.toArray⟩, .int .i64 kn, .int .i64 ka, .int .i64 kb, .int .i64 kt, .int .i64 kp] 54 (0, 0))) ∧ Aside0 (w'.heap[gb12]? = some (.cells #[.pointer (some ⟨gb10, 1, none⟩), .pointer (some ⟨gb10, 2, none⟩)] 76 (0, 0))) ∧ Aside0 (w'.heap[gb13]? = some (.cells #[.int .i64 ka, .int .i64 kb] 77 (0, 0))))
      case atStart => exact ⟨0, 0, 0, p + 1, rfl, H0, ⟨by have := HN.out; omega⟩, HI0, HB, HK, BK4, BK10, BK11, BK12, BK13⟩
      case round =>
        clear H0 HI0 HB HK BK4 BK10 BK11 BK12 BK13
        obtain ⟨j, y1, y2, q, rfl, HA, HJ, HI0, HB, HK, BK4, BK10, BK11, BK12, BK13⟩ := hrel
        have HPL := Aside0.mk (show octet_Reader_Place.f bs q = some (q, q) from rfl)
        have hcx3_4_0 := (blk_cell BK4.out 0).trans (show _ = some (.int .i64 0) from rfl); have hfx3_4_0 := blk_frozen BK4.out 0
        have hcx3_4_1 := (blk_cell BK4.out 1).trans (show _ = some (.int .i64 0) from rfl); have hfx3_4_1 := blk_frozen BK4.out 1
        have hcx3_4_2 := (blk_cell BK4.out 2).trans (show _ = some (.int .i64 0) from rfl); have hfx3_4_2 := blk_frozen BK4.out 2
        have hcx3_10_0 := (blk_cell BK10.out 0).trans (show _ = some (.int .i64 (i : Int)) from rfl); have hfx3_10_0 := blk_frozen BK10.out 0
        have hcx3_10_1 := (blk_cell BK10.out 1).trans (show _ = some (.int .i64 y1) from rfl); have hfx3_10_1 := blk_frozen BK10.out 1
        have hcx3_10_2 := (blk_cell BK10.out 2).trans (show _ = some (.int .i64 y2) from rfl); have hfx3_10_2 := blk_frozen BK10.out 2
        have hcx3_11_0 := (blk_cell BK11.out 0).trans (show _ = some (.string ⟨nm.toArray⟩) from rfl); have hfx3_11_0 := blk_frozen BK11.out 0
        have hcx3_11_1 := (blk_cell BK11.out 1).trans (show _ = some (.int .i64 kn) from rfl); have hfx3_11_1 := blk_frozen BK11.out 1
        have hcx3_11_2 := (blk_cell BK11.out 2).trans (show _ = some (.int .i64 ka) from rfl); have hfx3_11_2 := blk_frozen BK11.out 2
        have hcx3_11_3 := (blk_cell BK11.out 3).trans (show _ = some (.int .i64 kb) from rfl); have hfx3_11_3 := blk_frozen BK11.out 3
        have hcx3_11_4 := (blk_cell BK11.out 4).trans (show _ = some (.int .i64 kt) from rfl); have hfx3_11_4 := blk_frozen BK11.out 4
        have hcx3_11_5 := (blk_cell BK11.out 5).trans (show _ = some (.int .i64 kp) from rfl); have hfx3_11_5 := blk_frozen BK11.out 5
        have hcx3_12_0 := (blk_cell BK12.out 0).trans (show _ = some (.pointer (some ⟨gb10, 1, none⟩)) from rfl); have hfx3_12_0 := blk_frozen BK12.out 0
        have hcx3_12_1 := (blk_cell BK12.out 1).trans (show _ = some (.pointer (some ⟨gb10, 2, none⟩)) from rfl); have hfx3_12_1 := blk_frozen BK12.out 1
        have hcx3_13_0 := (blk_cell BK13.out 0).trans (show _ = some (.int .i64 ka) from rfl); have hfx3_13_0 := blk_frozen BK13.out 0
        have hcx3_13_1 := (blk_cell BK13.out 1).trans (show _ = some (.int .i64 kb) from rfl); have hfx3_13_1 := blk_frozen BK13.out 1
        cases gk with
        | zero =>
          have H := HA.out
          clear HA
          unfold code_read.lp at H
          cases H
          have hlt : decide ((j : Int) < kn) = false := decide_eq_false (by have := HJ.out; omega)
          go_wp2
          refine bodyPost_ret (results_ctt rfl _ _ gb4 27 #[.int .i64 (i : Int), .int .i64 r2, .int .i64 r3] (0, 0) _ rfl (by refine blk_put (cs := #[.int .i64 (i : Int), .int .i64 r2, .int .i64 0]) ?_ 2 _ rfl; refine blk_put (cs := #[.int .i64 (i : Int), .int .i64 0, .int .i64 0]) ?_ 1 _ rfl; refine blk_put (cs := #[.int .i64 0, .int .i64 0, .int .i64 0]) ?_ 0 _ rfl; repeat (with_reducible first | exact BK4.out | refine blk_far ?_ hnb4_10 _ | refine blk_far ?_ hnb4_11 _ | refine blk_far ?_ hnb4_12 _ | refine blk_far ?_ hnb4_13 _)) Tryd.underlying27 rfl (by kernel_rfl)) rfl ?_
          exact ⟨rfl, by repeat (with_reducible first | exact HI0.out | refine IsS74.far ?_ NE4.out.symm _ | refine IsS74.far ?_ NE10.out.symm _ | refine IsS74.far ?_ NE11.out.symm _ | refine IsS74.far ?_ NE12.out.symm _ | refine IsS74.far ?_ NE13.out.symm _), by repeat (with_reducible first | exact HB.out | refine below_set ?_ GE4.out | refine below_set ?_ GE10.out | refine below_set ?_ GE11.out | refine below_set ?_ GE12.out | refine below_set ?_ GE13.out), by repeat (with_reducible first | exact HK.out | refine keep_far ?_ GW4.out _ | refine keep_far ?_ GW10.out _ | refine keep_far ?_ GW11.out _ | refine keep_far ?_ GW12.out _ | refine keep_far ?_ GW13.out _)⟩
        | succ k1 =>
          have H := HA.out
          clear HA
          have hlt : decide ((j : Int) < kn) = true := decide_eq_true (by have := HJ.out; omega)
          unfold code_read.lp at H
          replace H := Option.bind_eq_some_iff.mp H
          obtain ⟨⟨x, e2, q2⟩, hu, H⟩ := H
          have HH := Aside0.mk H
          clear H
          have hj : j = 0 ∨ j = 1 := by have := HJ.out; have := HN.out; omega
          rcases hj with rfl | rfl
          · replace hu : octet_Reader_Uint.f k bs q (IntKind.u64.wrap ka) = some (x, e2, q2) := hu
            replace hlt : decide ((0 : Int) < kn) = true := hlt
            have HU := Aside0.mk hu
            clear hu
            go_upto_region 14 with (first | (go_at_call 40; go_must (refine (octet_Reader_Place.calls g bs q _ _ w0 _ HI0.out HB.out HPL.out).mono ?_; rintro e_ wc_ ⟨rfl, hi, hb, hk⟩; have n0_ := Aside0.mk (hi); have n1_ := Aside0.mk (hb); have n2_ := Aside0.mk (HK.out.trans hk (.inl rfl)); have n3_ := Aside0.mk (blk_keepg BK4.out hk NE4.out); have n4_ := Aside0.mk (blk_keepg BK10.out hk NE10.out); have n5_ := Aside0.mk (blk_keepg BK11.out hk NE11.out); have n6_ := Aside0.mk (blk_keepg BK12.out hk NE12.out); have n7_ := Aside0.mk (blk_keepg BK13.out hk NE13.out); clear HI0 HB HK BK4 BK10 BK11 BK12 BK13; have HI0 := n0_; have HB := n1_; have HK := n2_; have BK4 := n3_; have BK10 := n4_; have BK11 := n5_; have BK12 := n6_; have BK13 := n7_; clear n0_ n1_ n2_ n3_ n4_ n5_ n6_ n7_)))
            have hcx4_13_0 := (blk_cell BK13.out 0).trans (show _ = some (.int .i64 ka) from rfl); have hfx4_13_0 := blk_frozen BK13.out 0
            have hcx4_13_1 := (blk_cell BK13.out 1).trans (show _ = some (.int .i64 kb) from rfl); have hfx4_13_1 := blk_frozen BK13.out 1
            go_upto_region 15 with (first | (go_at_call 47; go_must (refine (octet_Reader_Uint.calls k g bs q _ x e2 q2 w0 _ HI0.out HB.out HU.out).mono ?_; rintro e_ wc_ ⟨rfl, hi, hb, hk⟩; have n0_ := Aside0.mk (hi); have n1_ := Aside0.mk (hb); have n2_ := Aside0.mk (HK.out.trans hk (.inl rfl)); have n3_ := Aside0.mk (blk_keepg BK4.out hk NE4.out); have n4_ := Aside0.mk (blk_keepg BK10.out hk NE10.out); have n5_ := Aside0.mk (blk_keepg BK11.out hk NE11.out); have n6_ := Aside0.mk (blk_keepg BK12.out hk NE12.out); have n7_ := Aside0.mk (blk_keepg BK13.out hk NE13.out); clear HI0 HB HK BK4 BK10 BK11 BK12 BK13; have HI0 := n0_; have HB := n1_; have HK := n2_; have BK4 := n3_; have BK10 := n4_; have BK11 := n5_; have BK12 := n6_; have BK13 := n7_; clear n0_ n1_ n2_ n3_ n4_ n5_ n6_ n7_)))
            have hcx5_4_0 := (blk_cell BK4.out 0).trans (show _ = some (.int .i64 0) from rfl); have hfx5_4_0 := blk_frozen BK4.out 0
            have hcx5_4_1 := (blk_cell BK4.out 1).trans (show _ = some (.int .i64 0) from rfl); have hfx5_4_1 := blk_frozen BK4.out 1
            have hcx5_4_2 := (blk_cell BK4.out 2).trans (show _ = some (.int .i64 0) from rfl); have hfx5_4_2 := blk_frozen BK4.out 2
            have hcx5_10_0 := (blk_cell BK10.out 0).trans (show _ = some (.int .i64 (i : Int)) from rfl); have hfx5_10_0 := blk_frozen BK10.out 0
            have hcx5_10_1 := (blk_cell BK10.out 1).trans (show _ = some (.int .i64 y1) from rfl); have hfx5_10_1 := blk_frozen BK10.out 1
            have hcx5_10_2 := (blk_cell BK10.out 2).trans (show _ = some (.int .i64 y2) from rfl); have hfx5_10_2 := blk_frozen BK10.out 2
            have hcx5_12_0 := (blk_cell BK12.out 0).trans (show _ = some (.pointer (some ⟨gb10, 1, none⟩)) from rfl); have hfx5_12_0 := blk_frozen BK12.out 0
            have hcx5_12_1 := (blk_cell BK12.out 1).trans (show _ = some (.pointer (some ⟨gb10, 2, none⟩)) from rfl); have hfx5_12_1 := blk_frozen BK12.out 1
            by_cases he2 : e2 = 0
            · subst he2
              have H : code_read.lp k bs (i : Int) ka kb n1 k1 1 (wrap64 x) y2 q2 = some (r1, r2, r3, r4, r5, r6) := HH.out
              clear HH
              have HH := Aside0.mk H
              clear H
              go_wp2
              generalize hW_ : (wc_.setCell ⟨gb10, 1, none⟩ (.int .i64 (wrap64 x))) = w20
              have n0_ := Aside0.mk (show IsS74 w0 w20 g bs q2 by rw [← hW_]; repeat (with_reducible first | exact HI0.out | refine IsS74.far ?_ NE4.out.symm _ | refine IsS74.far ?_ NE10.out.symm _ | refine IsS74.far ?_ NE11.out.symm _ | refine IsS74.far ?_ NE12.out.symm _ | refine IsS74.far ?_ NE13.out.symm _))
              have n1_ := Aside0.mk (show Below w0.heap.size w0 w20 by rw [← hW_]; repeat (with_reducible first | exact HB.out | refine below_set ?_ GE4.out | refine below_set ?_ GE10.out | refine below_set ?_ GE11.out | refine below_set ?_ GE12.out | refine below_set ?_ GE13.out))
              have n2_ := Aside0.mk (show KeepBut w w20 g none by rw [← hW_]; repeat (with_reducible first | exact HK.out | refine keep_far ?_ GW4.out _ | refine keep_far ?_ GW10.out _ | refine keep_far ?_ GW11.out _ | refine keep_far ?_ GW12.out _ | refine keep_far ?_ GW13.out _))
              have n3_ := Aside0.mk (show w20.heap[gb4]? = some (.cells #[.int .i64 0, .int .i64 0, .int .i64 0] 27 (0, 0)) by rw [← hW_]; repeat (with_reducible first | exact BK4.out | refine blk_far ?_ hnb4_10 _ | refine blk_far ?_ hnb4_11 _ | refine blk_far ?_ hnb4_12 _ | refine blk_far ?_ hnb4_13 _))
              have n4_ := Aside0.mk (show w20.heap[gb10]? = some (.cells #[.int .i64 (i : Int), .int .i64 (wrap64 x), .int .i64 y2] 27 (0, 0)) by rw [← hW_]; refine blk_put (cs := #[.int .i64 (i : Int), .int .i64 y1, .int .i64 y2]) ?_ 1 _ rfl; repeat (with_reducible first | exact BK10.out | refine blk_far ?_ hnb10_4 _ | refine blk_far ?_ hnb10_11 _ | refine blk_far ?_ hnb10_12 _ | refine blk_far ?_ hnb10_13 _))
              have n5_ := Aside0.mk (show w20.heap[gb11]? = some (.cells #[.string ⟨nm.toArray⟩, .int .i64 kn, .int .i64 ka, .int .i64 kb, .int .i64 kt, .int .i64 kp] 54 (0, 0)) by rw [← hW_]; repeat (with_reducible first | exact BK11.out | refine blk_far ?_ hnb11_4 _ | refine blk_far ?_ hnb11_10 _ | refine blk_far ?_ hnb11_12 _ | refine blk_far ?_ hnb11_13 _))
              have n6_ := Aside0.mk (show w20.heap[gb12]? = some (.cells #[.pointer (some ⟨gb10, 1, none⟩), .pointer (some ⟨gb10, 2, none⟩)] 76 (0, 0)) by rw [← hW_]; repeat (with_reducible first | exact BK12.out | refine blk_far ?_ hnb12_4 _ | refine blk_far ?_ hnb12_10 _ | refine blk_far ?_ hnb12_11 _ | refine blk_far ?_ hnb12_13 _))
              have n7_ := Aside0.mk (show w20.heap[gb13]? = some (.cells #[.int .i64 ka, .int .i64 kb] 77 (0, 0)) by rw [← hW_]; repeat (with_reducible first | exact BK13.out | refine blk_far ?_ hnb13_4 _ | refine blk_far ?_ hnb13_10 _ | refine blk_far ?_ hnb13_11 _ | refine blk_far ?_ hnb13_12 _))
              clear hW_ HI0 HB HK BK4 BK10 BK11 BK12 BK13
              have HI0 := n0_
              have HB := n1_
              have HK := n2_
              have BK4 := n3_
              have BK10 := n4_
              have BK11 := n5_
              have BK12 := n6_
              have BK13 := n7_
              clear n0_ n1_ n2_ n3_ n4_ n5_ n6_ n7_
              have hcq4_0_w20 : w20.cell? ⟨gb4, 0, none⟩ = some (.int .i64 0) := (blk_cell BK4.out 0).trans rfl
              have hfq4_0_w20 := blk_frozen BK4.out 0
              have hcq4_1_w20 : w20.cell? ⟨gb4, 1, none⟩ = some (.int .i64 0) := (blk_cell BK4.out 1).trans rfl
              have hfq4_1_w20 := blk_frozen BK4.out 1
              have hcq4_2_w20 : w20.cell? ⟨gb4, 2, none⟩ = some (.int .i64 0) := (blk_cell BK4.out 2).trans rfl
              have hfq4_2_w20 := blk_frozen BK4.out 2
              have hcq10_0_w20 : w20.cell? ⟨gb10, 0, none⟩ = some (.int .i64 (i : Int)) := (blk_cell BK10.out 0).trans rfl
              have hfq10_0_w20 := blk_frozen BK10.out 0
              have hcq10_1_w20 : w20.cell? ⟨gb10, 1, none⟩ = some (.int .i64 (wrap64 x)) := (blk_cell BK10.out 1).trans rfl
              have hfq10_1_w20 := blk_frozen BK10.out 1
              have hcq10_2_w20 : w20.cell? ⟨gb10, 2, none⟩ = some (.int .i64 y2) := (blk_cell BK10.out 2).trans rfl
              have hfq10_2_w20 := blk_frozen BK10.out 2
              have hcq11_0_w20 : w20.cell? ⟨gb11, 0, none⟩ = some (.string ⟨nm.toArray⟩) := (blk_cell BK11.out 0).trans rfl
              have hfq11_0_w20 := blk_frozen BK11.out 0
              have hcq11_1_w20 : w20.cell? ⟨gb11, 1, none⟩ = some (.int .i64 kn) := (blk_cell BK11.out 1).trans rfl
              have hfq11_1_w20 := blk_frozen BK11.out 1
              have hcq11_2_w20 : w20.cell? ⟨gb11, 2, none⟩ = some (.int .i64 ka) := (blk_cell BK11.out 2).trans rfl
              have hfq11_2_w20 := blk_frozen BK11.out 2
              have hcq11_3_w20 : w20.cell? ⟨gb11, 3, none⟩ = some (.int .i64 kb) := (blk_cell BK11.out 3).trans rfl
              have hfq11_3_w20 := blk_frozen BK11.out 3
              have hcq11_4_w20 : w20.cell? ⟨gb11, 4, none⟩ = some (.int .i64 kt) := (blk_cell BK11.out 4).trans rfl
              have hfq11_4_w20 := blk_frozen BK11.out 4
              have hcq11_5_w20 : w20.cell? ⟨gb11, 5, none⟩ = some (.int .i64 kp) := (blk_cell BK11.out 5).trans rfl
              have hfq11_5_w20 := blk_frozen BK11.out 5
              have hcq12_0_w20 : w20.cell? ⟨gb12, 0, none⟩ = some (.pointer (some ⟨gb10, 1, none⟩)) := (blk_cell BK12.out 0).trans rfl
              have hfq12_0_w20 := blk_frozen BK12.out 0
              have hcq12_1_w20 : w20.cell? ⟨gb12, 1, none⟩ = some (.pointer (some ⟨gb10, 2, none⟩)) := (blk_cell BK12.out 1).trans rfl
              have hfq12_1_w20 := blk_frozen BK12.out 1
              have hcq13_0_w20 : w20.cell? ⟨gb13, 0, none⟩ = some (.int .i64 ka) := (blk_cell BK13.out 0).trans rfl
              have hfq13_0_w20 := blk_frozen BK13.out 0
              have hcq13_1_w20 : w20.cell? ⟨gb13, 1, none⟩ = some (.int .i64 kb) := (blk_cell BK13.out 1).trans rfl
              have hfq13_1_w20 := blk_frozen BK13.out 1
              trace_state
              go_roundg k1
              case measure => exact Nat.lt_succ_self _
              case rel => exact ⟨1, wrap64 x, y2, q2, rfl, HH, ⟨by have := HJ.out; push_cast at this ⊢; omega⟩, HI0, HB, HK, BK4, BK10, BK11, BK12, BK13⟩
            · by_cases he3 : e2 = 41
              · subst he3
                have H := HH.out
                clear HH
                cases H
                go_wp2
                refine bodyPost_ret (results_ctt rfl _ _ gb4 27 #[.int .i64 0, .int .i64 0, .int .i64 0] (0, 0) _ rfl (by refine blk_put (cs := #[.int .i64 0, .int .i64 0, .int .i64 0]) ?_ 2 _ rfl; refine blk_put (cs := #[.int .i64 0, .int .i64 0, .int .i64 0]) ?_ 1 _ rfl; refine blk_put (cs := #[.int .i64 0, .int .i64 0, .int .i64 0]) ?_ 0 _ rfl; repeat (with_reducible first | exact BK4.out | refine blk_far ?_ hnb4_10 _ | refine blk_far ?_ hnb4_11 _ | refine blk_far ?_ hnb4_12 _ | refine blk_far ?_ hnb4_13 _)) Tryd.underlying27 rfl (by kernel_rfl)) rfl ?_
                exact ⟨rfl, by repeat (with_reducible first | exact HI0.out | refine IsS74.far ?_ NE4.out.symm _ | refine IsS74.far ?_ NE10.out.symm _ | refine IsS74.far ?_ NE11.out.symm _ | refine IsS74.far ?_ NE12.out.symm _ | refine IsS74.far ?_ NE13.out.symm _), by repeat (with_reducible first | exact HB.out | refine below_set ?_ GE4.out | refine below_set ?_ GE10.out | refine below_set ?_ GE11.out | refine below_set ?_ GE12.out | refine below_set ?_ GE13.out), by repeat (with_reducible first | exact HK.out | refine keep_far ?_ GW4.out _ | refine keep_far ?_ GW10.out _ | refine keep_far ?_ GW11.out _ | refine keep_far ?_ GW12.out _ | refine keep_far ?_ GW13.out _)⟩
              · have H := HH.out
                clear HH
                rw [if_neg he2] at H
                simp only [if_neg he3] at H
                have he4 : (e2 == 41) = false := beq_eq_false_iff_ne.mpr he3
                have he5 : (e2 != 0) = true := bne_iff_ne.mpr he2
                clear he2 he3
                cases H
                go_wp2
                refine bodyPost_ret (results_ctt rfl _ _ gb4 27 #[.int .i64 0, .int .i64 0, .int .i64 0] (0, 0) _ rfl (by refine blk_put (cs := #[.int .i64 0, .int .i64 0, .int .i64 0]) ?_ 2 _ rfl; refine blk_put (cs := #[.int .i64 0, .int .i64 0, .int .i64 0]) ?_ 1 _ rfl; refine blk_put (cs := #[.int .i64 0, .int .i64 0, .int .i64 0]) ?_ 0 _ rfl; repeat (with_reducible first | exact BK4.out | refine blk_far ?_ hnb4_10 _ | refine blk_far ?_ hnb4_11 _ | refine blk_far ?_ hnb4_12 _ | refine blk_far ?_ hnb4_13 _)) Tryd.underlying27 rfl (by kernel_rfl)) rfl ?_
                exact ⟨rfl, by repeat (with_reducible first | exact HI0.out | refine IsS74.far ?_ NE4.out.symm _ | refine IsS74.far ?_ NE10.out.symm _ | refine IsS74.far ?_ NE11.out.symm _ | refine IsS74.far ?_ NE12.out.symm _ | refine IsS74.far ?_ NE13.out.symm _), by repeat (with_reducible first | exact HB.out | refine below_set ?_ GE4.out | refine below_set ?_ GE10.out | refine below_set ?_ GE11.out | refine below_set ?_ GE12.out | refine below_set ?_ GE13.out), by repeat (with_reducible first | exact HK.out | refine keep_far ?_ GW4.out _ | refine keep_far ?_ GW10.out _ | refine keep_far ?_ GW11.out _ | refine keep_far ?_ GW12.out _ | refine keep_far ?_ GW13.out _)⟩
          · replace hu : octet_Reader_Uint.f k bs q (IntKind.u64.wrap kb) = some (x, e2, q2) := hu
            replace hlt : decide ((1 : Int) < kn) = true := hlt
            have HU := Aside0.mk hu
            clear hu
            go_upto_region 14 with (first | (go_at_call 40; go_must (refine (octet_Reader_Place.calls g bs q _ _ w0 _ HI0.out HB.out HPL.out).mono ?_; rintro e_ wc_ ⟨rfl, hi, hb, hk⟩; have n0_ := Aside0.mk (hi); have n1_ := Aside0.mk (hb); have n2_ := Aside0.mk (HK.out.trans hk (.inl rfl)); have n3_ := Aside0.mk (blk_keepg BK4.out hk NE4.out); have n4_ := Aside0.mk (blk_keepg BK10.out hk NE10.out); have n5_ := Aside0.mk (blk_keepg BK11.out hk NE11.out); have n6_ := Aside0.mk (blk_keepg BK12.out hk NE12.out); have n7_ := Aside0.mk (blk_keepg BK13.out hk NE13.out); clear HI0 HB HK BK4 BK10 BK11 BK12 BK13; have HI0 := n0_; have HB := n1_; have HK := n2_; have BK4 := n3_; have BK10 := n4_; have BK11 := n5_; have BK12 := n6_; have BK13 := n7_; clear n0_ n1_ n2_ n3_ n4_ n5_ n6_ n7_)))
            have hcx6_13_0 := (blk_cell BK13.out 0).trans (show _ = some (.int .i64 ka) from rfl); have hfx6_13_0 := blk_frozen BK13.out 0
            have hcx6_13_1 := (blk_cell BK13.out 1).trans (show _ = some (.int .i64 kb) from rfl); have hfx6_13_1 := blk_frozen BK13.out 1
            go_upto_region 15 with (first | (go_at_call 47; go_must (refine (octet_Reader_Uint.calls k g bs q _ x e2 q2 w0 _ HI0.out HB.out HU.out).mono ?_; rintro e_ wc_ ⟨rfl, hi, hb, hk⟩; have n0_ := Aside0.mk (hi); have n1_ := Aside0.mk (hb); have n2_ := Aside0.mk (HK.out.trans hk (.inl rfl)); have n3_ := Aside0.mk (blk_keepg BK4.out hk NE4.out); have n4_ := Aside0.mk (blk_keepg BK10.out hk NE10.out); have n5_ := Aside0.mk (blk_keepg BK11.out hk NE11.out); have n6_ := Aside0.mk (blk_keepg BK12.out hk NE12.out); have n7_ := Aside0.mk (blk_keepg BK13.out hk NE13.out); clear HI0 HB HK BK4 BK10 BK11 BK12 BK13; have HI0 := n0_; have HB := n1_; have HK := n2_; have BK4 := n3_; have BK10 := n4_; have BK11 := n5_; have BK12 := n6_; have BK13 := n7_; clear n0_ n1_ n2_ n3_ n4_ n5_ n6_ n7_)))
            have hcx7_4_0 := (blk_cell BK4.out 0).trans (show _ = some (.int .i64 0) from rfl); have hfx7_4_0 := blk_frozen BK4.out 0
            have hcx7_4_1 := (blk_cell BK4.out 1).trans (show _ = some (.int .i64 0) from rfl); have hfx7_4_1 := blk_frozen BK4.out 1
            have hcx7_4_2 := (blk_cell BK4.out 2).trans (show _ = some (.int .i64 0) from rfl); have hfx7_4_2 := blk_frozen BK4.out 2
            have hcx7_10_0 := (blk_cell BK10.out 0).trans (show _ = some (.int .i64 (i : Int)) from rfl); have hfx7_10_0 := blk_frozen BK10.out 0
            have hcx7_10_1 := (blk_cell BK10.out 1).trans (show _ = some (.int .i64 y1) from rfl); have hfx7_10_1 := blk_frozen BK10.out 1
            have hcx7_10_2 := (blk_cell BK10.out 2).trans (show _ = some (.int .i64 y2) from rfl); have hfx7_10_2 := blk_frozen BK10.out 2
            have hcx7_12_0 := (blk_cell BK12.out 0).trans (show _ = some (.pointer (some ⟨gb10, 1, none⟩)) from rfl); have hfx7_12_0 := blk_frozen BK12.out 0
            have hcx7_12_1 := (blk_cell BK12.out 1).trans (show _ = some (.pointer (some ⟨gb10, 2, none⟩)) from rfl); have hfx7_12_1 := blk_frozen BK12.out 1
            by_cases he2 : e2 = 0
            · subst he2
              have H : code_read.lp k bs (i : Int) ka kb n1 k1 2 y1 (wrap64 x) q2 = some (r1, r2, r3, r4, r5, r6) := HH.out
              clear HH
              have HH := Aside0.mk H
              clear H
              go_wp2
              generalize hW_ : (wc_.setCell ⟨gb10, 2, none⟩ (.int .i64 (wrap64 x))) = w20
              have n0_ := Aside0.mk (show IsS74 w0 w20 g bs q2 by rw [← hW_]; repeat (with_reducible first | exact HI0.out | refine IsS74.far ?_ NE4.out.symm _ | refine IsS74.far ?_ NE10.out.symm _ | refine IsS74.far ?_ NE11.out.symm _ | refine IsS74.far ?_ NE12.out.symm _ | refine IsS74.far ?_ NE13.out.symm _))
              have n1_ := Aside0.mk (show Below w0.heap.size w0 w20 by rw [← hW_]; repeat (with_reducible first | exact HB.out | refine below_set ?_ GE4.out | refine below_set ?_ GE10.out | refine below_set ?_ GE11.out | refine below_set ?_ GE12.out | refine below_set ?_ GE13.out))
              have n2_ := Aside0.mk (show KeepBut w w20 g none by rw [← hW_]; repeat (with_reducible first | exact HK.out | refine keep_far ?_ GW4.out _ | refine keep_far ?_ GW10.out _ | refine keep_far ?_ GW11.out _ | refine keep_far ?_ GW12.out _ | refine keep_far ?_ GW13.out _))
              have n3_ := Aside0.mk (show w20.heap[gb4]? = some (.cells #[.int .i64 0, .int .i64 0, .int .i64 0] 27 (0, 0)) by rw [← hW_]; repeat (with_reducible first | exact BK4.out | refine blk_far ?_ hnb4_10 _ | refine blk_far ?_ hnb4_11 _ | refine blk_far ?_ hnb4_12 _ | refine blk_far ?_ hnb4_13 _))
              have n4_ := Aside0.mk (show w20.heap[gb10]? = some (.cells #[.int .i64 (i : Int), .int .i64 y1, .int .i64 (wrap64 x)] 27 (0, 0)) by rw [← hW_]; refine blk_put (cs := #[.int .i64 (i : Int), .int .i64 y1, .int .i64 y2]) ?_ 2 _ rfl; repeat (with_reducible first | exact BK10.out | refine blk_far ?_ hnb10_4 _ | refine blk_far ?_ hnb10_11 _ | refine blk_far ?_ hnb10_12 _ | refine blk_far ?_ hnb10_13 _))
              have n5_ := Aside0.mk (show w20.heap[gb11]? = some (.cells #[.string ⟨nm.toArray⟩, .int .i64 kn, .int .i64 ka, .int .i64 kb, .int .i64 kt, .int .i64 kp] 54 (0, 0)) by rw [← hW_]; repeat (with_reducible first | exact BK11.out | refine blk_far ?_ hnb11_4 _ | refine blk_far ?_ hnb11_10 _ | refine blk_far ?_ hnb11_12 _ | refine blk_far ?_ hnb11_13 _))
              have n6_ := Aside0.mk (show w20.heap[gb12]? = some (.cells #[.pointer (some ⟨gb10, 1, none⟩), .pointer (some ⟨gb10, 2, none⟩)] 76 (0, 0)) by rw [← hW_]; repeat (with_reducible first | exact BK12.out | refine blk_far ?_ hnb12_4 _ | refine blk_far ?_ hnb12_10 _ | refine blk_far ?_ hnb12_11 _ | refine blk_far ?_ hnb12_13 _))
              have n7_ := Aside0.mk (show w20.heap[gb13]? = some (.cells #[.int .i64 ka, .int .i64 kb] 77 (0, 0)) by rw [← hW_]; repeat (with_reducible first | exact BK13.out | refine blk_far ?_ hnb13_4 _ | refine blk_far ?_ hnb13_10 _ | refine blk_far ?_ hnb13_11 _ | refine blk_far ?_ hnb13_12 _))
              clear hW_ HI0 HB HK BK4 BK10 BK11 BK12 BK13
              have HI0 := n0_
              have HB := n1_
              have HK := n2_
              have BK4 := n3_
              have BK10 := n4_
              have BK11 := n5_
              have BK12 := n6_
              have BK13 := n7_
              clear n0_ n1_ n2_ n3_ n4_ n5_ n6_ n7_
              have hcq4_0_w20 : w20.cell? ⟨gb4, 0, none⟩ = some (.int .i64 0) := (blk_cell BK4.out 0).trans rfl
              have hfq4_0_w20 := blk_frozen BK4.out 0
              have hcq4_1_w20 : w20.cell? ⟨gb4, 1, none⟩ = some (.int .i64 0) := (blk_cell BK4.out 1).trans rfl
              have hfq4_1_w20 := blk_frozen BK4.out 1
              have hcq4_2_w20 : w20.cell? ⟨gb4, 2, none⟩ = some (.int .i64 0) := (blk_cell BK4.out 2).trans rfl
              have hfq4_2_w20 := blk_frozen BK4.out 2
              have hcq10_0_w20 : w20.cell? ⟨gb10, 0, none⟩ = some (.int .i64 (i : Int)) := (blk_cell BK10.out 0).trans rfl
              have hfq10_0_w20 := blk_frozen BK10.out 0
              have hcq10_1_w20 : w20.cell? ⟨gb10, 1, none⟩ = some (.int .i64 y1) := (blk_cell BK10.out 1).trans rfl
              have hfq10_1_w20 := blk_frozen BK10.out 1
              have hcq10_2_w20 : w20.cell? ⟨gb10, 2, none⟩ = some (.int .i64 (wrap64 x)) := (blk_cell BK10.out 2).trans rfl
              have hfq10_2_w20 := blk_frozen BK10.out 2
              have hcq11_0_w20 : w20.cell? ⟨gb11, 0, none⟩ = some (.string ⟨nm.toArray⟩) := (blk_cell BK11.out 0).trans rfl
              have hfq11_0_w20 := blk_frozen BK11.out 0
              have hcq11_1_w20 : w20.cell? ⟨gb11, 1, none⟩ = some (.int .i64 kn) := (blk_cell BK11.out 1).trans rfl
              have hfq11_1_w20 := blk_frozen BK11.out 1
              have hcq11_2_w20 : w20.cell? ⟨gb11, 2, none⟩ = some (.int .i64 ka) := (blk_cell BK11.out 2).trans rfl
              have hfq11_2_w20 := blk_frozen BK11.out 2
              have hcq11_3_w20 : w20.cell? ⟨gb11, 3, none⟩ = some (.int .i64 kb) := (blk_cell BK11.out 3).trans rfl
              have hfq11_3_w20 := blk_frozen BK11.out 3
              have hcq11_4_w20 : w20.cell? ⟨gb11, 4, none⟩ = some (.int .i64 kt) := (blk_cell BK11.out 4).trans rfl
              have hfq11_4_w20 := blk_frozen BK11.out 4
              have hcq11_5_w20 : w20.cell? ⟨gb11, 5, none⟩ = some (.int .i64 kp) := (blk_cell BK11.out 5).trans rfl
              have hfq11_5_w20 := blk_frozen BK11.out 5
              have hcq12_0_w20 : w20.cell? ⟨gb12, 0, none⟩ = some (.pointer (some ⟨gb10, 1, none⟩)) := (blk_cell BK12.out 0).trans rfl
              have hfq12_0_w20 := blk_frozen BK12.out 0
              have hcq12_1_w20 : w20.cell? ⟨gb12, 1, none⟩ = some (.pointer (some ⟨gb10, 2, none⟩)) := (blk_cell BK12.out 1).trans rfl
              have hfq12_1_w20 := blk_frozen BK12.out 1
              have hcq13_0_w20 : w20.cell? ⟨gb13, 0, none⟩ = some (.int .i64 ka) := (blk_cell BK13.out 0).trans rfl
              have hfq13_0_w20 := blk_frozen BK13.out 0
              have hcq13_1_w20 : w20.cell? ⟨gb13, 1, none⟩ = some (.int .i64 kb) := (blk_cell BK13.out 1).trans rfl
              have hfq13_1_w20 := blk_frozen BK13.out 1
              trace_state
              go_roundg k1
              case measure => exact Nat.lt_succ_self _
              case rel => exact ⟨2, y1, wrap64 x, q2, rfl, HH, ⟨by have := HJ.out; push_cast at this ⊢; omega⟩, HI0, HB, HK, BK4, BK10, BK11, BK12, BK13⟩
            · by_cases he3 : e2 = 41
              · subst he3
                have H := HH.out
                clear HH
                cases H
                go_wp2
                refine bodyPost_ret (results_ctt rfl _ _ gb4 27 #[.int .i64 0, .int .i64 0, .int .i64 0] (0, 0) _ rfl (by refine blk_put (cs := #[.int .i64 0, .int .i64 0, .int .i64 0]) ?_ 2 _ rfl; refine blk_put (cs := #[.int .i64 0, .int .i64 0, .int .i64 0]) ?_ 1 _ rfl; refine blk_put (cs := #[.int .i64 0, .int .i64 0, .int .i64 0]) ?_ 0 _ rfl; repeat (with_reducible first | exact BK4.out | refine blk_far ?_ hnb4_10 _ | refine blk_far ?_ hnb4_11 _ | refine blk_far ?_ hnb4_12 _ | refine blk_far ?_ hnb4_13 _)) Tryd.underlying27 rfl (by kernel_rfl)) rfl ?_
                exact ⟨rfl, by repeat (with_reducible first | exact HI0.out | refine IsS74.far ?_ NE4.out.symm _ | refine IsS74.far ?_ NE10.out.symm _ | refine IsS74.far ?_ NE11.out.symm _ | refine IsS74.far ?_ NE12.out.symm _ | refine IsS74.far ?_ NE13.out.symm _), by repeat (with_reducible first | exact HB.out | refine below_set ?_ GE4.out | refine below_set ?_ GE10.out | refine below_set ?_ GE11.out | refine below_set ?_ GE12.out | refine below_set ?_ GE13.out), by repeat (with_reducible first | exact HK.out | refine keep_far ?_ GW4.out _ | refine keep_far ?_ GW10.out _ | refine keep_far ?_ GW11.out _ | refine keep_far ?_ GW12.out _ | refine keep_far ?_ GW13.out _)⟩
              · have H := HH.out
                clear HH
                rw [if_neg he2] at H
                simp only [if_neg he3] at H
                have he4 : (e2 == 41) = false := beq_eq_false_iff_ne.mpr he3
                have he5 : (e2 != 0) = true := bne_iff_ne.mpr he2
                clear he2 he3
                cases H
                go_wp2
                refine bodyPost_ret (results_ctt rfl _ _ gb4 27 #[.int .i64 0, .int .i64 0, .int .i64 0] (0, 0) _ rfl (by refine blk_put (cs := #[.int .i64 0, .int .i64 0, .int .i64 0]) ?_ 2 _ rfl; refine blk_put (cs := #[.int .i64 0, .int .i64 0, .int .i64 0]) ?_ 1 _ rfl; refine blk_put (cs := #[.int .i64 0, .int .i64 0, .int .i64 0]) ?_ 0 _ rfl; repeat (with_reducible first | exact BK4.out | refine blk_far ?_ hnb4_10 _ | refine blk_far ?_ hnb4_11 _ | refine blk_far ?_ hnb4_12 _ | refine blk_far ?_ hnb4_13 _)) Tryd.underlying27 rfl (by kernel_rfl)) rfl ?_
                exact ⟨rfl, by repeat (with_reducible first | exact HI0.out | refine IsS74.far ?_ NE4.out.symm _ | refine IsS74.far ?_ NE10.out.symm _ | refine IsS74.far ?_ NE11.out.symm _ | refine IsS74.far ?_ NE12.out.symm _ | refine IsS74.far ?_ NE13.out.symm _), by repeat (with_reducible first | exact HB.out | refine below_set ?_ GE4.out | refine below_set ?_ GE10.out | refine below_set ?_ GE11.out | refine below_set ?_ GE12.out | refine below_set ?_ GE13.out), by repeat (with_reducible first | exact HK.out | refine keep_far ?_ GW4.out _ | refine keep_far ?_ GW10.out _ | refine keep_far ?_ GW11.out _ | refine keep_far ?_ GW12.out _ | refine keep_far ?_ GW13.out _)⟩
    · rw [if_neg hop] at h
      have HE := Aside0.mk (Pure.knownB_out hop)
      clear hop
      cases h
      go_wp2_with (first | ((with_reducible refine gate_dst (N := 10) rfl ?_); go_must (refine box_event ?hg (N := 10) ?hd (cs := #[.int .i64 0, .int .i64 0, .int .i64 0]) (t := 27) ?hr ?_; (case hd => rfl); (case hg => rfl); (case hr => first | (go_simp; done) | (go_simp; rfl)); intro gb10 hg wb10_ hbox hb; have hnb4_10 : gb4 ≠ gb10 := (by have := blk_lt BK4.out; omega); have hnb10_4 : gb10 ≠ gb4 := (by have := blk_lt BK4.out; omega); have BK10 := Aside0.mk hbox; have NE10 := Aside0.mk (show gb10 ≠ g from by have := IsS74.lt HI0.out; omega); have GE10 := Aside0.mk (show w0.heap.size ≤ gb10 from by rw [hg]; exact below_size HB.out); have GW10 := Aside0.mk (show w.heap.size ≤ gb10 from by rw [hg]; exact HK.out.1); have n0_ := Aside0.mk (IsS74.below HI0.out hb); have n1_ := Aside0.mk (below_step HB.out hb); have n2_ := Aside0.mk (keep_below HK.out hb); have n3_ := Aside0.mk (blk_below BK4.out hb); clear HI0 HB HK BK4; have HI0 := n0_; have HB := n1_; have HK := n2_; have BK4 := n3_; clear n0_ n1_ n2_ n3_; clear hbox hb hg; have hcz10_0 : wb10_.cell? ⟨gb10, 0, none⟩ = some (.int .i64 0) := (blk_cell BK10.out 0).trans rfl; have hfz10_0 := blk_frozen BK10.out 0; have hcz10_1 : wb10_.cell? ⟨gb10, 1, none⟩ = some (.int .i64 0) := (blk_cell BK10.out 1).trans rfl; have hfz10_1 := blk_frozen BK10.out 1; have hcz10_2 : wb10_.cell? ⟨gb10, 2, none⟩ = some (.int .i64 0) := (blk_cell BK10.out 2).trans rfl; have hfz10_2 := blk_frozen BK10.out 2; have hcz4_0_10 : wb10_.cell? ⟨gb4, 0, none⟩ = some (.int .i64 0) := (blk_cell BK4.out 0).trans rfl; have hfz4_0_10 := blk_frozen BK4.out 0; have hcz4_1_10 : wb10_.cell? ⟨gb4, 1, none⟩ = some (.int .i64 0) := (blk_cell BK4.out 1).trans rfl; have hfz4_1_10 := blk_frozen BK4.out 1; have hcz4_2_10 : wb10_.cell? ⟨gb4, 2, none⟩ = some (.int .i64 0) := (blk_cell BK4.out 2).trans rfl; have hfz4_2_10 := blk_frozen BK4.out 2)) | (go_at_call 33; go_must (refine (Pure.known_any _ _).mono ?_; rintro e_ wd_ ⟨rfl, rfl⟩; rw [HE.out])))
      refine bodyPost_ret (results_ctt rfl _ _ gb4 27 #[.int .i64 0, .int .i64 0, .int .i64 0] (0, 0) _ rfl (by refine blk_put (cs := #[.int .i64 0, .int .i64 0, .int .i64 0]) ?_ 2 _ rfl; refine blk_put (cs := #[.int .i64 0, .int .i64 0, .int .i64 0]) ?_ 1 _ rfl; refine blk_put (cs := #[.int .i64 0, .int .i64 0, .int .i64 0]) ?_ 0 _ rfl; repeat (with_reducible first | exact BK4.out | refine blk_far ?_ hnb4_10 _)) Tryd.underlying27 rfl (by kernel_rfl)) rfl ?_
      exact ⟨rfl, by repeat (with_reducible first | exact HI0.out | refine IsS74.far ?_ NE4.out.symm _ | refine IsS74.far ?_ NE10.out.symm _), by repeat (with_reducible first | exact HB.out | refine below_set ?_ GE4.out | refine below_set ?_ GE10.out), by repeat (with_reducible first | exact HK.out | refine keep_far ?_ GW4.out _ | refine keep_far ?_ GW10.out _)⟩
  · rw [if_neg he] at h
    have he0 : (e == 0) = false := beq_eq_false_iff_ne.mpr he
    have he1 : (e != 0) = true := bne_iff_ne.mpr he
    clear he
    cases h
    go_wp2
    refine bodyPost_ret (results_ctt rfl _ _ gb4 27 #[.int .i64 0, .int .i64 0, .int .i64 0] (0, 0) _ rfl (by refine blk_put (cs := #[.int .i64 0, .int .i64 0, .int .i64 0]) ?_ 2 _ rfl; refine blk_put (cs := #[.int .i64 0, .int .i64 0, .int .i64 0]) ?_ 1 _ rfl; refine blk_put (cs := #[.int .i64 0, .int .i64 0, .int .i64 0]) ?_ 0 _ rfl; repeat (with_reducible first | exact BK4.out)) Tryd.underlying27 rfl (by kernel_rfl)) rfl ?_
    exact ⟨rfl, by repeat (with_reducible first | exact HI0.out | refine IsS74.far ?_ NE4.out.symm _), by repeat (with_reducible first | exact HB.out | refine below_set ?_ GE4.out), by repeat (with_reducible first | exact HK.out | refine keep_far ?_ GW4.out _)⟩
end Go.Proofs.YtknlcpojglhbnaaDoor.PCodeDecodes
