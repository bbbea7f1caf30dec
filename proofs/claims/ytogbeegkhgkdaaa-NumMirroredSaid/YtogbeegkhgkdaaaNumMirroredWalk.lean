/- Own text: the walk of NumMirrored over num.Ratio's contract (after the texts that print.sh wrote for num.Ratio and has). -/
import Derived.Test.YtogbeegkhgkdaaaQNumMirroredx1
import Derived.Outline
import Derived.Laws.Tables
import Derived.Laws.CopyOwn
import Derived.Deep.DeepMust
namespace Go.Proofs.Ytogbeegkhgkdaaa.Pure
open Go.RowKit Go.Proofs.Ytogbeegkhgkdaaa.PNumMirrored Go.Proofs.YtogbeegkhgkdaaaW.PrintWords Go.Proofs.YtogbeegkhgkdaaaW.PrintLast Go.Proofs.YtogbeegkhgkdaaaW.PrintMore
set_option linter.unusedVariables false
set_option linter.unusedSimpArgs false

theorem has_any (x n : Int) (w : World) : Calls Try.prog 16 #[.int .i64 x, .int .i64 n] w fun e w' => e = .returned (.bool (x == n)) ∧ Drawn0 w w' :=
  payofflaw01_has.calls x n _ w rfl

def turn (i : Int) : Int := if i = 1 then 2 else if i = 2 then 1 else i
set_option maxHeartbeats 1000000 in
set_option maxRecDepth 100000 in
theorem mirrored_calls (k : Nat) (a b c : Int) (w : World) (ha : -9223372036854775808 < a ∧ a ≤ 9223372036854775807) (X Y : Nat → Int × Int)
    (hA : num_Ratio.f k 7 1 2 1 = some (3, 0)) (hB : num_Ratio.f k (-7) 1 2 1 = some (-4, 0))
    (hX : ∀ i : Nat, i < 5 → num_Ratio.f k a b c i = some (X i)) (hY : ∀ i : Nat, i < 5 → num_Ratio.f k (-a) b c (turn i) = some (Y i))
    (hL : ∀ i : Nat, i < 5 → ((X i).2 == 0) = true ∧ ((Y i).2 == 0) = true ∧ (X i).1 = wrap64 (-(Y i).1) ∨ ((X i).2 == 0) = false ∧ ((Y i).2 == 0) = false ∨
      ((X i).2 == 0) = true ∧ ((Y i).2 == 0) = false ∧ (X i).1 = -9223372036854775808 ∨ ((X i).2 == 0) = false ∧ ((Y i).2 == 0) = true ∧ (Y i).1 = -9223372036854775808) :
    Calls Try.prog 12 #[.int .i64 a, .int .i64 b, .int .i64 c] w fun e w' => e = .returned (.bool true) ∧ Below w.heap.size w w' := by
  have HA := Aside0.mk hA
  have HAB := Aside0.mk hB
  have HX := Aside0.mk hX
  have HY := Aside0.mk hY
  have HL := Aside0.mk hL
  clear hA hB hX hY hL
  have HB := Aside0.mk (Below.refl w.heap.size w)
  obtain ⟨ha1, ha2⟩ := ha
  have hm : (a == -9223372036854775808) = false := by simp; omega
  go_enter Try.func12, Try.ntmps12
  go_wp2_with fail
  refine (num_Ratio.calls k _ _ _ _ _ _ _ HA.out).mono ?_
  rintro e w1 ⟨rfl, ⟨nd1, rfl⟩⟩
  go_wp2_with fail
  refine (num_Ratio.calls k _ _ _ _ _ _ _ HAB.out).mono ?_
  rintro e w1 ⟨rfl, ⟨nd2, rfl⟩⟩
  go_wp2_with (first | (go_at_call 16; refine (has_any _ _ _).mono ?_; rintro e w' ⟨rfl, ⟨nd, rfl⟩⟩) | ((with_reducible refine gate_dst (N := 11) rfl ?_); refine box_event ?hg (N := 11) ?hd (cs := #[.int .i64 0, .int .i64 0, .int .i64 0, .int .i64 0, .int .i64 0]) (t := 34) ?hr ?_; (case hd => rfl); (case hg => rfl); (case hr => first | (go_simp; done) | (go_simp; rfl)); intro gb hg w6 hbox hb; have n0_ := Aside0.mk (below_step (by repeat (first | (with_reducible first | exact HB.out | apply below_alloc | apply pw_below_drewN | apply below_drew1) | exact HB.out)) hb); have n1_ := Aside0.mk (hbox); have n2_ := Aside0.mk ((by rw [hg]; exact (below_size (by repeat (first | (with_reducible first | exact HB.out | apply below_alloc | apply pw_below_drewN | apply below_drew1) | exact HB.out))) : w.heap.size ≤ gb)); clear HB; have HB := n0_; have BK := n1_; have GE := n2_; clear n0_ n1_ n2_; clear hb hbox hg) | ((with_reducible refine gate_store (t := 34) (p := 11) (v := .tmp 43) rfl ?_); go_must (refine wpList_store_row rfl 34 (.tmp 11) (.tmp 43) rfl gb #[.int .i64 0, .int .i64 2, .int .i64 1, .int .i64 3, .int .i64 4] rfl rfl 34 _ BK.out (by kernel_rfl) rfl (by first | rfl | (simp; done) | (simp [Value.oneCell']; done)) ?_); have n1_ := Aside0.mk (setRow_heap _ gb _ #[.int .i64 0, .int .i64 2, .int .i64 1, .int .i64 3, .int .i64 4] 34 _ BK.out); have n2_ := Aside0.mk (below_setRow HB.out GE.out #[.int .i64 0, .int .i64 2, .int .i64 1, .int .i64 3, .int .i64 4]); clear HB BK; have HB := n2_; have BK := n1_; clear n1_ n2_))
  go_loopw [12] (fun v12 wr => ∃ i : Nat, i ≤ 5 ∧ v12 = .int .i64 i ∧ Aside0 (wr.heap[gb]? = some (.cells #[.int .i64 0, .int .i64 2, .int .i64 1, .int .i64 3, .int .i64 4] 34 (0, 0))) ∧ Aside0 (Below w.heap.size w wr)) (fun v12 _ => 5 - (intOf v12).toNat)
  case atStart => exact ⟨0, by omega, rfl, BK, HB⟩
  case round =>
    clear BK HB
    obtain ⟨i, hi, rfl, BK, HB⟩ := hrel
    by_cases hlt : i < 5
    · have hl := HL.out i hlt
      have hc : wr.cell? ⟨gb, i, none⟩ = some (.int .i64 (turn i)) := by
        have : i = 0 ∨ i = 1 ∨ i = 2 ∨ i = 3 ∨ i = 4 := by omega
        rcases this with rfl | rfl | rfl | rfl | rfl <;> exact (blk_cell BK.out _).trans rfl
      generalize hX' : X i = x at hl
      generalize hY' : Y i = y at hl
      obtain ⟨x1, x2⟩ := x
      obtain ⟨y1, y2⟩ := y
      have HXi : Aside0 (num_Ratio.f k a b c i = some (x1, x2)) := ⟨by have := HX.out i hlt; rw [hX'] at this; exact this⟩
      have HYi : Aside0 (num_Ratio.f k (-a) b c (turn i) = some (y1, y2)) := ⟨by have := HY.out i hlt; rw [hY'] at this; exact this⟩
      clear hX' hY'
      simp only at hl
      go_wp2_with fail
      refine (num_Ratio.calls k _ _ _ _ _ _ _ HXi.out).mono ?_
      rintro e w1 ⟨rfl, ⟨nd1, rfl⟩⟩
      go_wp2_with fail
      refine (num_Ratio.calls k _ _ _ _ _ _ _ HYi.out).mono ?_
      rintro e w1 ⟨rfl, ⟨nd2, rfl⟩⟩
      rcases hl with ⟨h1, h2, h3⟩ | ⟨h1, h2⟩ | ⟨h1, h2, h3⟩ | ⟨h1, h2, h3⟩
      · have h4 : (x1 == wrap64 (-y1)) = true := by simp [h3]
        clear h3
        go_wp2_with (go_at_call 16; refine (has_any _ _ _).mono ?_; rintro e w' ⟨rfl, ⟨nd, rfl⟩⟩)
        go_roundw
        case rel => exact ⟨i + 1, by omega, by go_num, ⟨by (with_reducible repeat (first | refine blk_drewN ?_ _ | refine blk_drew ?_ | refine blk_alloc ?_ _)); exact BK.out⟩, ⟨by repeat (first | (with_reducible first | exact HB.out | apply below_alloc | apply pw_below_drewN | apply below_drew1) | exact HB.out)⟩⟩
        case measure => simp [intOf]; omega
      · skip
        go_wp2_with (go_at_call 16; refine (has_any _ _ _).mono ?_; rintro e w' ⟨rfl, ⟨nd, rfl⟩⟩)
        go_roundw
        case rel => exact ⟨i + 1, by omega, by go_num, ⟨by (with_reducible repeat (first | refine blk_drewN ?_ _ | refine blk_drew ?_ | refine blk_alloc ?_ _)); exact BK.out⟩, ⟨by repeat (first | (with_reducible first | exact HB.out | apply below_alloc | apply pw_below_drewN | apply below_drew1) | exact HB.out)⟩⟩
        case measure => simp [intOf]; omega
      · subst h3
        go_wp2_with (go_at_call 16; refine (has_any _ _ _).mono ?_; rintro e w' ⟨rfl, ⟨nd, rfl⟩⟩)
        go_roundw
        case rel => exact ⟨i + 1, by omega, by go_num, ⟨by (with_reducible repeat (first | refine blk_drewN ?_ _ | refine blk_drew ?_ | refine blk_alloc ?_ _)); exact BK.out⟩, ⟨by repeat (first | (with_reducible first | exact HB.out | apply below_alloc | apply pw_below_drewN | apply below_drew1) | exact HB.out)⟩⟩
        case measure => simp [intOf]; omega
      · subst h3
        go_wp2_with (go_at_call 16; refine (has_any _ _ _).mono ?_; rintro e w' ⟨rfl, ⟨nd, rfl⟩⟩)
        all_goals
          go_roundw
          case rel => exact ⟨i + 1, by omega, by go_num, ⟨by (with_reducible repeat (first | refine blk_drewN ?_ _ | refine blk_drew ?_ | refine blk_alloc ?_ _)); exact BK.out⟩, ⟨by repeat (first | (with_reducible first | exact HB.out | apply below_alloc | apply pw_below_drewN | apply below_drew1) | exact HB.out)⟩⟩
          case measure => simp [intOf]; omega
    · go_wp2
      go_ret
      exact ⟨rfl, HB.out⟩
set_option maxHeartbeats 1000000 in
set_option maxRecDepth 100000 in
theorem mirrored_least (k : Nat) (b c : Int) (w : World) (hA : num_Ratio.f k 7 1 2 1 = some (3, 0)) (hB : num_Ratio.f k (-7) 1 2 1 = some (-4, 0)) :
    Calls Try.prog 12 #[.int .i64 (-9223372036854775808), .int .i64 b, .int .i64 c] w fun e w' => e = .returned (.bool true) ∧ Below w.heap.size w w' := by
  have HA := Aside0.mk hA
  have HAB := Aside0.mk hB
  clear hA hB
  have HB := Aside0.mk (Below.refl w.heap.size w)
  go_enter Try.func12, Try.ntmps12
  go_wp2_with fail
  refine (num_Ratio.calls k _ _ _ _ _ _ _ HA.out).mono ?_
  rintro e w1 ⟨rfl, ⟨nd1, rfl⟩⟩
  go_wp2_with fail
  refine (num_Ratio.calls k _ _ _ _ _ _ _ HAB.out).mono ?_
  rintro e w1 ⟨rfl, ⟨nd2, rfl⟩⟩
  go_wp2_with (go_at_call 16; refine (has_any _ _ _).mono ?_; rintro e w' ⟨rfl, ⟨nd, rfl⟩⟩)
  go_ret
  exact ⟨rfl, by repeat (first | (with_reducible first | exact HB.out | apply below_alloc | apply pw_below_drewN | apply below_drew1) | exact HB.out)⟩
end Go.Proofs.Ytogbeegkhgkdaaa.Pure
