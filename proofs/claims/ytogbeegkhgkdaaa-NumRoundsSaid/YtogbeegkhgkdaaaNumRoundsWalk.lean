/- Own text: the walk of NumRounds over num.Ratio's contract (after the texts that print.sh wrote for num's functions and has). -/
import Derived.Test.YtogbeegkhgkdaaaQNumRoundsx2
import Derived.Outline
import Derived.Laws.Tables
import Derived.Laws.CopyOwn
import Derived.Deep.DeepMust
namespace Go.Proofs.Ytogbeegkhgkdaaa.Pure
open Go.RowKit Go.Proofs.Ytogbeegkhgkdaaa.PNumRounds Go.Proofs.YtogbeegkhgkdaaaW.PrintWords Go.Proofs.YtogbeegkhgkdaaaW.PrintLast Go.Proofs.YtogbeegkhgkdaaaW.PrintMore
set_option linter.unusedVariables false
set_option linter.unusedSimpArgs false

theorem has_any (x n : Int) (w : World) : Calls Try.prog 16 #[.int .i64 x, .int .i64 n] w fun e w' => e = .returned (.bool (x == n)) ∧ Drawn0 w w' :=
  payofflaw01_has.calls x n _ w rfl
/-- Five cells, the first i of them written. -/
def arr (X : Nat → Int) (i : Nat) : Array Value := #[.int .i64 (if 0 < i then X 0 else 0), .int .i64 (if 1 < i then X 1 else 0), .int .i64 (if 2 < i then X 2 else 0), .int .i64 (if 3 < i then X 3 else 0), .int .i64 (if 4 < i then X 4 else 0)]
theorem arr_zero (X : Nat → Int) : arr X 0 = #[.int .i64 0, .int .i64 0, .int .i64 0, .int .i64 0, .int .i64 0] := rfl
theorem arr_get (X : Nat → Int) (i j : Nat) (h : j < 5) : (arr X i)[j]? = some (.int .i64 (if j < i then X j else 0)) := by
  have : j = 0 ∨ j = 1 ∨ j = 2 ∨ j = 3 ∨ j = 4 := by omega
  rcases this with rfl | rfl | rfl | rfl | rfl <;> rfl
theorem arr_set (X : Nat → Int) (i : Nat) (h : i < 5) : (arr X i).setIfInBounds i (.int .i64 (X i)) = arr X (i + 1) := by
  have : i = 0 ∨ i = 1 ∨ i = 2 ∨ i = 3 ∨ i = 4 := by omega
  rcases this with rfl | rfl | rfl | rfl | rfl <;> rfl
theorem blk_else {w : World} {g h : Nat} {o : Obj} (b : w.heap[g]? = some o) (i : Nat) (v : Value) (hne : g ≠ h) : (w.setCell ⟨h, i, none⟩ v).heap[g]? = some o := by
  rw [heap_setCell_other _ _ _ _ hne]; exact b

set_option maxHeartbeats 4000000 in
set_option maxRecDepth 100000 in
theorem rounds_calls (k : Nat) (a b c : Int) (w : World) (X : Nat → Int × Int) (V : Nat → Int) (P D : Int × Int) (cz : Bool) (hcz : (c == 0) = cz)
    (hX : ∀ i : Nat, i < 5 → num_Ratio.f k a b c i = some (X i)) (hP : num_Ratio.f k a b 1 0 = some P) (hQ : num_Mul.f k a b = some P) (hD : num_Ratio.f k a 1 c 0 = some D) (hE : num_Div.f a c = some D)
    (h0 : cz = true → ∀ i : Nat, i < 5 → X i = (0, 2)) (h1 : cz = false → ∀ i : Nat, i < 5 → ((X i).2 == 0) = true ∨ ((X i).2 == 0) = false ∧ ((X i).2 == 1) = true)
    (hV : ∀ i, (X i).1 = V i) (h2 : (∀ i : Nat, i < 5 → ((X i).2 == 0) = true) →
      ((V 2 == V 1) = true ∨ (V 2 == V 1) = false ∧ (V 2 == wrap64 (V 1 + 1)) = true) ∧
      (∀ i : Nat, i < 5 → (V i == V 1) = true ∨ (V i == V 1) = false ∧ (V i == V 2) = true) ∧
      ((V 2 == V 1) = false → (decide (V 1 < 0) = true ∧ (V 0 == V 2) = true ∧ ((V 3 == V 4) = true ∨ (V 3 == V 4) = false ∧ (Int.tmod (V 4) 2 == 0) = true ∧ (V 3 == wrap64 (wrap64 (V 1 + V 2) - V 2)) = true)) ∨
        (decide (V 1 < 0) = false ∧ (V 0 == V 1) = true ∧ ((V 3 == V 4) = true ∨ (V 3 == V 4) = false ∧ (Int.tmod (V 4) 2 == 0) = true ∧ (V 3 == wrap64 (wrap64 (V 1 + V 2) - V 1)) = true)))) :
    Calls Try.prog 13 #[.int .i64 a, .int .i64 b, .int .i64 c] w fun e w' => e = .returned (.bool true) ∧ Below w.heap.size w w' := by
  have HX := Aside0.mk hX
  have HP := Aside0.mk hP
  have HQ := Aside0.mk hQ
  have HD := Aside0.mk hD
  have HE := Aside0.mk hE
  have H0 := Aside0.mk h0
  have H1 := Aside0.mk h1
  have H2 := Aside0.mk h2
  have HV := Aside0.mk hV
  clear hX hP hQ hD hE h0 h1 h2 hV
  have HB := Aside0.mk (Below.refl w.heap.size w)
  go_enter Try.func13, Try.ntmps13
  go_wp2_with (first | ((with_reducible refine gate_dst (N := 7) rfl ?_); refine box_event ?hg (N := 7) ?hd (cs := #[.int .i64 0, .int .i64 0, .int .i64 0, .int .i64 0, .int .i64 0]) (t := 34) ?hr ?_; (case hd => rfl); (case hg => rfl); (case hr => first | (go_simp; done) | (go_simp; rfl)); intro gv hg w6 hbox hb; have n0_ := Aside0.mk (below_step (by repeat (first | (with_reducible first | exact HB.out | apply below_alloc | apply pw_below_drewN | apply below_drew1) | exact HB.out)) hb); have n1_ := Aside0.mk (hbox); have n2_ := Aside0.mk ((by rw [hg]; exact (below_size (by repeat (first | (with_reducible first | exact HB.out | apply below_alloc | apply pw_below_drewN | apply below_drew1) | exact HB.out))) : w.heap.size ≤ gv)); clear HB; have HB := n0_; have BV := n1_; have GV := n2_; clear n0_ n1_ n2_; clear hb hbox hg) | ((with_reducible refine gate_dst (N := 8) rfl ?_); refine box_event ?hg (N := 8) ?hd (cs := #[.int .i64 0, .int .i64 0, .int .i64 0, .int .i64 0, .int .i64 0]) (t := 36) ?hr ?_; (case hd => rfl); (case hg => rfl); (case hr => first | (go_simp; done) | (go_simp; rfl)); intro gf hg w7 hbox hb; have n0_ := Aside0.mk (below_step (by repeat (first | (with_reducible first | exact HB.out | apply below_alloc | apply pw_below_drewN | apply below_drew1) | exact HB.out)) hb); have n1_ := Aside0.mk (hbox); have n2_ := Aside0.mk ((by rw [hg]; exact (below_size (by repeat (first | (with_reducible first | exact HB.out | apply below_alloc | apply pw_below_drewN | apply below_drew1) | exact HB.out))) : w.heap.size ≤ gf)); have n3_ := Aside0.mk (blk_below BV.out hb); have n4_ := Aside0.mk (show gv ≠ gf from by rw [hg]; exact Nat.ne_of_lt (blk_lt BV.out)); clear HB BV; have HB := n0_; have BF := n1_; have GF := n2_; have BV := n3_; have NE := n4_; clear n0_ n1_ n2_ n3_ n4_; clear hb hbox hg))
  have hne := NE.out
  have hne' := Ne.symm NE.out
  go_loopw [9] (fun v9 wr => ∃ i : Nat, i ≤ 5 ∧ v9 = .int .i64 i ∧ Aside0 (wr.heap[gv]? = some (.cells (arr (fun j => (X j).1) i) 34 (0, 0))) ∧ Aside0 (wr.heap[gf]? = some (.cells (arr (fun j => (X j).2) i) 36 (0, 0))) ∧ Aside0 (Below w.heap.size w wr)) (fun v9 _ => 5 - (intOf v9).toNat)
  case atStart => exact ⟨0, by omega, rfl, BV, BF, HB⟩
  case round =>
    clear BV BF HB
    obtain ⟨i, hi, rfl, BV, BF, HB⟩ := hrel
    by_cases hlt : i < 5
    · have hcv : wr.cell? ⟨gv, i, none⟩ = some (.int .i64 0) := (blk_cell BV.out _).trans ((arr_get _ i i hlt).trans (by simp))
      have hcf : wr.cell? ⟨gf, i, none⟩ = some (.int .i64 0) := (blk_cell BF.out _).trans ((arr_get _ i i hlt).trans (by simp))
      have hfv := blk_frozen BV.out i
      have hff := blk_frozen BF.out i
      go_wp2_with fail
      refine (num_Ratio.calls k _ _ _ _ _ _ _ (HX.out i hlt)).mono ?_
      rintro e w1 ⟨rfl, ⟨nd1, rfl⟩⟩
      cases cz with
      | true =>
        have hx := H0.out rfl i hlt
        have hx1 : ((X i).1 == 0) = true := by rw [hx]; rfl
        have hx2 : ((X i).2 == 2) = true := by rw [hx]; rfl
        clear hx
        go_wp2_with (go_at_call 16; refine (has_any _ _ _).mono ?_; rintro e w' ⟨rfl, ⟨nd, rfl⟩⟩)
        go_roundw
        case rel => exact ⟨i + 1, by omega, by go_num, ⟨arr_set (fun j => (X j).1) i hlt ▸ by (with_reducible repeat (first | refine blk_drewN ?_ _ | refine blk_drew ?_ | refine blk_alloc ?_ _)); refine blk_else ?_ _ _ hne; exact blk_set (blk_drewN BV.out _) i _⟩, ⟨arr_set (fun j => (X j).2) i hlt ▸ by (with_reducible repeat (first | refine blk_drewN ?_ _ | refine blk_drew ?_ | refine blk_alloc ?_ _)); exact blk_set (blk_else (blk_drewN BF.out _) _ _ hne') i _⟩, ⟨by repeat (first | (with_reducible first | exact HB.out | apply below_alloc | apply pw_below_drewN | apply below_drew1 | refine below_set ?_ GV.out | refine below_set ?_ GF.out) | exact HB.out)⟩⟩
        case measure => simp [intOf]; omega
      | false =>
        go_wp2_with (go_at_call 16; refine (has_any _ _ _).mono ?_; rintro e w' ⟨rfl, ⟨nd, rfl⟩⟩)
        go_roundw
        case rel => exact ⟨i + 1, by omega, by go_num, ⟨arr_set (fun j => (X j).1) i hlt ▸ by (with_reducible repeat (first | refine blk_drewN ?_ _ | refine blk_drew ?_ | refine blk_alloc ?_ _)); refine blk_else ?_ _ _ hne; exact blk_set (blk_drewN BV.out _) i _⟩, ⟨arr_set (fun j => (X j).2) i hlt ▸ by (with_reducible repeat (first | refine blk_drewN ?_ _ | refine blk_drew ?_ | refine blk_alloc ?_ _)); exact blk_set (blk_else (blk_drewN BF.out _) _ _ hne') i _⟩, ⟨by repeat (first | (with_reducible first | exact HB.out | apply below_alloc | apply pw_below_drewN | apply below_drew1 | refine below_set ?_ GV.out | refine below_set ?_ GF.out) | exact HB.out)⟩⟩
        case measure => simp [intOf]; omega
    · have : i = 5 := by omega
      subst this
      go_wp2_with fail
      refine (num_Ratio.calls k _ _ _ _ _ _ _ HP.out).mono ?_
      rintro e w1 ⟨rfl, ⟨nd1, rfl⟩⟩
      go_wp2_with fail
      refine (num_Mul.calls k _ _ _ _ _ HQ.out).mono ?_
      rintro e w1 ⟨rfl, ⟨nd2, rfl⟩⟩
      go_wp2_with fail
      refine (num_Ratio.calls k _ _ _ _ _ _ _ HD.out).mono ?_
      rintro e w1 ⟨rfl, ⟨nd3, rfl⟩⟩
      go_wp2_with fail
      refine (num_Div.calls _ _ _ _ _ HE.out).mono ?_
      rintro e w1 ⟨rfl, ⟨nd4, rfl⟩⟩
      go_wp2_with fail
      go_loopw [18] (fun v18 wq => ∃ i : Nat, i ≤ 5 ∧ v18 = .int .i64 i ∧ Aside0 (∀ j, j < i → ((X j).2 == 0) = true) ∧ Aside0 (wq.heap[gv]? = some (.cells (arr (fun j => (X j).1) 5) 34 (0, 0))) ∧ Aside0 (wq.heap[gf]? = some (.cells (arr (fun j => (X j).2) 5) 36 (0, 0))) ∧ Aside0 (Below w.heap.size w wq)) (fun v18 _ => 5 - (intOf v18).toNat)
      case atStart => exact ⟨0, by omega, rfl, ⟨fun j hj => by omega⟩, ⟨by (with_reducible repeat (first | refine blk_drewN ?_ _ | refine blk_drew ?_ | refine blk_alloc ?_ _)); exact BV.out⟩, ⟨by (with_reducible repeat (first | refine blk_drewN ?_ _ | refine blk_drew ?_ | refine blk_alloc ?_ _)); exact BF.out⟩, ⟨by repeat (first | (with_reducible first | exact HB.out | apply below_alloc | apply pw_below_drewN | apply below_drew1) | exact HB.out)⟩⟩
      case round =>
        clear BV BF HB
        obtain ⟨i, hi, rfl, HZ, BV, BF, HB⟩ := hrel
        by_cases hlt : i < 5
        · have hcf : wr.cell? ⟨gf, i, none⟩ = some (.int .i64 (X i).2) := (blk_cell BF.out _).trans ((arr_get _ 5 i hlt).trans (by simp [hlt]))
          cases cz with
          | true =>
            have hx := H0.out rfl i hlt
            have hx1 : ((X i).2 == 0) = false := by rw [hx]; rfl
            clear hx
            go_wp2_with (go_at_call 16; refine (has_any _ _ _).mono ?_; rintro e w' ⟨rfl, ⟨nd, rfl⟩⟩)
            go_ret
            exact ⟨rfl, by repeat (first | (with_reducible first | exact HB.out | apply below_alloc | apply pw_below_drewN | apply below_drew1) | exact HB.out)⟩
          | false =>
            rcases H1.out rfl i hlt with h1 | ⟨h1, h2⟩
            · go_wp2_with (go_at_call 16; refine (has_any _ _ _).mono ?_; rintro e w' ⟨rfl, ⟨nd, rfl⟩⟩)
              go_roundw
              case rel => exact ⟨i + 1, by omega, by go_num, ⟨fun j hj => by
                by_cases e : j = i
                · subst e; exact h1
                · exact HZ.out j (by omega)⟩, ⟨by (with_reducible repeat (first | refine blk_drewN ?_ _ | refine blk_drew ?_ | refine blk_alloc ?_ _)); exact BV.out⟩, ⟨by (with_reducible repeat (first | refine blk_drewN ?_ _ | refine blk_drew ?_ | refine blk_alloc ?_ _)); exact BF.out⟩, ⟨by repeat (first | (with_reducible first | exact HB.out | apply below_alloc | apply pw_below_drewN | apply below_drew1) | exact HB.out)⟩⟩
              case measure => simp [intOf]; omega
            · go_wp2_with (go_at_call 16; refine (has_any _ _ _).mono ?_; rintro e w' ⟨rfl, ⟨nd, rfl⟩⟩)
              go_ret
              exact ⟨rfl, by repeat (first | (with_reducible first | exact HB.out | apply below_alloc | apply pw_below_drewN | apply below_drew1) | exact HB.out)⟩
        · have : i = 5 := by omega
          subst this
          obtain ⟨g1, g2, g3⟩ := H2.out HZ.out
          have c0 : wr.cell? ⟨gv, 0, none⟩ = some (.int .i64 (V 0)) := by rw [← HV.out]; exact blk_cell BV.out _
          have c1 : wr.cell? ⟨gv, 1, none⟩ = some (.int .i64 (V 1)) := by rw [← HV.out]; exact blk_cell BV.out _
          have c2 : wr.cell? ⟨gv, 2, none⟩ = some (.int .i64 (V 2)) := by rw [← HV.out]; exact blk_cell BV.out _
          have c3 : wr.cell? ⟨gv, 3, none⟩ = some (.int .i64 (V 3)) := by rw [← HV.out]; exact blk_cell BV.out _
          have c4 : wr.cell? ⟨gv, 4, none⟩ = some (.int .i64 (V 4)) := by rw [← HV.out]; exact blk_cell BV.out _
          have G2 := Aside0.mk g2
          have G3 := Aside0.mk g3
          clear g2 g3
          have hcell : ∀ i, i < 5 → wr.cell? ⟨gv, i, none⟩ = some (.int .i64 (V i)) := fun i hlt => by rw [← HV.out]; exact (blk_cell BV.out _).trans ((arr_get _ 5 i hlt).trans (by simp [hlt]))
          have HC := Aside0.mk hcell
          clear hcell
          rcases g1 with g1 | ⟨g1, g4⟩
          · have g5 : (V 2 != V 1) = false := by simp [bne, g1]
            go_wp2
            go_loop [21] (fun v21 => ∃ i : Nat, i ≤ 5 ∧ v21 = .int .i64 i) (fun v21 => 5 - (intOf v21).toNat)
            case atStart => exact ⟨0, by omega, rfl⟩
            case round =>
              obtain ⟨i, hi, rfl⟩ := hrel
              by_cases hlt : i < 5
              · have hci := HC.out i hlt
                rcases G2.out i hlt with e1 | ⟨e1, e2⟩
                · have e3 : (V i != V 1) = false := by simp [bne, e1]
                  go_wp2
                  go_round
                  case rel => exact ⟨i + 1, by omega, by go_num⟩
                  case measure => simp [intOf]; omega
                · have e3 : (V i != V 1) = true := by simp [bne, e1]
                  have e4 : (V i != V 2) = false := by simp [bne, e2]
                  go_wp2
                  go_round
                  case rel => exact ⟨i + 1, by omega, by go_num⟩
                  case measure => simp [intOf]; omega
              · have : i = 5 := by omega
                subst this
                go_wp2
                go_ret
                exact ⟨by first | rfl | (simp [*]; done) | (simp; done), by repeat (first | (with_reducible first | exact HB.out | apply below_alloc | apply pw_below_drewN | apply below_drew1) | exact HB.out)⟩
          · have g5 : (V 2 != V 1) = true := by simp [bne, g1]
            have g6 : (V 2 != wrap64 (V 1 + 1)) = false := by simp [bne, g4]
            go_wp2
            go_loop [21] (fun v21 => ∃ i : Nat, i ≤ 5 ∧ v21 = .int .i64 i) (fun v21 => 5 - (intOf v21).toNat)
            case atStart => exact ⟨0, by omega, rfl⟩
            case round =>
              obtain ⟨i, hi, rfl⟩ := hrel
              by_cases hlt : i < 5
              · have hci := HC.out i hlt
                rcases G2.out i hlt with e1 | ⟨e1, e2⟩
                · have e3 : (V i != V 1) = false := by simp [bne, e1]
                  go_wp2
                  go_round
                  case rel => exact ⟨i + 1, by omega, by go_num⟩
                  case measure => simp [intOf]; omega
                · have e3 : (V i != V 1) = true := by simp [bne, e1]
                  have e4 : (V i != V 2) = false := by simp [bne, e2]
                  go_wp2
                  go_round
                  case rel => exact ⟨i + 1, by omega, by go_num⟩
                  case measure => simp [intOf]; omega
              · have : i = 5 := by omega
                subst this
                rcases G3.out g1 with ⟨e1, e2, e3⟩ | ⟨e1, e2, e3⟩
                · rcases e3 with e3 | ⟨e3, e4, e5⟩
                  · go_wp2
                    go_ret
                    exact ⟨by first | rfl | (simp [*]; done) | (simp; done), by repeat (first | (with_reducible first | exact HB.out | apply below_alloc | apply pw_below_drewN | apply below_drew1) | exact HB.out)⟩
                  · go_wp2
                    go_ret
                    exact ⟨by first | rfl | (simp [*]; done) | (simp; done), by repeat (first | (with_reducible first | exact HB.out | apply below_alloc | apply pw_below_drewN | apply below_drew1) | exact HB.out)⟩
                · rcases e3 with e3 | ⟨e3, e4, e5⟩
                  · go_wp2
                    go_ret
                    exact ⟨by first | rfl | (simp [*]; done) | (simp; done), by repeat (first | (with_reducible first | exact HB.out | apply below_alloc | apply pw_below_drewN | apply below_drew1) | exact HB.out)⟩
                  · go_wp2
                    go_ret
                    exact ⟨by first | rfl | (simp [*]; done) | (simp; done), by repeat (first | (with_reducible first | exact HB.out | apply below_alloc | apply pw_below_drewN | apply below_drew1) | exact HB.out)⟩
end Go.Proofs.Ytogbeegkhgkdaaa.Pure
