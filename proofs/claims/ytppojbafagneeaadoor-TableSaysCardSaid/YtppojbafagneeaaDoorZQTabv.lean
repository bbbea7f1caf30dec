/- Own text, for this claim: table.Valid, after the text that the kit's printer writes. -/
import Derived.Test.YtppojbafagneeaaDoorZTabCol
import Derived.Test.YtppojbafagneeaaDoorZQTab2
import Derived.WalkMore
import Derived.Deep.DeepMust
import Derived.Outline
import Derived.Deep.RegionWith
namespace Go.Proofs.YtppojbafagneeaaDoor.PTab
open Go.RowKit Go.Proofs.YtppojbafagneeaaDoorW.PrintWords Go.Proofs.YtppojbafagneeaaDoorW.PrintLast Go.Proofs.YtppojbafagneeaaDoorW.PrintMore
attribute [local go_sem] max2_int min2_int max_two min_two max_three min_three max_four min_four
set_option linter.unusedVariables false
set_option linter.unusedSimpArgs false
attribute [local go_sem high] eqA52
mutual
def table_Valid.l0 : Nat → List (List (S52)) → Int → Int → List ByteArray → List (List (S52)) → Option (Int)
 | 0, _, _, _, _, _ => none
 | k + 1, x10, x11, x12, x153000, x153001 => if x12 < x11 then (if 0 ≤ x12 then (if x12 < (x10.length : Int) then (if ((rd_L4 x10 x12).length : Int) = (x153000.length : Int) then (table_Valid.l0 k x10 x11 (wrap64 (x12 + 1)) x153000 x153001) else (some 3)) else (none)) else (none)) else (if (x153000.length : Int) > 64 then (table_Valid.j1 k true x153000 x153001) else (table_Valid.j1 k (decide ((x153001.length : Int) > 4096)) x153000 x153001))
def table_Valid.j1 : Nat → Bool → List ByteArray → List (List (S52)) → Option (Int)
 | 0, _, _, _ => none
 | k + 1, x32, x153000, x153001 => if x32 = true then (some 6) else ((table_columns.f x153000).bind fun t154 => (if t154 = (x153000.length : Int) then ((table_capitals.f k x153000).bind fun t155 => (table_Valid.j2 k (!t155) x153000 x153001)) else (table_Valid.j2 k true x153000 x153001)))
def table_Valid.j2 : Nat → Bool → List ByteArray → List (List (S52)) → Option (Int)
 | 0, _, _, _ => none
 | k + 1, x46, x153000, x153001 => if x46 = true then (some 52) else (table_Valid.l1 k x153001 (x153001.length : Int) 0)
def table_Valid.l1 : Nat → List (List (S52)) → Int → Int → Option (Int)
 | 0, _, _, _ => none
 | k + 1, x48, x49, x50 => if x50 < x49 then (if 0 ≤ x50 then (if x50 < (x48.length : Int) then (table_Valid.l2 k x48 x49 x50 (rd_L4 x48 x50) ((rd_L4 x48 x50).length : Int) 0) else (none)) else (none)) else (some 0)
def table_Valid.l2 : Nat → List (List (S52)) → Int → Int → List (S52) → Int → Int → Option (Int)
 | 0, _, _, _, _, _, _ => none
 | k + 1, x48, x49, x50, x54, x55, x56 => if x56 < x55 then (if 0 ≤ x56 then (if x56 < (x54.length : Int) then (if ((rd_T52 x54 x56).f0 = true) then (table_Valid.l2 k x48 x49 x50 x54 x55 (wrap64 (x56 + 1))) else (if ((rd_T52 x54 x56).f1) = 0 then (table_Valid.l2 k x48 x49 x50 x54 x55 (wrap64 (x56 + 1))) else (some 51))) else (none)) else (none)) else (table_Valid.l1 k x48 x49 (wrap64 (x50 + 1)))
end
def table_Valid.f (k : Nat) (l0_0 : List ByteArray) (l0_1 : List (List (S52))) : Option (Int) := table_Valid.l0 k l0_1 (l0_1.length : Int) 0 l0_0 l0_1
def table_Valid.T9 : Bool × List (List Nat × List Nat) := (true, [([], []), ([0], [0]), ([1], [1]), ([2, 2], [2]), ([], []), ([4], [4]), ([5], [5]), ([3, 6], [3, 6]), ([7, 3], [7]), ([8], [8]), ([9, 8], [8, 9]), ([10, 8, 8], [8, 10]), ([11, 8], [8, 11]), ([8, 12], [8, 12])])
def table_Valid.B9 : List Nat := [0, 1, 3, 7, 0, 16, 48, 127, 255, 511, 1023, 2047, 4095, 8191]
theorem table_Valid.tab9 : rtab .any (opsOf Tryd.f20 9) = table_Valid.T9 := by kernel_rfl
theorem table_Valid.bits9 : waitsOk table_Valid.T9.2 table_Valid.B9 = true := by kernel_rfl
set_option maxHeartbeats 8000000 in
set_option maxRecDepth 100000 in
theorem table_Valid.calls (k : Nat) (A0_0 : Option Addr) (c0_0 : Nat) (l0_0 : List ByteArray) (A0_1 : Option Addr) (c0_1 : Nat) (l0_1 : List (List (S52))) (r : Int) (w : World) (hr0_0 : Kd.C Kd.string w A0_0 l0_0.length l0_0) (hc0_0 : l0_0.length ≤ c0_0) (hr0_1 : Kd.C (Kd.slice 52 k52) w A0_1 l0_1.length l0_1) (hc0_1 : l0_1.length ≤ c0_1) (h : table_Valid.f k l0_0 l0_1 = some r) :
  Calls Tryd.prog 20 #[.agg #[.slice A0_0 l0_0.length c0_0, .slice A0_1 l0_1.length c0_1]] w fun e w' => e = .returned (.int .i64 r) ∧ Below w.heap.size w w' := by
 have hu25 := Tryd.underlying25
 have hu52 := Tryd.underlying52
 have HR0_0 := yA hr0_0
 have HC0_0 := yA hc0_0
 clear hr0_0 hc0_0
 have HR0_1 := yA hr0_1
 have HC0_1 := yA hc0_1
 clear hr0_1 hc0_1
 have HB := yA (Below.refl w.heap.size w)
 have H : (table_Valid.l0 k l0_1 (l0_1.length : Int) 0 l0_0 l0_1) = some r := h
 clear h
 have H' := yA H
 clear H
 go_enter Tryd.func20, Tryd.ntmps20
 go_wp2_with (first | ((with_reducible refine yP (N := 1) rfl ?_); (try (refine gate_guard (by rfl) ?_; dsimp only)); refine yQ ?hg (N := 1) ?hd (cs := #[.slice A0_0 l0_0.length c0_0, .slice A0_1 l0_1.length c0_1]) (t := 25) ?hr ?_; (case hd => rfl); (case hg => rfl); (case hr => first | (go_simp; done) | (go_simp; rfl)); intro gb152 hg w2 hbox hb; have n0_ := yA (yB (by repeat (first | (with_reducible first | exact HB.out | apply yE | apply yF | apply yD) | exact HB.out)) hb); have n1_ := yA (hbox); have n2_ := yA ((by rw [hg]; exact (below_size (by repeat (first | (with_reducible first | exact HB.out | apply yE | apply yF | apply yD) | exact HB.out))) : w.heap.size ≤ gb152)); have n3_ := yA ((by rw [hg]; exact (below_size (by repeat (first | (with_reducible first | exact HB.out | apply yE | apply yF | apply yD) | exact HB.out))) : w.heap.size ≤ gb152)); clear HB; have HB := n0_; have BK152 := n1_; have GW152 := n2_; have GE152 := n3_; clear n0_ n1_ n2_ n3_; clear hb hbox hg; have hcz3_0 : w2.cell? ⟨gb152, 0, none⟩ = some (.slice A0_0 l0_0.length c0_0) := (yR BK152.out 0).trans rfl; have hcz3_1 : w2.cell? ⟨gb152, 1, none⟩ = some (.slice A0_1 l0_1.length c0_1) := (yR BK152.out 1).trans rfl; have hfz3_0 := yS BK152.out 0; have hfz3_1 := yS BK152.out 1))
 go_loopg [12] k (fun kq v12 w' => ∃ (x12_1 : Int), v12 = .int .i64 x12_1 ∧ Aside0 (table_Valid.l0 kq l0_1 (l0_1.length : Int) x12_1 l0_0 l0_1 = some r) ∧ Aside0 (kq ≤ k) ∧ Aside0 (w'.heap[gb152]? = some (.cells #[(.slice A0_0 l0_0.length c0_0), (.slice A0_1 l0_1.length c0_1)] 25 (0, 0))) ∧ Aside0 (Below w.heap.size w w'))
 case atStart => exact ⟨(0), (by first | rfl | (simp; done) | (simp [*]; done)), H', ⟨Nat.le_refl _⟩, ⟨by (with_reducible repeat (first | refine yG ?_ _ | refine yH ?_ | refine yI ?_ _)); exact BK152.out⟩, ⟨by repeat (first | (with_reducible first | exact HB.out | apply yE | apply yF | apply yD | refine yJ ?_ GE152.out) | exact HB.out)⟩⟩
 case round =>
  clear H'
  try clear c2; try clear p2; try clear hcz3_0; try clear hcz3_1; try clear hfz3_0; try clear hfz3_1
  obtain ⟨x12_1, rfl, HA, HK1, BK152, HB⟩ := hrel
  cases gk with
  | zero => exact absurd HA.out (by simp [table_Valid.l0])
  | succ k1 =>
   have H := HA.out
   clear HA
   simp only [table_Valid.l0] at H
   by_cases c4 : x12_1 < (l0_1.length : Int)
   ·rw [if_pos c4] at H
    have c4b0 : decide (x12_1 < (l0_1.length : Int)) = true := yL c4
    clear c4
    by_cases c5 : 0 ≤ x12_1
    ·rw [if_pos c5] at H
     have c5b0 : decide (0 ≤ x12_1) = true := yL c5
     clear c5
     by_cases c6 : x12_1 < (l0_1.length : Int)
     ·rw [if_pos c6] at H
      have c6b0 : decide (x12_1 < (l0_1.length : Int)) = true := yL c6
      clear c6
      by_cases c7 : ((rd_L4 l0_1 x12_1).length : Int) = (l0_0.length : Int)
      ·rw [if_pos c7] at H
       have c7b0 : (((rd_L4 l0_1 x12_1).length : Int) == (l0_0.length : Int)) = true := beq_iff_eq.mpr c7
       have c7b1 : (((rd_L4 l0_1 x12_1).length : Int) != (l0_0.length : Int)) = false := bne_eq_false_iff_eq.mpr c7
       have c7b2 : ((rd_L4 l0_1 x12_1).length == l0_0.length) = true := by first | simpa using c7 | (simp at c7 ⊢; omega)
       clear c7
       have H' := yA H
       clear H
       have p153 : 0 ≤ (x12_1 : Int) := yN (by first | (with_reducible assumption) | assumption)
       have q153 : x12_1 < (l0_1.length : Int) := yN (by first | (with_reducible assumption) | assumption)
       obtain ⟨ad153, A153_0, c153_0, e153, hx153_0, hl153_0, hi153_0⟩ := at_L4 HR0_1.out x12_1 p153 q153
       cases e153
       replace hx153_0 := (HB.out.cell (World.block_lt_of_cell? w _ hx153_0)).trans hx153_0
       have HR153_0 := yA hi153_0
       have HC153_0 := yA hl153_0
       clear hi153_0 hl153_0
       replace p153 := eq_true p153
       replace q153 := eq_true q153
       have hcz8_0 : wr.cell? ⟨gb152, 0, none⟩ = some (.slice A0_0 l0_0.length c0_0) := (yR BK152.out 0).trans rfl
       have hcz8_1 : wr.cell? ⟨gb152, 1, none⟩ = some (.slice (some ad153) l0_1.length c0_1) := (yR BK152.out 1).trans rfl
       have hfz8_0 := yS BK152.out 0
       have hfz8_1 := yS BK152.out 1
       go_wp2
       go_roundg k1
       case measure => have := HK1.out; omega
       case rel => exact ⟨(wrap64 (x12_1 + 1)), (by first | rfl | (simp; done) | (simp [*]; done)), H', ⟨by have := HK1.out; omega⟩, ⟨by (with_reducible repeat (first | refine yG ?_ _ | refine yH ?_ | refine yI ?_ _)); exact BK152.out⟩, ⟨by repeat (first | (with_reducible first | exact HB.out | apply yE | apply yF | apply yD | refine yJ ?_ GE152.out) | exact HB.out)⟩⟩
      ·rw [if_neg c7] at H
       have c7b0 : (((rd_L4 l0_1 x12_1).length : Int) == (l0_0.length : Int)) = false := beq_eq_false_iff_ne.mpr c7
       have c7b1 : (((rd_L4 l0_1 x12_1).length : Int) != (l0_0.length : Int)) = true := bne_iff_ne.mpr c7
       have c7b2 : ((rd_L4 l0_1 x12_1).length == l0_0.length) = false := by first | simpa using c7 | (simp at c7 ⊢; omega)
       obtain rfl := Option.some.inj H
       have p153 : 0 ≤ (x12_1 : Int) := yN (by first | (with_reducible assumption) | assumption)
       have q153 : x12_1 < (l0_1.length : Int) := yN (by first | (with_reducible assumption) | assumption)
       obtain ⟨ad153, A153_0, c153_0, e153, hx153_0, hl153_0, hi153_0⟩ := at_L4 HR0_1.out x12_1 p153 q153
       cases e153
       replace hx153_0 := (HB.out.cell (World.block_lt_of_cell? w _ hx153_0)).trans hx153_0
       have HR153_0 := yA hi153_0
       have HC153_0 := yA hl153_0
       clear hi153_0 hl153_0
       replace p153 := eq_true p153
       replace q153 := eq_true q153
       have hcz9_0 : wr.cell? ⟨gb152, 0, none⟩ = some (.slice A0_0 l0_0.length c0_0) := (yR BK152.out 0).trans rfl
       have hcz9_1 : wr.cell? ⟨gb152, 1, none⟩ = some (.slice (some ad153) l0_1.length c0_1) := (yR BK152.out 1).trans rfl
       have hfz9_0 := yS BK152.out 0
       have hfz9_1 := yS BK152.out 1
       go_wp2
       go_ret
       exact ⟨by first | rfl | (simp [errW_none, errW_some] <;> rfl) | (simp [*, errW_none, errW_some] <;> rfl), by repeat (first | (with_reducible first | exact HB.out | apply yE | apply yF | apply yD | refine yJ ?_ GE152.out) | exact HB.out)⟩
     ·rw [if_neg c6] at H
      exact absurd H (by simp)
    ·rw [if_neg c5] at H
     exact absurd H (by simp)
   ·rw [if_neg c4] at H
    have c4b0 : decide (x12_1 < (l0_1.length : Int)) = false := yM c4
    clear c4
    have HC10 := yA H
    clear H
    go_upto_region 7 with (fail)
    go_cut [32] (fun v32 wc => ∃ (kq : Nat) (x32_9 : Bool), v32 = .bool x32_9 ∧ Aside0 (table_Valid.j1 kq x32_9 l0_0 l0_1 = some r) ∧ Aside0 (kq ≤ k1) ∧ Aside0 (wc.heap[gb152]? = some (.cells #[(.slice A0_0 l0_0.length c0_0), (.slice A0_1 l0_1.length c0_1)] 25 (0, 0))) ∧ Aside0 (Below w.heap.size w wc))
    case first =>
     have H := HC10.out
     clear HC10
     by_cases c11 : (l0_0.length : Int) > 64
     ·rw [if_pos c11] at H
      have c11b0 : decide (64 < (l0_0.length : Int)) = true := yL c11
      have c11b1 : decide (64 < l0_0.length) = true := yL (by omega)
      clear c11
      (first | rw [c11b0] | (simp only [i64_w, i32_w]; rw [c11b0]) | skip)
      have H' := yA H
      clear H
      have hcz12_0 : wr.cell? ⟨gb152, 0, none⟩ = some (.slice A0_0 l0_0.length c0_0) := (yR BK152.out 0).trans rfl
      have hcz12_1 : wr.cell? ⟨gb152, 1, none⟩ = some (.slice A0_1 l0_1.length c0_1) := (yR BK152.out 1).trans rfl
      have hfz12_0 := yS BK152.out 0
      have hfz12_1 := yS BK152.out 1
      go_wp2
      go_meet
      case rel => exact ⟨_, (true), (by first | rfl | (simp; done) | (simp [*]; done)), H', ⟨by have := HK1.out; first | omega | exact Nat.le_refl _⟩, ⟨by (with_reducible repeat (first | refine yG ?_ _ | refine yH ?_ | refine yI ?_ _)); exact BK152.out⟩, ⟨by repeat (first | (with_reducible first | exact HB.out | apply yE | apply yF | apply yD | refine yJ ?_ GE152.out) | exact HB.out)⟩⟩
     ·rw [if_neg c11] at H
      have c11b0 : decide (64 < (l0_0.length : Int)) = false := yM c11
      have c11b1 : decide (64 < l0_0.length) = false := yM (by omega)
      clear c11
      (first | rw [c11b0] | (simp only [i64_w, i32_w]; rw [c11b0]) | skip)
      have H' := yA H
      clear H
      have hcz13_0 : wr.cell? ⟨gb152, 0, none⟩ = some (.slice A0_0 l0_0.length c0_0) := (yR BK152.out 0).trans rfl
      have hcz13_1 : wr.cell? ⟨gb152, 1, none⟩ = some (.slice A0_1 l0_1.length c0_1) := (yR BK152.out 1).trans rfl
      have hfz13_0 := yS BK152.out 0
      have hfz13_1 := yS BK152.out 1
      go_wp2
      go_meet
      case rel => exact ⟨_, (decide ((l0_1.length : Int) > 4096)), (by first | rfl | (simp; done) | (simp [*]; done)), H', ⟨by have := HK1.out; first | omega | exact Nat.le_refl _⟩, ⟨by (with_reducible repeat (first | refine yG ?_ _ | refine yH ?_ | refine yI ?_ _)); exact BK152.out⟩, ⟨by repeat (first | (with_reducible first | exact HB.out | apply yE | apply yF | apply yD | refine yJ ?_ GE152.out) | exact HB.out)⟩⟩
    case rest =>
     clear HC10; try clear c1; try clear p1; try clear q1; try clear hx1; try clear c2; try clear p2; try clear c4; try clear c4b0; try clear c5; try clear c5b0; try clear c6; try clear c6b0; try clear p6; try clear c7; try clear c7b0; try clear c7b1; try clear c7b2; try clear c11; try clear c11b0; try clear c11b1; try clear hcz12_0; try clear hcz12_1; try clear hcz13_0; try clear hcz13_1; try clear hcz3_0; try clear hcz3_1; try clear hcz8_0; try clear hcz8_1; try clear hcz9_0; try clear hcz9_1; try clear hfz12_0; try clear hfz12_1; try clear hfz13_0; try clear hfz13_1; try clear hfz3_0; try clear hfz3_1; try clear hfz8_0; try clear hfz8_1; try clear hfz9_0; try clear hfz9_1; try clear hx153_0; try clear p153; try clear p2; try clear q153
     obtain ⟨kq, x32_9, rfl, HA, HJ9, BK152, HB⟩ := hcut
     cases kq with
     | zero => exact absurd HA.out (by simp [table_Valid.j1])
     | succ kj9 =>
      have H := HA.out
      clear HA
      simp only [table_Valid.j1] at H
      by_cases c14 : x32_9 = true
      ·subst c14
       have H1 : (some 6) = some r := by rw [if_pos rfl] at H; exact H
       clear H
       have H := H1
       clear H1
       obtain rfl := Option.some.inj H
       go_wp2
       go_ret
       exact ⟨by first | rfl | (simp [errW_none, errW_some] <;> rfl) | (simp [*, errW_none, errW_some] <;> rfl), by repeat (first | (with_reducible first | exact HB.out | apply yE | apply yF | apply yD | refine yJ ?_ GE152.out) | exact HB.out)⟩
      ·replace c14 := Bool.eq_false_iff.mpr c14
       subst c14
       have H1 : ((table_columns.f l0_0).bind fun t154 => (if t154 = (l0_0.length : Int) then ((table_capitals.f kj9 l0_0).bind fun t155 => (table_Valid.j2 kj9 (!t155) l0_0 l0_1)) else (table_Valid.j2 kj9 true l0_0 l0_1))) = some r := by rw [if_neg (show ¬ (false = true) by decide)] at H; exact H
       clear H
       have H := H1
       clear H1
       have HC15 := yA H
       clear H
       go_upto_region 9 with (fail)
       go_cut [46] (fun v46 wc => ∃ (kq : Nat) (x46_14 : Bool), v46 = .bool x46_14 ∧ Aside0 (table_Valid.j2 kq x46_14 l0_0 l0_1 = some r) ∧ Aside0 (kq ≤ kj9) ∧ Aside0 (wc.heap[gb152]? = some (.cells #[(.slice A0_0 l0_0.length c0_0), (.slice A0_1 l0_1.length c0_1)] 25 (0, 0))) ∧ Aside0 (Below w.heap.size w wc))
       case first =>
        have H := HC15.out
        clear HC15
        replace H := Option.bind_eq_some_iff.mp H
        obtain ⟨t154, A160, H⟩ := H
        replace H : (if t154 = (l0_0.length : Int) then ((table_capitals.f kj9 l0_0).bind fun t155 => (table_Valid.j2 kj9 (!t155) l0_0 l0_1)) else (table_Valid.j2 kj9 true l0_0 l0_1)) = some r := H
        have A16 := yA A160
        clear A160
        by_cases c17 : t154 = (l0_0.length : Int)
        ·rw [if_pos c17] at H
         have c17b0 : (t154 == (l0_0.length : Int)) = true := beq_iff_eq.mpr c17
         have c17b1 : (t154 != (l0_0.length : Int)) = false := bne_eq_false_iff_eq.mpr c17
         clear c17
         (first | rw [c17b0] | (simp only [i64_w, i32_w]; rw [c17b0]) | skip)
         replace H := Option.bind_eq_some_iff.mp H
         obtain ⟨t155, A180, H⟩ := H
         replace H : (table_Valid.j2 kj9 (!t155) l0_0 l0_1) = some r := H
         have A18 := yA A180
         clear A180
         have H' := yA H
         clear H
         try go_wp2
         have n0_ := yA (yH BK152.out)
         have n1_ := yA (yD HB.out)
         clear BK152; clear HB
         have BK152 := n0_
         have HB := n1_
         clear n0_ n1_
         refine start_ (n := 14) (S := fun w' => w'.cell? ⟨gb152, 0, none⟩ = some (.slice A0_0 l0_0.length c0_0) ∧ w'.cell? ⟨gb152, 1, none⟩ = some (.slice A0_1 l0_1.length c0_1)) (ds := []) #[false, false, false, false, false, false, false, false, false, false, false, false, false, false] (by kernel_rfl) rfl rfl ⟨(yR BK152.out 0).trans rfl, (yR BK152.out 1).trans rfl⟩ (fun hHeld => ?_); refine with_tabW table_Valid.tab9 table_Valid.bits9 (fun HT_ HW_ => ?_)
         generalize wc.drew = w19 at BK152 HB hHeld ⊢
         refine pure_ (i := 0) (N := some 33) (v := ?_) (a' := ?_) #[true, false, false, false, false, false, false, false, false, false, false, false, false, false] rfl rfl (any_of HT_.out (by kernel_rfl)) (fun _ _ _ h => h) (Or.inl ⟨by rfl, ?_⟩) ?_ ?_
         rotate_left
         ·intro w'
          go_simp
          with_reducible rfl
         rotate_left
         ·simp only [Act.put, lA, lB, lC, i64_w, i32_w]
          rfl
         refine pure_ (i := 4) (N := some 37) (v := ?_) (a' := ?_) #[true, false, false, false, true, false, false, false, false, false, false, false, false, false] rfl rfl (any_of HT_.out (by kernel_rfl)) (fun _ _ _ h => h) (Or.inl ⟨by rfl, ?_⟩) ?_ ?_
         rotate_left
         ·intro w'
          go_simp
          with_reducible rfl
         rotate_left
         ·simp only [Act.put, lA, lB, lC, i64_w, i32_w]
          rfl
         refine take_ (i := 1) (N := some 34) (v := ?_) (a' := ?_) #[true, true, false, false, true, false, false, false, false, false, false, false, false, false] rfl rfl (take_ofW HT_.out HW_.out (by kernel_rfl)) (fun _ _ _ h => h) (Or.inl ⟨by rfl, ?_⟩) hHeld ?_ ?_
         rotate_left
         ·rintro w' ⟨s0, s1⟩
          go_simp
          with_reducible rfl
         rotate_left
         ·simp only [Act.put, lA, lB, lC, i64_w, i32_w]
          rfl
         refine take_ (i := 5) (N := some 38) (v := ?_) (a' := ?_) #[true, true, false, false, true, true, false, false, false, false, false, false, false, false] rfl rfl (take_ofW HT_.out HW_.out (by kernel_rfl)) (fun _ _ _ h => h) (Or.inl ⟨by rfl, ?_⟩) hHeld ?_ ?_
         rotate_left
         ·rintro w' ⟨s0, s1⟩
          go_simp
          with_reducible rfl
         rotate_left
         ·simp only [Act.put, lA, lB, lC, i64_w, i32_w]
          rfl
         refine pure_ (i := 6) (N := some 39) (v := ?_) (a' := ?_) #[true, true, false, false, true, true, true, false, false, false, false, false, false, false] rfl rfl (any_of HT_.out (by kernel_rfl)) (fun _ _ _ h => h) (Or.inl ⟨by rfl, ?_⟩) ?_ ?_
         rotate_left
         ·intro w'
          go_simp
          with_reducible rfl
         rotate_left
         ·simp only [Act.put, lA, lB, lC, i64_w, i32_w]
          rfl
         refine one_ (i := 2) (N := some 35) #[true, true, true, false, true, true, true, false, false, false, false, false, false, false] rfl rfl (one_of HT_.out (by kernel_rfl)) (by decide) (fun K hK => ?_)
         refine goes_ Tryd.func46 (by kernel_rfl) rfl #[.slice A0_0 l0_0.length c0_0] (by rfl) rfl rfl (by (try simp only [List.map_toArray, List.map_cons, List.map_nil]); first | done | rfl | (simp only [List.length_drop, List.length_take]; rfl)) ?_
         with_reducible refine (table_columns.calls _ _ l0_0 t154 _ ?side1 ?side2 A16.out).mono ?_
         (case side1 => repeat (first | exact (Kd.C_below HR0_0.out HB.out) | (with_reducible refine Kd.C_alloc ?_ _) | (with_reducible refine Kd.C_drewN ?_ _) | (with_reducible refine Kd.C_drew ?_)))
         (case side2 => exact HC0_0.out)
         rintro e w20 ⟨bm_, rfl, hom_, hrm_, hb⟩
         refine ⟨_, rfl, ?_⟩
         have n0_ := yA (yC (by first | exact BK152.out | exact yI BK152.out _) hb)
         have n1_ := yA (yB (by repeat (first | (with_reducible first | exact HB.out | apply yE | apply yF | apply yD | refine yJ ?_ GE152.out) | exact HB.out)) hb)
         clear BK152; clear HB
         have BK152 := n0_
         have HB := n1_
         clear n0_ n1_
         (try clear hb)
         (try clear hb2)
         (try clear hk)
         (try clear hi)
         refine hK.out _ _ ⟨(yR BK152.out 0).trans rfl, (yR BK152.out 1).trans rfl⟩ (fun hHeld => ?_)
         clear hK K
         refine norm_ (a' := ?_) ?_ ?_
         rotate_left
         ·show Act.put _ (some 35) _ = _
          simp only [Act.put, lA, lB, lC, i64_w, i32_w]
          rfl
         refine one_ (i := 3) (N := some 36) #[true, true, true, true, true, true, true, false, false, false, false, false, false, false] rfl rfl (one_of HT_.out (by kernel_rfl)) (by decide) (fun K hK => ?_)
         refine event_step (v := .int .i64 t154) (by rfl) (len_run hom_ _ (.tmp 35) _ rfl rfl t154 hrm_) ?_
         clear hom_ hrm_
         refine hK.out _ _ ⟨(yR BK152.out 0).trans rfl, (yR BK152.out 1).trans rfl⟩ (fun hHeld => ?_)
         clear hK K
         refine norm_ (a' := ?_) ?_ ?_
         rotate_left
         ·show Act.put _ (some 36) _ = _
          simp only [Act.put, lA, lB, lC, i64_w, i32_w]
          rfl
         refine pure_ (i := 7) (N := some 40) (v := ?_) (a' := ?_) #[true, true, true, true, true, true, true, true, false, false, false, false, false, false] rfl rfl (any_of HT_.out (by kernel_rfl)) (fun _ _ _ h => h) (Or.inl ⟨by rfl, ?_⟩) ?_ ?_
         rotate_left
         ·intro w'
          go_simp
          with_reducible rfl
         rotate_left
         ·simp only [Act.put, lA, lB, lC, i64_w, i32_w]
          rfl
         refine pure_ (i := 8) (N := some 41) (v := ?_) (a' := ?_) #[true, true, true, true, true, true, true, true, true, false, false, false, false, false] rfl rfl (any_of HT_.out (by kernel_rfl)) (fun _ _ _ h => h) (Or.inl ⟨by rfl, ?_⟩) ?_ ?_
         rotate_left
         ·intro w'
          go_simp
          with_reducible rfl
         rotate_left
         ·simp only [Act.put, lA, lB, lC, i64_w, i32_w]
          rfl
         refine pure_ (i := 9) (N := some 42) (v := ?_) (a' := ?_) #[true, true, true, true, true, true, true, true, true, true, false, false, false, false] rfl rfl (any_of HT_.out (by kernel_rfl)) (fun _ _ _ h => h) (Or.inl ⟨by rfl, ?_⟩) ?_ ?_
         rotate_left
         ·intro w'
          go_simp
          with_reducible rfl
         rotate_left
         ·simp only [Act.put, lA, lB, lC, i64_w, i32_w]
          rfl
         refine take_ (i := 10) (N := some 43) (v := ?_) (a' := ?_) #[true, true, true, true, true, true, true, true, true, true, true, false, false, false] rfl rfl (take_ofW HT_.out HW_.out (by kernel_rfl)) (fun _ _ _ h => h) (Or.inl ⟨by rfl, ?_⟩) hHeld ?_ ?_
         rotate_left
         ·rintro w' ⟨s0, s1⟩
          go_simp
          with_reducible rfl
         rotate_left
         ·simp only [Act.put, lA, lB, lC, i64_w, i32_w]
          rfl
         refine one_ (i := 11) (N := some 44) #[true, true, true, true, true, true, true, true, true, true, true, true, false, false] rfl rfl (one_of HT_.out (by kernel_rfl)) (by decide) (fun K hK => ?_)
         refine goes_ Tryd.func47 (by kernel_rfl) rfl #[.slice A0_0 l0_0.length c0_0] (by rfl) rfl rfl (by (try simp only [List.map_toArray, List.map_cons, List.map_nil]); first | done | rfl | (simp only [List.length_drop, List.length_take]; rfl)) ?_
         with_reducible refine (table_capitals.calls kj9 _ _ l0_0 t155 _ ?side1 ?side2 A18.out).mono ?_
         (case side1 => repeat (first | exact (Kd.C_below HR0_0.out HB.out) | (with_reducible refine Kd.C_alloc ?_ _) | (with_reducible refine Kd.C_drewN ?_ _) | (with_reducible refine Kd.C_drew ?_)))
         (case side2 => exact HC0_0.out)
         rintro e w' ⟨rfl, ⟨nd, rfl⟩⟩
         refine ⟨_, rfl, ?_⟩
         refine hK.out _ _ ⟨(yR BK152.out 0).trans rfl, (yR BK152.out 1).trans rfl⟩ (fun hHeld => ?_)
         clear hK K
         refine norm_ (a' := ?_) ?_ ?_
         rotate_left
         ·show Act.put _ (some 44) _ = _
          simp only [Act.put, lA, lB, lC, i64_w, i32_w]
          rfl
         refine pure_ (i := 12) (N := some 45) (v := ?_) (a' := ?_) #[true, true, true, true, true, true, true, true, true, true, true, true, true, false] rfl rfl (any_of HT_.out (by kernel_rfl)) (fun _ _ _ h => h) (Or.inl ⟨by rfl, ?_⟩) ?_ ?_
         rotate_left
         ·intro w'
          go_simp
          with_reducible rfl
         rotate_left
         ·simp only [Act.put, lA, lB, lC, i64_w, i32_w]
          rfl
         refine pure_ (i := 13) (N := some 46) (v := ?_) (a' := ?_) #[true, true, true, true, true, true, true, true, true, true, true, true, true, true] rfl rfl (any_of HT_.out (by kernel_rfl)) (fun _ _ _ h => h) (Or.inl ⟨by rfl, ?_⟩) ?_ ?_
         rotate_left
         ·intro w'
          go_simp
          with_reducible rfl
         rotate_left
         ·simp only [Act.put, lA, lB, lC, i64_w, i32_w]
          rfl
         refine done_ (done_of HT_.out (by kernel_rfl)) ?_
         try go_wp2
         go_meet
         case rel => exact ⟨_, (!t155), (by first | rfl | (simp; done) | (simp [*]; done)), H', ⟨by have := HK1.out; have := HJ9.out; first | omega | exact Nat.le_refl _⟩, ⟨by (with_reducible repeat (first | refine yG ?_ _ | refine yH ?_ | refine yI ?_ _)); exact BK152.out⟩, ⟨by repeat (first | (with_reducible first | exact HB.out | apply yE | apply yF | apply yD | refine yJ ?_ GE152.out) | exact HB.out)⟩⟩
        ·rw [if_neg c17] at H
         have c17b0 : (t154 == (l0_0.length : Int)) = false := beq_eq_false_iff_ne.mpr c17
         have c17b1 : (t154 != (l0_0.length : Int)) = true := bne_iff_ne.mpr c17
         (first | rw [c17b0] | (simp only [i64_w, i32_w]; rw [c17b0]) | skip)
         have H' := yA H
         clear H
         try go_wp2
         have n0_ := yA (yH BK152.out)
         have n1_ := yA (yD HB.out)
         clear BK152; clear HB
         have BK152 := n0_
         have HB := n1_
         clear n0_ n1_
         refine start_ (n := 14) (S := fun w' => w'.cell? ⟨gb152, 0, none⟩ = some (.slice A0_0 l0_0.length c0_0) ∧ w'.cell? ⟨gb152, 1, none⟩ = some (.slice A0_1 l0_1.length c0_1)) (ds := []) #[false, false, false, false, false, false, false, false, false, false, false, false, false, false] (by kernel_rfl) rfl rfl ⟨(yR BK152.out 0).trans rfl, (yR BK152.out 1).trans rfl⟩ (fun hHeld => ?_); refine with_tabW table_Valid.tab9 table_Valid.bits9 (fun HT_ HW_ => ?_)
         generalize wc.drew = w21 at BK152 HB hHeld ⊢
         refine pure_ (i := 0) (N := some 33) (v := ?_) (a' := ?_) #[true, false, false, false, false, false, false, false, false, false, false, false, false, false] rfl rfl (any_of HT_.out (by kernel_rfl)) (fun _ _ _ h => h) (Or.inl ⟨by rfl, ?_⟩) ?_ ?_
         rotate_left
         ·intro w'
          go_simp
          with_reducible rfl
         rotate_left
         ·simp only [Act.put, lA, lB, lC, i64_w, i32_w]
          rfl
         refine pure_ (i := 4) (N := some 37) (v := ?_) (a' := ?_) #[true, false, false, false, true, false, false, false, false, false, false, false, false, false] rfl rfl (any_of HT_.out (by kernel_rfl)) (fun _ _ _ h => h) (Or.inl ⟨by rfl, ?_⟩) ?_ ?_
         rotate_left
         ·intro w'
          go_simp
          with_reducible rfl
         rotate_left
         ·simp only [Act.put, lA, lB, lC, i64_w, i32_w]
          rfl
         refine take_ (i := 1) (N := some 34) (v := ?_) (a' := ?_) #[true, true, false, false, true, false, false, false, false, false, false, false, false, false] rfl rfl (take_ofW HT_.out HW_.out (by kernel_rfl)) (fun _ _ _ h => h) (Or.inl ⟨by rfl, ?_⟩) hHeld ?_ ?_
         rotate_left
         ·rintro w' ⟨s0, s1⟩
          go_simp
          with_reducible rfl
         rotate_left
         ·simp only [Act.put, lA, lB, lC, i64_w, i32_w]
          rfl
         refine take_ (i := 5) (N := some 38) (v := ?_) (a' := ?_) #[true, true, false, false, true, true, false, false, false, false, false, false, false, false] rfl rfl (take_ofW HT_.out HW_.out (by kernel_rfl)) (fun _ _ _ h => h) (Or.inl ⟨by rfl, ?_⟩) hHeld ?_ ?_
         rotate_left
         ·rintro w' ⟨s0, s1⟩
          go_simp
          with_reducible rfl
         rotate_left
         ·simp only [Act.put, lA, lB, lC, i64_w, i32_w]
          rfl
         refine pure_ (i := 6) (N := some 39) (v := ?_) (a' := ?_) #[true, true, false, false, true, true, true, false, false, false, false, false, false, false] rfl rfl (any_of HT_.out (by kernel_rfl)) (fun _ _ _ h => h) (Or.inl ⟨by rfl, ?_⟩) ?_ ?_
         rotate_left
         ·intro w'
          go_simp
          with_reducible rfl
         rotate_left
         ·simp only [Act.put, lA, lB, lC, i64_w, i32_w]
          rfl
         refine one_ (i := 2) (N := some 35) #[true, true, true, false, true, true, true, false, false, false, false, false, false, false] rfl rfl (one_of HT_.out (by kernel_rfl)) (by decide) (fun K hK => ?_)
         refine goes_ Tryd.func46 (by kernel_rfl) rfl #[.slice A0_0 l0_0.length c0_0] (by rfl) rfl rfl (by (try simp only [List.map_toArray, List.map_cons, List.map_nil]); first | done | rfl | (simp only [List.length_drop, List.length_take]; rfl)) ?_
         with_reducible refine (table_columns.calls _ _ l0_0 t154 _ ?side1 ?side2 A16.out).mono ?_
         (case side1 => repeat (first | exact (Kd.C_below HR0_0.out HB.out) | (with_reducible refine Kd.C_alloc ?_ _) | (with_reducible refine Kd.C_drewN ?_ _) | (with_reducible refine Kd.C_drew ?_)))
         (case side2 => exact HC0_0.out)
         rintro e w22 ⟨bm_, rfl, hom_, hrm_, hb⟩
         refine ⟨_, rfl, ?_⟩
         have n0_ := yA (yC (by first | exact BK152.out | exact yI BK152.out _) hb)
         have n1_ := yA (yB (by repeat (first | (with_reducible first | exact HB.out | apply yE | apply yF | apply yD | refine yJ ?_ GE152.out) | exact HB.out)) hb)
         clear BK152; clear HB
         have BK152 := n0_
         have HB := n1_
         clear n0_ n1_
         (try clear hb)
         (try clear hb2)
         (try clear hk)
         (try clear hi)
         refine hK.out _ _ ⟨(yR BK152.out 0).trans rfl, (yR BK152.out 1).trans rfl⟩ (fun hHeld => ?_)
         clear hK K
         refine norm_ (a' := ?_) ?_ ?_
         rotate_left
         ·show Act.put _ (some 35) _ = _
          simp only [Act.put, lA, lB, lC, i64_w, i32_w]
          rfl
         refine one_ (i := 3) (N := some 36) #[true, true, true, true, true, true, true, false, false, false, false, false, false, false] rfl rfl (one_of HT_.out (by kernel_rfl)) (by decide) (fun K hK => ?_)
         refine event_step (v := .int .i64 t154) (by rfl) (len_run hom_ _ (.tmp 35) _ rfl rfl t154 hrm_) ?_
         clear hom_ hrm_
         refine hK.out _ _ ⟨(yR BK152.out 0).trans rfl, (yR BK152.out 1).trans rfl⟩ (fun hHeld => ?_)
         clear hK K
         refine norm_ (a' := ?_) ?_ ?_
         rotate_left
         ·show Act.put _ (some 36) _ = _
          simp only [Act.put, lA, lB, lC, i64_w, i32_w]
          rfl
         refine pure_ (i := 7) (N := some 40) (v := ?_) (a' := ?_) #[true, true, true, true, true, true, true, true, false, false, false, false, false, false] rfl rfl (any_of HT_.out (by kernel_rfl)) (fun _ _ _ h => h) (Or.inl ⟨by rfl, ?_⟩) ?_ ?_
         rotate_left
         ·intro w'
          go_simp
          with_reducible rfl
         rotate_left
         ·simp only [Act.put, lA, lB, lC, i64_w, i32_w]
          rfl
         refine pure_ (i := 8) (N := some 41) (v := ?_) (a' := ?_) #[true, true, true, true, true, true, true, true, true, false, false, false, false, false] rfl rfl (any_of HT_.out (by kernel_rfl)) (fun _ _ _ h => h) (Or.inl ⟨by rfl, ?_⟩) ?_ ?_
         rotate_left
         ·intro w'
          go_simp
          with_reducible rfl
         rotate_left
         ·simp only [Act.put, lA, lB, lC, i64_w, i32_w]
          rfl
         refine pure_ (i := 9) (N := some 42) (v := undef) (a' := ?_) #[true, true, true, true, true, true, true, true, true, true, false, false, false, false] rfl rfl (any_of HT_.out (by kernel_rfl)) (fun _ _ _ h => h) (Or.inr ⟨by rfl, rfl⟩) ?_ ?_
         rotate_left
         ·simp only [Act.put, lA, lB, lC, i64_w, i32_w]
          rfl
         refine pure_ (i := 10) (N := some 43) (v := undef) (a' := ?_) #[true, true, true, true, true, true, true, true, true, true, true, false, false, false] rfl rfl (any_of HT_.out (by kernel_rfl)) (fun _ _ _ h => h) (Or.inr ⟨by rfl, rfl⟩) ?_ ?_
         rotate_left
         ·simp only [Act.put, lA, lB, lC, i64_w, i32_w]
          rfl
         refine pure_ (i := 11) (N := some 44) (v := undef) (a' := ?_) #[true, true, true, true, true, true, true, true, true, true, true, true, false, false] rfl rfl (any_of HT_.out (by kernel_rfl)) (fun _ _ _ h => h) (Or.inr ⟨by rfl, rfl⟩) ?_ ?_
         rotate_left
         ·simp only [Act.put, lA, lB, lC, i64_w, i32_w]
          rfl
         refine pure_ (i := 12) (N := some 45) (v := undef) (a' := ?_) #[true, true, true, true, true, true, true, true, true, true, true, true, true, false] rfl rfl (any_of HT_.out (by kernel_rfl)) (fun _ _ _ h => h) (Or.inr ⟨by rfl, rfl⟩) ?_ ?_
         rotate_left
         ·simp only [Act.put, lA, lB, lC, i64_w, i32_w]
          rfl
         refine pure_ (i := 13) (N := some 46) (v := ?_) (a' := ?_) #[true, true, true, true, true, true, true, true, true, true, true, true, true, true] rfl rfl (any_of HT_.out (by kernel_rfl)) (fun _ _ _ h => h) (Or.inl ⟨by rfl, ?_⟩) ?_ ?_
         rotate_left
         ·intro w'
          go_simp
          with_reducible rfl
         rotate_left
         ·simp only [Act.put, lA, lB, lC, i64_w, i32_w]
          rfl
         refine done_ (done_of HT_.out (by kernel_rfl)) ?_
         try go_wp2
         go_meet
         case rel => exact ⟨_, (true), (by first | rfl | (simp; done) | (simp [*]; done)), H', ⟨by have := HK1.out; have := HJ9.out; first | omega | exact Nat.le_refl _⟩, ⟨by (with_reducible repeat (first | refine yG ?_ _ | refine yH ?_ | refine yI ?_ _)); exact BK152.out⟩, ⟨by repeat (first | (with_reducible first | exact HB.out | apply yE | apply yF | apply yD | refine yJ ?_ GE152.out) | exact HB.out)⟩⟩
       case rest =>
        clear HC15; try clear c1; try clear p1; try clear q1; try clear hx1; try clear c2; try clear p2; try clear c4; try clear c4b0; try clear c5; try clear c5b0; try clear c6; try clear c6b0; try clear p6; try clear c7; try clear c7b0; try clear c7b1; try clear c7b2; try clear c11; try clear c11b0; try clear c11b1; try clear c14; try clear c15; try clear p15; try clear q15; try clear hx15; try clear c17; try clear c17b0; try clear c17b1; try clear c20; try clear hcz12_0; try clear hcz12_1; try clear hcz13_0; try clear hcz13_1; try clear hcz3_0; try clear hcz3_1; try clear hcz8_0; try clear hcz8_1; try clear hcz9_0; try clear hcz9_1; try clear hfz12_0; try clear hfz12_1; try clear hfz13_0; try clear hfz13_1; try clear hfz3_0; try clear hfz3_1; try clear hfz8_0; try clear hfz8_1; try clear hfz9_0; try clear hfz9_1; try clear hx153_0; try clear p1; try clear p153; try clear p2; try clear p6; try clear q1; try clear q153
        obtain ⟨kq, x46_14, rfl, HA, HJ14, BK152, HB⟩ := hcut
        cases kq with
        | zero => exact absurd HA.out (by simp [table_Valid.j2])
        | succ kj14 =>
         have H := HA.out
         clear HA
         simp only [table_Valid.j2] at H
         by_cases c23 : x46_14 = true
         ·subst c23
          have H1 : (some 52) = some r := by rw [if_pos rfl] at H; exact H
          clear H
          have H := H1
          clear H1
          obtain rfl := Option.some.inj H
          go_wp2
          go_ret
          exact ⟨by first | rfl | (simp [errW_none, errW_some] <;> rfl) | (simp [*, errW_none, errW_some] <;> rfl), by repeat (first | (with_reducible first | exact HB.out | apply yE | apply yF | apply yD | refine yJ ?_ GE152.out) | exact HB.out)⟩
         ·replace c23 := Bool.eq_false_iff.mpr c23
          subst c23
          have H1 : (table_Valid.l1 kj14 l0_1 (l0_1.length : Int) 0) = some r := by rw [if_neg (show ¬ (false = true) by decide)] at H; exact H
          clear H
          have H := H1
          clear H1
          have H' := yA H
          clear H
          have hcz24_0 : wc.cell? ⟨gb152, 0, none⟩ = some (.slice A0_0 l0_0.length c0_0) := (yR BK152.out 0).trans rfl
          have hcz24_1 : wc.cell? ⟨gb152, 1, none⟩ = some (.slice A0_1 l0_1.length c0_1) := (yR BK152.out 1).trans rfl
          have hfz24_0 := yS BK152.out 0
          have hfz24_1 := yS BK152.out 1
          go_wp2
          go_loopg [50] kj14 (fun kq v50 w' => ∃ (x50_4 : Int), v50 = .int .i64 x50_4 ∧ Aside0 (table_Valid.l1 kq l0_1 (l0_1.length : Int) x50_4 = some r) ∧ Aside0 (kq ≤ kj14) ∧ Aside0 (w'.heap[gb152]? = some (.cells #[(.slice A0_0 l0_0.length c0_0), (.slice A0_1 l0_1.length c0_1)] 25 (0, 0))) ∧ Aside0 (Below w.heap.size w w'))
          case atStart => exact ⟨(0), (by first | rfl | (simp; done) | (simp [*]; done)), H', ⟨Nat.le_refl _⟩, ⟨by (with_reducible repeat (first | refine yG ?_ _ | refine yH ?_ | refine yI ?_ _)); exact BK152.out⟩, ⟨by repeat (first | (with_reducible first | exact HB.out | apply yE | apply yF | apply yD | refine yJ ?_ GE152.out) | exact HB.out)⟩⟩
          case round =>
           clear H'
           try clear c1; try clear p1; try clear q1; try clear hx1; try clear c2; try clear p2; try clear c4; try clear c4b0; try clear c5; try clear c5b0; try clear c6; try clear c6b0; try clear p6; try clear c7; try clear c7b0; try clear c7b1; try clear c7b2; try clear c11; try clear c11b0; try clear c11b1; try clear c14; try clear c15; try clear p15; try clear q15; try clear hx15; try clear c17; try clear c17b0; try clear c17b1; try clear c20; try clear c23; try clear hcz12_0; try clear hcz12_1; try clear hcz13_0; try clear hcz13_1; try clear hcz24_0; try clear hcz24_1; try clear hcz3_0; try clear hcz3_1; try clear hcz8_0; try clear hcz8_1; try clear hcz9_0; try clear hcz9_1; try clear hfz12_0; try clear hfz12_1; try clear hfz13_0; try clear hfz13_1; try clear hfz24_0; try clear hfz24_1; try clear hfz3_0; try clear hfz3_1; try clear hfz8_0; try clear hfz8_1; try clear hfz9_0; try clear hfz9_1; try clear hx153_0; try clear p1; try clear p15; try clear p153; try clear p2; try clear p6; try clear q1; try clear q15; try clear q153
           obtain ⟨x50_4, rfl, HA, HK4, BK152, HB⟩ := hrel
           cases gk with
           | zero => exact absurd HA.out (by simp [table_Valid.l1])
           | succ k4 =>
            have H := HA.out
            clear HA
            simp only [table_Valid.l1] at H
            by_cases c25 : x50_4 < (l0_1.length : Int)
            ·rw [if_pos c25] at H
             have c25b0 : decide (x50_4 < (l0_1.length : Int)) = true := yL c25
             clear c25
             by_cases c26 : 0 ≤ x50_4
             ·rw [if_pos c26] at H
              have c26b0 : decide (0 ≤ x50_4) = true := yL c26
              clear c26
              by_cases c27 : x50_4 < (l0_1.length : Int)
              ·rw [if_pos c27] at H
               have c27b0 : decide (x50_4 < (l0_1.length : Int)) = true := yL c27
               clear c27
               have H' := yA H
               clear H
               have p156 : 0 ≤ (x50_4 : Int) := yN (by first | (with_reducible assumption) | assumption)
               have q156 : x50_4 < (l0_1.length : Int) := yN (by first | (with_reducible assumption) | assumption)
               obtain ⟨ad156, A156_0, c156_0, e156, hx156_0, hl156_0, hi156_0⟩ := at_L4 HR0_1.out x50_4 p156 q156
               cases e156
               replace hx156_0 := (HB.out.cell (World.block_lt_of_cell? w _ hx156_0)).trans hx156_0
               have HR156_0 := yA hi156_0
               have HC156_0 := yA hl156_0
               clear hi156_0 hl156_0
               replace p156 := eq_true p156
               replace q156 := eq_true q156
               go_wp2
               go_loopg [56] k4 (fun kq v56 w' => ∃ (x56_5 : Int), v56 = .int .i64 x56_5 ∧ Aside0 (table_Valid.l2 kq l0_1 (l0_1.length : Int) x50_4 (rd_L4 l0_1 x50_4) ((rd_L4 l0_1 x50_4).length : Int) x56_5 = some r) ∧ Aside0 (kq ≤ k4) ∧ Aside0 (w'.heap[gb152]? = some (.cells #[(.slice A0_0 l0_0.length c0_0), (.slice (some ad156) l0_1.length c0_1)] 25 (0, 0))) ∧ Aside0 (Below w.heap.size w w'))
               case atStart => exact ⟨(0), (by first | rfl | (simp; done) | (simp [*]; done)), H', ⟨Nat.le_refl _⟩, ⟨by (with_reducible repeat (first | refine yG ?_ _ | refine yH ?_ | refine yI ?_ _)); exact BK152.out⟩, ⟨by repeat (first | (with_reducible first | exact HB.out | apply yE | apply yF | apply yD | refine yJ ?_ GE152.out) | exact HB.out)⟩⟩
               case round =>
                clear H'
                try clear c1; try clear p1; try clear q1; try clear hx1; try clear c2; try clear p2; try clear c4; try clear c4b0; try clear c5; try clear c5b0; try clear c6; try clear c6b0; try clear p6; try clear c7; try clear c7b0; try clear c7b1; try clear c7b2; try clear c11; try clear c11b0; try clear c11b1; try clear c14; try clear c15; try clear p15; try clear q15; try clear hx15; try clear c17; try clear c17b0; try clear c17b1; try clear c20; try clear c23; try clear c25; try clear c25b0; try clear c26; try clear c26b0; try clear c27; try clear c27b0; try clear hcz12_0; try clear hcz12_1; try clear hcz13_0; try clear hcz13_1; try clear hcz24_0; try clear hcz24_1; try clear hcz3_0; try clear hcz3_1; try clear hcz8_0; try clear hcz8_1; try clear hcz9_0; try clear hcz9_1; try clear hfz12_0; try clear hfz12_1; try clear hfz13_0; try clear hfz13_1; try clear hfz24_0; try clear hfz24_1; try clear hfz3_0; try clear hfz3_1; try clear hfz8_0; try clear hfz8_1; try clear hfz9_0; try clear hfz9_1; try clear hx153_0; try clear hx156_0; try clear p1; try clear p15; try clear p153; try clear p156; try clear p2; try clear p6; try clear q1; try clear q15; try clear q153; try clear q156
                obtain ⟨x56_5, rfl, HA, HK5, BK152, HB⟩ := hrel
                cases gk with
                | zero => exact absurd HA.out (by simp [table_Valid.l2])
                | succ k5 =>
                 have H := HA.out
                 clear HA
                 simp only [table_Valid.l2] at H
                 by_cases c28 : x56_5 < ((rd_L4 l0_1 x50_4).length : Int)
                 ·rw [if_pos c28] at H
                  have c28b0 : decide (x56_5 < ((rd_L4 l0_1 x50_4).length : Int)) = true := yL c28
                  clear c28
                  by_cases c29 : 0 ≤ x56_5
                  ·rw [if_pos c29] at H
                   have c29b0 : decide (0 ≤ x56_5) = true := yL c29
                   clear c29
                   by_cases c30 : x56_5 < ((rd_L4 l0_1 x50_4).length : Int)
                   ·rw [if_pos c30] at H
                    have c30b0 : decide (x56_5 < ((rd_L4 l0_1 x50_4).length : Int)) = true := yL c30
                    clear c30
                    obtain ⟨bq31, hbq31⟩ : ∃ b_ : Bool, b_ = ((rd_T52 (rd_L4 l0_1 x50_4) x56_5).f0) := ⟨_, rfl⟩
                    replace H : (if (bq31 = true) then (table_Valid.l2 k5 l0_1 (l0_1.length : Int) x50_4 (rd_L4 l0_1 x50_4) ((rd_L4 l0_1 x50_4).length : Int) (wrap64 (x56_5 + 1))) else (if ((rd_T52 (rd_L4 l0_1 x50_4) x56_5).f1) = 0 then (table_Valid.l2 k5 l0_1 (l0_1.length : Int) x50_4 (rd_L4 l0_1 x50_4) ((rd_L4 l0_1 x50_4).length : Int) (wrap64 (x56_5 + 1))) else (some 51))) = some r := by rw [← hbq31] at H; exact H
                    have Nbq31 := yA hbq31
                    clear hbq31
                    by_cases c32 : (bq31 = true)
                    ·subst c32
                     have H1 : (table_Valid.l2 k5 l0_1 (l0_1.length : Int) x50_4 (rd_L4 l0_1 x50_4) ((rd_L4 l0_1 x50_4).length : Int) (wrap64 (x56_5 + 1))) = some r := by rw [if_pos rfl] at H; exact H
                     clear H
                     have H := H1
                     clear H1
                     have H' := yA H
                     clear H
                     have p157 : 0 ≤ (x56_5 : Int) := yN (by first | (with_reducible assumption) | assumption)
                     have q157 : x56_5 < ((rd_L4 l0_1 x50_4).length : Int) := yN (by first | (with_reducible assumption) | assumption)
                     obtain ⟨ad157, e157, hx157_0, hx157_1⟩ := at_T52 HR156_0.out x56_5 p157 q157
                     (try rw [← Nbq31.out] at hx157_0)
                     cases e157
                     replace hx157_0 := (HB.out.cell (World.block_lt_of_cell? w _ hx157_0)).trans hx157_0
                     replace hx157_1 := (HB.out.cell (World.block_lt_of_cell? w _ hx157_1)).trans hx157_1
                     replace p157 := eq_true p157
                     replace q157 := eq_true q157
                     go_wp2_with (first | ((with_reducible refine yP (N := 8) rfl ?_); (try (refine gate_guard (by rfl) ?_; dsimp only)); refine yQ ?hg (N := 8) ?hd (cs := #[.bool false, .int .i64 0]) (t := 52) ?hr ?_; (case hd => rfl); (case hg => rfl); (case hr => first | (go_simp; done) | (go_simp; rfl)); intro gb158 hg w33 hbox hb; have n0_ := yA (yC (by first | exact BK152.out | exact yI BK152.out _) hb); have n1_ := yA (yB (by repeat (first | (with_reducible first | exact HB.out | apply yE | apply yF | apply yD | refine yJ ?_ GE152.out) | exact HB.out)) hb); have n2_ := yA (hbox); have n3_ := yA ((by rw [hg]; exact (below_size (by repeat (first | (with_reducible first | exact HB.out | apply yE | apply yF | apply yD | refine yJ ?_ GE152.out) | exact HB.out))) : w.heap.size ≤ gb158)); have n4_ := yA ((by rw [hg]; exact (below_size (by repeat (first | (with_reducible first | exact HB.out | apply yE | apply yF | apply yD | refine yJ ?_ GE152.out) | exact HB.out))) : w.heap.size ≤ gb158)); have n5_ := yA ((by rw [hg]; exact Nat.ne_of_lt (blk_lt (by first | exact BK152.out | exact yI BK152.out _)) : gb152 ≠ gb158)); have n6_ := yA ((by rw [hg]; exact Nat.ne_of_gt (blk_lt (by first | exact BK152.out | exact yI BK152.out _)) : gb158 ≠ gb152)); clear BK152; clear HB; have BK152 := n0_; have HB := n1_; have BK158 := n2_; have GW158 := n3_; have GE158 := n4_; have NB152_158 := n5_; have NB158_152 := n6_; clear n0_ n1_ n2_ n3_ n4_ n5_ n6_; clear hb hbox hg; have hnb34 := NB158_152.out; have hnc34 := NB152_158.out; have hcz35_0 : w33.cell? ⟨gb158, 0, none⟩ = some (.bool false) := (yR BK158.out 0).trans rfl; have hcz35_1 : w33.cell? ⟨gb158, 1, none⟩ = some (.int .i64 0) := (yR BK158.out 1).trans rfl; have hfz35_0 := yS BK158.out 0; have hfz35_1 := yS BK158.out 1))
                     go_roundg k5
                     case measure => have := HK1.out; have := HJ9.out; have := HJ14.out; have := HK4.out; have := HK5.out; omega
                     case rel => exact ⟨(wrap64 (x56_5 + 1)), (by first | rfl | (simp; done) | (simp [*]; done)), H', ⟨by have := HK1.out; have := HJ9.out; have := HJ14.out; have := HK4.out; have := HK5.out; omega⟩, ⟨by (with_reducible repeat (first | refine yG ?_ _ | refine yH ?_ | refine yI ?_ _)); refine blk_far ?_ NB152_158.out _; (with_reducible repeat (first | refine yG ?_ _ | refine yH ?_ | refine yI ?_ _)); refine blk_far ?_ NB152_158.out _; (with_reducible repeat (first | refine yG ?_ _ | refine yH ?_ | refine yI ?_ _)); exact BK152.out⟩, ⟨by repeat (first | (with_reducible first | exact HB.out | apply yE | apply yF | apply yD | refine yJ ?_ GE152.out | refine yJ ?_ GE158.out) | exact HB.out)⟩⟩
                    ·replace c32 := Bool.eq_false_iff.mpr c32
                     subst c32
                     have H1 : (if ((rd_T52 (rd_L4 l0_1 x50_4) x56_5).f1) = 0 then (table_Valid.l2 k5 l0_1 (l0_1.length : Int) x50_4 (rd_L4 l0_1 x50_4) ((rd_L4 l0_1 x50_4).length : Int) (wrap64 (x56_5 + 1))) else (some 51)) = some r := by rw [if_neg (show ¬ (false = true) by decide)] at H; exact H
                     clear H
                     have H := H1
                     clear H1
                     by_cases c36 : ((rd_T52 (rd_L4 l0_1 x50_4) x56_5).f1) = 0
                     ·rw [if_pos c36] at H
                      have c36b0 : (((rd_T52 (rd_L4 l0_1 x50_4) x56_5).f1) == 0) = true := beq_iff_eq.mpr c36
                      have c36b1 : (((rd_T52 (rd_L4 l0_1 x50_4) x56_5).f1) != 0) = false := bne_eq_false_iff_eq.mpr c36
                      clear c36
                      have H' := yA H
                      clear H
                      have p157 : 0 ≤ (x56_5 : Int) := yN (by first | (with_reducible assumption) | assumption)
                      have q157 : x56_5 < ((rd_L4 l0_1 x50_4).length : Int) := yN (by first | (with_reducible assumption) | assumption)
                      obtain ⟨ad157, e157, hx157_0, hx157_1⟩ := at_T52 HR156_0.out x56_5 p157 q157
                      (try rw [← Nbq31.out] at hx157_0)
                      cases e157
                      replace hx157_0 := (HB.out.cell (World.block_lt_of_cell? w _ hx157_0)).trans hx157_0
                      replace hx157_1 := (HB.out.cell (World.block_lt_of_cell? w _ hx157_1)).trans hx157_1
                      replace p157 := eq_true p157
                      replace q157 := eq_true q157
                      go_wp2_with (first | ((with_reducible refine yP (N := 8) rfl ?_); (try (refine gate_guard (by rfl) ?_; dsimp only)); refine yQ ?hg (N := 8) ?hd (cs := #[.bool false, .int .i64 0]) (t := 52) ?hr ?_; (case hd => rfl); (case hg => rfl); (case hr => first | (go_simp; done) | (go_simp; rfl)); intro gb158 hg w37 hbox hb; have n0_ := yA (yC (by first | exact BK152.out | exact yI BK152.out _) hb); have n1_ := yA (yB (by repeat (first | (with_reducible first | exact HB.out | apply yE | apply yF | apply yD | refine yJ ?_ GE152.out) | exact HB.out)) hb); have n2_ := yA (hbox); have n3_ := yA ((by rw [hg]; exact (below_size (by repeat (first | (with_reducible first | exact HB.out | apply yE | apply yF | apply yD | refine yJ ?_ GE152.out) | exact HB.out))) : w.heap.size ≤ gb158)); have n4_ := yA ((by rw [hg]; exact (below_size (by repeat (first | (with_reducible first | exact HB.out | apply yE | apply yF | apply yD | refine yJ ?_ GE152.out) | exact HB.out))) : w.heap.size ≤ gb158)); have n5_ := yA ((by rw [hg]; exact Nat.ne_of_lt (blk_lt (by first | exact BK152.out | exact yI BK152.out _)) : gb152 ≠ gb158)); have n6_ := yA ((by rw [hg]; exact Nat.ne_of_gt (blk_lt (by first | exact BK152.out | exact yI BK152.out _)) : gb158 ≠ gb152)); clear BK152; clear HB; have BK152 := n0_; have HB := n1_; have BK158 := n2_; have GW158 := n3_; have GE158 := n4_; have NB152_158 := n5_; have NB158_152 := n6_; clear n0_ n1_ n2_ n3_ n4_ n5_ n6_; clear hb hbox hg; have hnb38 := NB158_152.out; have hnc38 := NB152_158.out; have hcz39_0 : w37.cell? ⟨gb158, 0, none⟩ = some (.bool false) := (yR BK158.out 0).trans rfl; have hcz39_1 : w37.cell? ⟨gb158, 1, none⟩ = some (.int .i64 0) := (yR BK158.out 1).trans rfl; have hfz39_0 := yS BK158.out 0; have hfz39_1 := yS BK158.out 1))
                      go_roundg k5
                      case measure => have := HK1.out; have := HJ9.out; have := HJ14.out; have := HK4.out; have := HK5.out; omega
                      case rel => exact ⟨(wrap64 (x56_5 + 1)), (by first | rfl | (simp; done) | (simp [*]; done)), H', ⟨by have := HK1.out; have := HJ9.out; have := HJ14.out; have := HK4.out; have := HK5.out; omega⟩, ⟨by (with_reducible repeat (first | refine yG ?_ _ | refine yH ?_ | refine yI ?_ _)); refine blk_far ?_ NB152_158.out _; (with_reducible repeat (first | refine yG ?_ _ | refine yH ?_ | refine yI ?_ _)); refine blk_far ?_ NB152_158.out _; (with_reducible repeat (first | refine yG ?_ _ | refine yH ?_ | refine yI ?_ _)); exact BK152.out⟩, ⟨by repeat (first | (with_reducible first | exact HB.out | apply yE | apply yF | apply yD | refine yJ ?_ GE152.out | refine yJ ?_ GE158.out) | exact HB.out)⟩⟩
                     ·rw [if_neg c36] at H
                      have c36b0 : (((rd_T52 (rd_L4 l0_1 x50_4) x56_5).f1) == 0) = false := beq_eq_false_iff_ne.mpr c36
                      have c36b1 : (((rd_T52 (rd_L4 l0_1 x50_4) x56_5).f1) != 0) = true := bne_iff_ne.mpr c36
                      obtain rfl := Option.some.inj H
                      have p157 : 0 ≤ (x56_5 : Int) := yN (by first | (with_reducible assumption) | assumption)
                      have q157 : x56_5 < ((rd_L4 l0_1 x50_4).length : Int) := yN (by first | (with_reducible assumption) | assumption)
                      obtain ⟨ad157, e157, hx157_0, hx157_1⟩ := at_T52 HR156_0.out x56_5 p157 q157
                      (try rw [← Nbq31.out] at hx157_0)
                      cases e157
                      replace hx157_0 := (HB.out.cell (World.block_lt_of_cell? w _ hx157_0)).trans hx157_0
                      replace hx157_1 := (HB.out.cell (World.block_lt_of_cell? w _ hx157_1)).trans hx157_1
                      replace p157 := eq_true p157
                      replace q157 := eq_true q157
                      go_wp2_with (first | ((with_reducible refine yP (N := 8) rfl ?_); (try (refine gate_guard (by rfl) ?_; dsimp only)); refine yQ ?hg (N := 8) ?hd (cs := #[.bool false, .int .i64 0]) (t := 52) ?hr ?_; (case hd => rfl); (case hg => rfl); (case hr => first | (go_simp; done) | (go_simp; rfl)); intro gb158 hg w40 hbox hb; have n0_ := yA (yC (by first | exact BK152.out | exact yI BK152.out _) hb); have n1_ := yA (yB (by repeat (first | (with_reducible first | exact HB.out | apply yE | apply yF | apply yD | refine yJ ?_ GE152.out) | exact HB.out)) hb); have n2_ := yA (hbox); have n3_ := yA ((by rw [hg]; exact (below_size (by repeat (first | (with_reducible first | exact HB.out | apply yE | apply yF | apply yD | refine yJ ?_ GE152.out) | exact HB.out))) : w.heap.size ≤ gb158)); have n4_ := yA ((by rw [hg]; exact (below_size (by repeat (first | (with_reducible first | exact HB.out | apply yE | apply yF | apply yD | refine yJ ?_ GE152.out) | exact HB.out))) : w.heap.size ≤ gb158)); have n5_ := yA ((by rw [hg]; exact Nat.ne_of_lt (blk_lt (by first | exact BK152.out | exact yI BK152.out _)) : gb152 ≠ gb158)); have n6_ := yA ((by rw [hg]; exact Nat.ne_of_gt (blk_lt (by first | exact BK152.out | exact yI BK152.out _)) : gb158 ≠ gb152)); clear BK152; clear HB; have BK152 := n0_; have HB := n1_; have BK158 := n2_; have GW158 := n3_; have GE158 := n4_; have NB152_158 := n5_; have NB158_152 := n6_; clear n0_ n1_ n2_ n3_ n4_ n5_ n6_; clear hb hbox hg; have hnb41 := NB158_152.out; have hnc41 := NB152_158.out; have hcz42_0 : w40.cell? ⟨gb158, 0, none⟩ = some (.bool false) := (yR BK158.out 0).trans rfl; have hcz42_1 : w40.cell? ⟨gb158, 1, none⟩ = some (.int .i64 0) := (yR BK158.out 1).trans rfl; have hfz42_0 := yS BK158.out 0; have hfz42_1 := yS BK158.out 1))
                      go_ret
                      exact ⟨by first | rfl | (simp [errW_none, errW_some] <;> rfl) | (simp [*, errW_none, errW_some] <;> rfl), by repeat (first | (with_reducible first | exact HB.out | apply yE | apply yF | apply yD | refine yJ ?_ GE152.out | refine yJ ?_ GE158.out) | exact HB.out)⟩
                   ·rw [if_neg c30] at H
                    exact absurd H (by simp)
                  ·rw [if_neg c29] at H
                   exact absurd H (by simp)
                 ·rw [if_neg c28] at H
                  have c28b0 : decide (x56_5 < ((rd_L4 l0_1 x50_4).length : Int)) = false := yM c28
                  clear c28
                  have H' := yA H
                  clear H
                  go_wp2
                  go_roundg k5
                  case measure => have := HK1.out; have := HJ9.out; have := HJ14.out; have := HK4.out; have := HK5.out; omega
                  case rel => exact ⟨(wrap64 (x50_4 + 1)), (by first | rfl | (simp; done) | (simp [*]; done)), H', ⟨by have := HK1.out; have := HJ9.out; have := HJ14.out; have := HK4.out; have := HK5.out; omega⟩, ⟨by (with_reducible repeat (first | refine yG ?_ _ | refine yH ?_ | refine yI ?_ _)); exact BK152.out⟩, ⟨by repeat (first | (with_reducible first | exact HB.out | apply yE | apply yF | apply yD | refine yJ ?_ GE152.out) | exact HB.out)⟩⟩
              ·rw [if_neg c27] at H
               exact absurd H (by simp)
             ·rw [if_neg c26] at H
              exact absurd H (by simp)
            ·rw [if_neg c25] at H
             have c25b0 : decide (x50_4 < (l0_1.length : Int)) = false := yM c25
             clear c25
             obtain rfl := Option.some.inj H
             go_wp2
             go_ret
             exact ⟨by first | rfl | (simp [errW_none, errW_some] <;> rfl) | (simp [*, errW_none, errW_some] <;> rfl), by repeat (first | (with_reducible first | exact HB.out | apply yE | apply yF | apply yD | refine yJ ?_ GE152.out) | exact HB.out)⟩
end Go.Proofs.YtppojbafagneeaaDoor.PTab
