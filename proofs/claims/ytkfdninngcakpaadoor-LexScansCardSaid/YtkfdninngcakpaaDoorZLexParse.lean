/- Own text, for this claim: the walk of cal.Parse over a text that stands as a date. -/
import Derived.Test.YtkfdninngcakpaaDoorZQLexxc
import Derived.Outline
namespace Go.Proofs.YtkfdninngcakpaaDoor.Pure
open Go.RowKit Go.Proofs.YtkfdninngcakpaaDoor.PLex Go.Proofs.YtkfdninngcakpaaDoorW.PrintWords Go.Proofs.YtkfdninngcakpaaDoorW.PrintLast Go.Proofs.YtkfdninngcakpaaDoorW.PrintMore
set_option linter.unusedVariables false
set_option linter.unusedSimpArgs false
def dg (s : ByteArray) (k : Int) : Int := bt s k - 48
def DateForm (s : ByteArray) : Prop := s.size = 10 ∧ bt s 4 = 45 ∧ bt s 7 = 45 ∧ (48 ≤ bt s 0 ∧ bt s 0 ≤ 57) ∧ (48 ≤ bt s 1 ∧ bt s 1 ≤ 57) ∧ (48 ≤ bt s 2 ∧ bt s 2 ≤ 57) ∧ (48 ≤ bt s 3 ∧ bt s 3 ≤ 57) ∧ (48 ≤ bt s 5 ∧ bt s 5 ≤ 57) ∧ (48 ≤ bt s 6 ∧ bt s 6 ≤ 57) ∧ (48 ≤ bt s 8 ∧ bt s 8 ≤ 57) ∧ (48 ≤ bt s 9 ∧ bt s 9 ≤ 57)
instance (s : ByteArray) : Decidable (DateForm s) := by unfold DateForm; exact inferInstance
def stp (s : ByteArray) : Nat → Int × Int × Int
 | 0 => (0, 0, 0)
 | 1 => (10 * 0 + (bt s 0 - 48), 0, 0)
 | 2 => (10 * (10 * 0 + (bt s 0 - 48)) + (bt s 1 - 48), 0, 0)
 | 3 => (10 * (10 * (10 * 0 + (bt s 0 - 48)) + (bt s 1 - 48)) + (bt s 2 - 48), 0, 0)
 | 4 | 5 => (10 * (10 * (10 * (10 * 0 + (bt s 0 - 48)) + (bt s 1 - 48)) + (bt s 2 - 48)) + (bt s 3 - 48), 0, 0)
 | 6 => (10 * (10 * (10 * (10 * 0 + (bt s 0 - 48)) + (bt s 1 - 48)) + (bt s 2 - 48)) + (bt s 3 - 48), 10 * 0 + (bt s 5 - 48), 0)
 | 7 | 8 => (10 * (10 * (10 * (10 * 0 + (bt s 0 - 48)) + (bt s 1 - 48)) + (bt s 2 - 48)) + (bt s 3 - 48), 10 * (10 * 0 + (bt s 5 - 48)) + (bt s 6 - 48), 0)
 | 9 => (10 * (10 * (10 * (10 * 0 + (bt s 0 - 48)) + (bt s 1 - 48)) + (bt s 2 - 48)) + (bt s 3 - 48), 10 * (10 * 0 + (bt s 5 - 48)) + (bt s 6 - 48), 10 * 0 + (bt s 8 - 48))
 | _ => (10 * (10 * (10 * (10 * 0 + (bt s 0 - 48)) + (bt s 1 - 48)) + (bt s 2 - 48)) + (bt s 3 - 48), 10 * (10 * 0 + (bt s 5 - 48)) + (bt s 6 - 48), 10 * (10 * 0 + (bt s 8 - 48)) + (bt s 9 - 48))
def zoneOf : Nat → Int
 | 0 | 1 | 2 | 3 | 4 => 0
 | 5 | 6 | 7 => 1
 | _ => 2
def dateY (s : ByteArray) : Int := 1000 * (bt s 0 - 48) + 100 * (bt s 1 - 48) + 10 * (bt s 2 - 48) + (bt s 3 - 48)
def dateM (s : ByteArray) : Int := 10 * (bt s 5 - 48) + (bt s 6 - 48)
def dateD (s : ByteArray) : Int := 10 * (bt s 8 - 48) + (bt s 9 - 48)
theorem stp10 (s : ByteArray) : stp s 10 = (dateY s, dateM s, dateD s) := by
 simp only [stp, dateY, dateM, dateD, Prod.mk.injEq]
 refine ⟨by omega, by omega, by omega⟩
def exB (y m d : Int) : Bool := decide (1900 ≤ y) && decide (y ≤ 2199) && decide (1 ≤ m) && decide (m ≤ 12) && decide (1 ≤ d) && decide (d ≤ lenOf y m)
theorem exists_is (y m d : Int) : cal_exists.f y m d = some (exB y m d) := by
 unfold cal_exists.f exB cal_length.f
 by_cases h1 : y ≥ 1900
 ·by_cases h2 : y ≤ 2199
  ·by_cases h3 : m ≥ 1
   ·by_cases h4 : m ≤ 12
    ·by_cases h5 : d ≥ 1
     ·simp [h1, h2, h3, h4, h5]
     ·simp [h1, h2, h3, h4, h5]
    ·simp [h1, h2, h3, h4]
   ·simp [h1, h2, h3]
  ·simp [h1, h2]
 ·simp [h1]
theorem bytes_event {ops : Array Oper} {rest : List Oper} {o : Oper} {a : Act} {Q : Exit → Act → World → Prop} (w : World) (hg : o.guard = none) (x : Operand) (hop : o.op = .convert 9 37 x) (s : ByteArray) (hx : a.eval x = .string s) (hs : s.size = 10)
  (h : ∀ g cap w1, g = w.heap.size → (∀ W : World, W.heap[g]? = w1.heap[g]? → ∀ k : Nat, k < 10 → W.cell? ⟨g, k, none⟩ = some (.int .u8 (bt s k))) → g < w1.heap.size → Below w.heap.size w w1 → wpList Tryd.prog ops Q rest (a.put o.dst (.slice (some ⟨g, 0, none⟩) s.size cap)) w1) :
  wpList Tryd.prog ops Q (o :: rest) a w := by
 refine wpList_plain hg fun K' hK' => ?_
 have hrun : (execOp a.eval o).run Tryd.prog w = .ok (.value (.slice (some ⟨w.heap.size, 0, none⟩) s.size (grownCap w s.size 0 5))) (Lib.bytesWorld w 5 s) := by
  unfold execOp
  simp only [hop, hx]
  have := print_bytes (P := Tryd.prog) 9 37 5 Tryd.underlying9 Tryd.underlying37 Tryd.underlying5 s w
  simp [this, Result.andThen]
 unfold Oper.wp
 rw [hrun]
 refine hK' _ _ (h _ _ _ rfl ?_ (by rw [Lib.bytesWorld_size]; omega) (bytes_below (Below.refl _ _) (Nat.le_refl _) _ _))
 intro W hW k hk
 rw [World.cell?_of_block hW]
 obtain ⟨ad, e, hc⟩ := (bytes_reads w 5 s (by omega)).at_ (k : Int) (by omega) (by omega)
 cases e
 rw [add_plain, Int.toNat_natCast, rd_bytesOf] at hc
 exact hc
set_option maxHeartbeats 16000000 in
set_option maxRecDepth 100000 in
theorem parse_any (a0 : ByteArray) (hd : DateForm a0) (b : Bool) (hb0 : exB (dateY a0) (dateM a0) (dateD a0) = b) (w : World) (hG : Gl w) : Calls Tryd.prog 34 #[.string a0] w fun e w' => e = .returned (.tuple #[.agg (if b = true then #[.int .i64 (dateY a0), .int .i64 (dateM a0), .int .i64 (dateD a0)] else #[.int .i64 0, .int .i64 0, .int .i64 0]), .int .i64 (if b = true then 0 else 21)]) ∧ Below w.heap.size w w' := by
 have hu28 := Tryd.underlying28
 have HB := yA (Below.refl w.heap.size w)
 have HG := yA hG
 obtain ⟨hs, h4, h7, HD0, HD1, HD2, HD3, HD5, HD6, HD8, HD9⟩ := hd
 have s10 : ((a0.size : Int) != 10) = false := bne_eq_false_iff_eq.mpr (by omega)
 have e4 : (bt a0 4 != 45) = false := bne_eq_false_iff_eq.mpr h4
 have e7 : (bt a0 7 != 45) = false := bne_eq_false_iff_eq.mpr h7
 have q4 : (4 < a0.size) = True := eq_true (by omega)
 have q7 : (7 < a0.size) = True := eq_true (by omega)
 have qi4 : (4 < (a0.size : Int)) = True := eq_true (by omega)
 have qi7 : (7 < (a0.size : Int)) = True := eq_true (by omega)
 have hx4 : ∀ h : 4 < a0.size, ((a0[4]'h).toNat : Int) = bt a0 4 := bt_at a0 4
 have hx7 : ∀ h : 7 < a0.size, ((a0[7]'h).toNat : Int) = bt a0 7 := bt_at a0 7
 have HS := yA hs
 clear hs h4 h7 hG
 have B0 := yA HD0
 clear HD0
 have B1 := yA HD1
 clear HD1
 have B2 := yA HD2
 clear HD2
 have B3 := yA HD3
 clear HD3
 have B5 := yA HD5
 clear HD5
 have B6 := yA HD6
 clear HD6
 have B8 := yA HD8
 clear HD8
 have B9 := yA HD9
 clear HD9
 have HEX := yA ((exists_is (dateY a0) (dateM a0) (dateD a0)).trans (by rw [hb0]))
 clear hb0
 go_enter Tryd.func34, Tryd.ntmps34
 go_wp2_with (first | ((with_reducible refine yP (N := 2) rfl ?_); refine yQ ?hg (N := 2) ?hd (cs := #[.int .i64 0, .int .i64 0, .int .i64 0]) (t := 28) ?hr ?_; (case hd => rfl); (case hg => rfl); (case hr => first | (go_simp; done) | (go_simp; rfl)); intro gb2 hg wb2 hbox hb; have n0_ := yA (yB (by repeat (first | (with_reducible first | exact HB.out | apply yE | apply yF | apply yD) | exact HB.out)) hb); have n1_ := yA hbox; have n2_ := yA ((by rw [hg]; exact (below_size (by repeat (first | (with_reducible first | exact HB.out | apply yE | apply yF | apply yD) | exact HB.out)))) : w.heap.size ≤ gb2); clear HB; have HB := n0_; have BK2 := n1_; have GE2 := n2_; clear n0_ n1_ n2_; clear hb hbox hg) | ((with_reducible refine yP (N := 4) rfl ?_); refine yQ ?hg (N := 4) ?hd (cs := #[.int .i64 0, .int .i64 0, .int .i64 0]) (t := 76) ?hr ?_; (case hd => rfl); (case hg => rfl); (case hr => first | (go_simp; done) | (go_simp; rfl)); intro gb4 hg wb4 hbox hb; have n0_ := yA (yB (by repeat (first | (with_reducible first | exact HB.out | apply yE | apply yF | apply yD) | exact HB.out)) hb); have n1_ := yA hbox; have n2_ := yA ((by rw [hg]; exact (below_size (by repeat (first | (with_reducible first | exact HB.out | apply yE | apply yF | apply yD) | exact HB.out)))) : w.heap.size ≤ gb4); have m0_ := yA (yC (by (with_reducible repeat (first | refine yG ?_ _ | refine yH ?_ | refine yI ?_ _)); exact BK2.out) hb); clear HB BK2; have HB := n0_; have BK4 := n1_; have GE4 := n2_; have BK2 := m0_; clear n0_ n1_ n2_ m0_; clear hb hbox hg) | ((with_reducible refine yP (N := 24) rfl ?_); go_must (refine bytes_event _ rfl (.tmp 23) rfl a0 rfl HS.out ?_); intro g cap w1 hg hcb hgl hb; have HCB := yA hcb; have NE4 := yA (show g ≠ gb4 from by have := blk_lt BK4.out; omega); have NE24 := yA (show gb2 ≠ gb4 from blk_ne BK2.out BK4.out (by decide)); have NE2 := yA (show g ≠ gb2 from by have := blk_lt BK2.out; omega); have n0_ := yA (yB (by repeat (first | (with_reducible first | exact HB.out | apply yE | apply yF | apply yD) | exact HB.out)) hb); have m0_ := yA (yC BK2.out hb); have m1_ := yA (yC BK4.out hb); clear HB BK2 BK4; have HB := n0_; have BK2 := m0_; have BK4 := m1_; clear n0_ m0_ m1_ hcb hb hg hgl))
 go_loopw [5, 6, 7, 26] (fun v5 v6 v7 v26 w' => ∃ (i z p0 p1 p2 : Int), v26 = .int .i64 i ∧ v5 = .int .i64 z ∧ Aside0 (0 ≤ i ∧ i ≤ 10 ∧ z = zoneOf i.toNat ∧ (p0, p1, p2) = stp a0 i.toNat) ∧ Aside0 (w'.heap[gb4]? = some (.cells #[.int .i64 p0, .int .i64 p1, .int .i64 p2] 76 (0, 0))) ∧ Aside0 (w'.heap[gb2]? = some (.cells #[.int .i64 0, .int .i64 0, .int .i64 0] 28 (0, 0))) ∧ Aside0 (w'.heap[g]? = w1.heap[g]?) ∧ Aside0 (Below w.heap.size w w')) (fun _ _ _ v26 _ => (10 - intOf v26).toNat)
 case atStart => exact ⟨0, 0, 0, 0, 0, rfl, rfl, ⟨by decide, by decide, rfl, rfl⟩, BK4, BK2, ⟨rfl⟩, HB⟩
 case round =>
  obtain ⟨i, z, p0, p1, p2, rfl, rfl, HI, BK4', BK2', HY, HB'⟩ := hrel
  clear BK4 BK2 HB s10 e4 e7 q4 q7 qi4 qi7 hx4 hx7
  have BK4 := BK4'
  have BK2 := BK2'
  have HB := HB'
  clear BK4' BK2' HB'
  have hi : i = 0 ∨ i = 1 ∨ i = 2 ∨ i = 3 ∨ i = 4 ∨ i = 5 ∨ i = 6 ∨ i = 7 ∨ i = 8 ∨ i = 9 ∨ i = 10 := by have := HI.out; omega
  rcases hi with rfl | rfl | rfl | rfl | rfl | rfl | rfl | rfl | rfl | rfl | rfl
  ·obtain rfl : z = 0 := HI.out.2.2.1
   have t10 : decide (0 < (a0.size : Int)) = true := yL (by have := HS.out; omega)
   have ti : (0 < a0.size) = True := eq_true (by have := HS.out; omega)
   have tj : (0 < (a0.size : Int)) = True := eq_true (by have := HS.out; omega)
   have hcb := HCB.out _ HY.out 0 (by decide)
   have b1 : 48 ≤ bt a0 0 := B0.out.1
   have b2 : bt a0 0 ≤ 57 := B0.out.2
   have d1 : decide (bt a0 0 < 48) = false := yM (by omega)
   have d2 : decide (bt a0 0 > 57) = false := yM (by omega)
   have d3 : decide (57 < bt a0 0) = false := yM (by omega)
   have bp : 0 ≤ p0 ∧ p0 ≤ 999 := by have h := HI.out.2.2.2; simp only [show (0 : Int).toNat = 0 from rfl, stp, Prod.mk.injEq] at h; have := B0.out; have := B1.out; have := B2.out; have := B5.out; have := B8.out; omega
   have bp1 := bp.1
   have bp2 := bp.2
   clear bp
   have hcz4_0 : wr.cell? ⟨gb4, 0, none⟩ = some (.int .i64 p0) := (yR BK4.out 0).trans rfl
   have hfz4_0 := yS BK4.out 0
   have hcz4_1 : wr.cell? ⟨gb4, 1, none⟩ = some (.int .i64 p1) := (yR BK4.out 1).trans rfl
   have hfz4_1 := yS BK4.out 1
   have hcz4_2 : wr.cell? ⟨gb4, 2, none⟩ = some (.int .i64 p2) := (yR BK4.out 2).trans rfl
   have hfz4_2 := yS BK4.out 2
   go_wp2
   go_roundw
   case measure => simp [intOf]
   case rel => exact ⟨1, 0, (10 * p0 + (bt a0 0 - 48)), p1, p2, rfl, rfl, ⟨by decide, by decide, rfl, by have h := HI.out.2.2.2; simp only [show (0 : Int).toNat = 0 from rfl, show (1 : Int).toNat = 1 from rfl, stp, Prod.mk.injEq] at h ⊢; obtain ⟨rfl, rfl, rfl⟩ := h; exact ⟨rfl, rfl, rfl⟩⟩, ⟨by refine blk_put (cs := #[.int .i64 p0, .int .i64 p1, .int .i64 p2]) ?_ 0 _ rfl; exact BK4.out⟩, ⟨by refine blk_far ?_ NE24.out _; exact BK2.out⟩, ⟨by exact (Below.heap_setCell _ _ _ _ NE4.out).trans HY.out⟩, ⟨by repeat (first | (with_reducible first | exact HB.out | apply yE | apply yF | apply yD | refine yJ ?_ GE4.out) | exact HB.out)⟩⟩
  ·obtain rfl : z = 0 := HI.out.2.2.1
   have t10 : decide (1 < (a0.size : Int)) = true := yL (by have := HS.out; omega)
   have ti : (1 < a0.size) = True := eq_true (by have := HS.out; omega)
   have tj : (1 < (a0.size : Int)) = True := eq_true (by have := HS.out; omega)
   have hcb := HCB.out _ HY.out 1 (by decide)
   have b1 : 48 ≤ bt a0 1 := B1.out.1
   have b2 : bt a0 1 ≤ 57 := B1.out.2
   have d1 : decide (bt a0 1 < 48) = false := yM (by omega)
   have d2 : decide (bt a0 1 > 57) = false := yM (by omega)
   have d3 : decide (57 < bt a0 1) = false := yM (by omega)
   have bp : 0 ≤ p0 ∧ p0 ≤ 999 := by have h := HI.out.2.2.2; simp only [show (1 : Int).toNat = 1 from rfl, stp, Prod.mk.injEq] at h; have := B0.out; have := B1.out; have := B2.out; have := B5.out; have := B8.out; omega
   have bp1 := bp.1
   have bp2 := bp.2
   clear bp
   have hcz4_0 : wr.cell? ⟨gb4, 0, none⟩ = some (.int .i64 p0) := (yR BK4.out 0).trans rfl
   have hfz4_0 := yS BK4.out 0
   have hcz4_1 : wr.cell? ⟨gb4, 1, none⟩ = some (.int .i64 p1) := (yR BK4.out 1).trans rfl
   have hfz4_1 := yS BK4.out 1
   have hcz4_2 : wr.cell? ⟨gb4, 2, none⟩ = some (.int .i64 p2) := (yR BK4.out 2).trans rfl
   have hfz4_2 := yS BK4.out 2
   go_wp2
   go_roundw
   case measure => simp [intOf]
   case rel => exact ⟨2, 0, (10 * p0 + (bt a0 1 - 48)), p1, p2, rfl, rfl, ⟨by decide, by decide, rfl, by have h := HI.out.2.2.2; simp only [show (1 : Int).toNat = 1 from rfl, show (2 : Int).toNat = 2 from rfl, stp, Prod.mk.injEq] at h ⊢; obtain ⟨rfl, rfl, rfl⟩ := h; exact ⟨rfl, rfl, rfl⟩⟩, ⟨by refine blk_put (cs := #[.int .i64 p0, .int .i64 p1, .int .i64 p2]) ?_ 0 _ rfl; exact BK4.out⟩, ⟨by refine blk_far ?_ NE24.out _; exact BK2.out⟩, ⟨by exact (Below.heap_setCell _ _ _ _ NE4.out).trans HY.out⟩, ⟨by repeat (first | (with_reducible first | exact HB.out | apply yE | apply yF | apply yD | refine yJ ?_ GE4.out) | exact HB.out)⟩⟩
  ·obtain rfl : z = 0 := HI.out.2.2.1
   have t10 : decide (2 < (a0.size : Int)) = true := yL (by have := HS.out; omega)
   have ti : (2 < a0.size) = True := eq_true (by have := HS.out; omega)
   have tj : (2 < (a0.size : Int)) = True := eq_true (by have := HS.out; omega)
   have hcb := HCB.out _ HY.out 2 (by decide)
   have b1 : 48 ≤ bt a0 2 := B2.out.1
   have b2 : bt a0 2 ≤ 57 := B2.out.2
   have d1 : decide (bt a0 2 < 48) = false := yM (by omega)
   have d2 : decide (bt a0 2 > 57) = false := yM (by omega)
   have d3 : decide (57 < bt a0 2) = false := yM (by omega)
   have bp : 0 ≤ p0 ∧ p0 ≤ 999 := by have h := HI.out.2.2.2; simp only [show (2 : Int).toNat = 2 from rfl, stp, Prod.mk.injEq] at h; have := B0.out; have := B1.out; have := B2.out; have := B5.out; have := B8.out; omega
   have bp1 := bp.1
   have bp2 := bp.2
   clear bp
   have hcz4_0 : wr.cell? ⟨gb4, 0, none⟩ = some (.int .i64 p0) := (yR BK4.out 0).trans rfl
   have hfz4_0 := yS BK4.out 0
   have hcz4_1 : wr.cell? ⟨gb4, 1, none⟩ = some (.int .i64 p1) := (yR BK4.out 1).trans rfl
   have hfz4_1 := yS BK4.out 1
   have hcz4_2 : wr.cell? ⟨gb4, 2, none⟩ = some (.int .i64 p2) := (yR BK4.out 2).trans rfl
   have hfz4_2 := yS BK4.out 2
   go_wp2
   go_roundw
   case measure => simp [intOf]
   case rel => exact ⟨3, 0, (10 * p0 + (bt a0 2 - 48)), p1, p2, rfl, rfl, ⟨by decide, by decide, rfl, by have h := HI.out.2.2.2; simp only [show (2 : Int).toNat = 2 from rfl, show (3 : Int).toNat = 3 from rfl, stp, Prod.mk.injEq] at h ⊢; obtain ⟨rfl, rfl, rfl⟩ := h; exact ⟨rfl, rfl, rfl⟩⟩, ⟨by refine blk_put (cs := #[.int .i64 p0, .int .i64 p1, .int .i64 p2]) ?_ 0 _ rfl; exact BK4.out⟩, ⟨by refine blk_far ?_ NE24.out _; exact BK2.out⟩, ⟨by exact (Below.heap_setCell _ _ _ _ NE4.out).trans HY.out⟩, ⟨by repeat (first | (with_reducible first | exact HB.out | apply yE | apply yF | apply yD | refine yJ ?_ GE4.out) | exact HB.out)⟩⟩
  ·obtain rfl : z = 0 := HI.out.2.2.1
   have t10 : decide (3 < (a0.size : Int)) = true := yL (by have := HS.out; omega)
   have ti : (3 < a0.size) = True := eq_true (by have := HS.out; omega)
   have tj : (3 < (a0.size : Int)) = True := eq_true (by have := HS.out; omega)
   have hcb := HCB.out _ HY.out 3 (by decide)
   have b1 : 48 ≤ bt a0 3 := B3.out.1
   have b2 : bt a0 3 ≤ 57 := B3.out.2
   have d1 : decide (bt a0 3 < 48) = false := yM (by omega)
   have d2 : decide (bt a0 3 > 57) = false := yM (by omega)
   have d3 : decide (57 < bt a0 3) = false := yM (by omega)
   have bp : 0 ≤ p0 ∧ p0 ≤ 999 := by have h := HI.out.2.2.2; simp only [show (3 : Int).toNat = 3 from rfl, stp, Prod.mk.injEq] at h; have := B0.out; have := B1.out; have := B2.out; have := B5.out; have := B8.out; omega
   have bp1 := bp.1
   have bp2 := bp.2
   clear bp
   have hcz4_0 : wr.cell? ⟨gb4, 0, none⟩ = some (.int .i64 p0) := (yR BK4.out 0).trans rfl
   have hfz4_0 := yS BK4.out 0
   have hcz4_1 : wr.cell? ⟨gb4, 1, none⟩ = some (.int .i64 p1) := (yR BK4.out 1).trans rfl
   have hfz4_1 := yS BK4.out 1
   have hcz4_2 : wr.cell? ⟨gb4, 2, none⟩ = some (.int .i64 p2) := (yR BK4.out 2).trans rfl
   have hfz4_2 := yS BK4.out 2
   go_wp2
   go_roundw
   case measure => simp [intOf]
   case rel => exact ⟨4, 0, (10 * p0 + (bt a0 3 - 48)), p1, p2, rfl, rfl, ⟨by decide, by decide, rfl, by have h := HI.out.2.2.2; simp only [show (3 : Int).toNat = 3 from rfl, show (4 : Int).toNat = 4 from rfl, stp, Prod.mk.injEq] at h ⊢; obtain ⟨rfl, rfl, rfl⟩ := h; exact ⟨rfl, rfl, rfl⟩⟩, ⟨by refine blk_put (cs := #[.int .i64 p0, .int .i64 p1, .int .i64 p2]) ?_ 0 _ rfl; exact BK4.out⟩, ⟨by refine blk_far ?_ NE24.out _; exact BK2.out⟩, ⟨by exact (Below.heap_setCell _ _ _ _ NE4.out).trans HY.out⟩, ⟨by repeat (first | (with_reducible first | exact HB.out | apply yE | apply yF | apply yD | refine yJ ?_ GE4.out) | exact HB.out)⟩⟩
  ·obtain rfl : z = 0 := HI.out.2.2.1
   have t10 : decide (4 < (a0.size : Int)) = true := yL (by have := HS.out; omega)
   have ti : (4 < a0.size) = True := eq_true (by have := HS.out; omega)
   have tj : (4 < (a0.size : Int)) = True := eq_true (by have := HS.out; omega)
   have hcb := HCB.out _ HY.out 4 (by decide)
   go_wp2
   go_roundw
   case measure => simp [intOf]
   case rel => exact ⟨5, 1, p0, p1, p2, rfl, rfl, ⟨by decide, by decide, rfl, HI.out.2.2.2⟩, ⟨by exact BK4.out⟩, ⟨by exact BK2.out⟩, HY, ⟨by repeat (first | (with_reducible first | exact HB.out | apply yE | apply yF | apply yD) | exact HB.out)⟩⟩
  ·obtain rfl : z = 1 := HI.out.2.2.1
   have t10 : decide (5 < (a0.size : Int)) = true := yL (by have := HS.out; omega)
   have ti : (5 < a0.size) = True := eq_true (by have := HS.out; omega)
   have tj : (5 < (a0.size : Int)) = True := eq_true (by have := HS.out; omega)
   have hcb := HCB.out _ HY.out 5 (by decide)
   have b1 : 48 ≤ bt a0 5 := B5.out.1
   have b2 : bt a0 5 ≤ 57 := B5.out.2
   have d1 : decide (bt a0 5 < 48) = false := yM (by omega)
   have d2 : decide (bt a0 5 > 57) = false := yM (by omega)
   have d3 : decide (57 < bt a0 5) = false := yM (by omega)
   have bp : 0 ≤ p1 ∧ p1 ≤ 999 := by have h := HI.out.2.2.2; simp only [show (5 : Int).toNat = 5 from rfl, stp, Prod.mk.injEq] at h; have := B0.out; have := B1.out; have := B2.out; have := B5.out; have := B8.out; omega
   have bp1 := bp.1
   have bp2 := bp.2
   clear bp
   have hcz4_0 : wr.cell? ⟨gb4, 0, none⟩ = some (.int .i64 p0) := (yR BK4.out 0).trans rfl
   have hfz4_0 := yS BK4.out 0
   have hcz4_1 : wr.cell? ⟨gb4, 1, none⟩ = some (.int .i64 p1) := (yR BK4.out 1).trans rfl
   have hfz4_1 := yS BK4.out 1
   have hcz4_2 : wr.cell? ⟨gb4, 2, none⟩ = some (.int .i64 p2) := (yR BK4.out 2).trans rfl
   have hfz4_2 := yS BK4.out 2
   go_wp2
   go_roundw
   case measure => simp [intOf]
   case rel => exact ⟨6, 1, p0, (10 * p1 + (bt a0 5 - 48)), p2, rfl, rfl, ⟨by decide, by decide, rfl, by have h := HI.out.2.2.2; simp only [show (5 : Int).toNat = 5 from rfl, show (6 : Int).toNat = 6 from rfl, stp, Prod.mk.injEq] at h ⊢; obtain ⟨rfl, rfl, rfl⟩ := h; exact ⟨rfl, rfl, rfl⟩⟩, ⟨by refine blk_put (cs := #[.int .i64 p0, .int .i64 p1, .int .i64 p2]) ?_ 1 _ rfl; exact BK4.out⟩, ⟨by refine blk_far ?_ NE24.out _; exact BK2.out⟩, ⟨by exact (Below.heap_setCell _ _ _ _ NE4.out).trans HY.out⟩, ⟨by repeat (first | (with_reducible first | exact HB.out | apply yE | apply yF | apply yD | refine yJ ?_ GE4.out) | exact HB.out)⟩⟩
  ·obtain rfl : z = 1 := HI.out.2.2.1
   have t10 : decide (6 < (a0.size : Int)) = true := yL (by have := HS.out; omega)
   have ti : (6 < a0.size) = True := eq_true (by have := HS.out; omega)
   have tj : (6 < (a0.size : Int)) = True := eq_true (by have := HS.out; omega)
   have hcb := HCB.out _ HY.out 6 (by decide)
   have b1 : 48 ≤ bt a0 6 := B6.out.1
   have b2 : bt a0 6 ≤ 57 := B6.out.2
   have d1 : decide (bt a0 6 < 48) = false := yM (by omega)
   have d2 : decide (bt a0 6 > 57) = false := yM (by omega)
   have d3 : decide (57 < bt a0 6) = false := yM (by omega)
   have bp : 0 ≤ p1 ∧ p1 ≤ 999 := by have h := HI.out.2.2.2; simp only [show (6 : Int).toNat = 6 from rfl, stp, Prod.mk.injEq] at h; have := B0.out; have := B1.out; have := B2.out; have := B5.out; have := B8.out; omega
   have bp1 := bp.1
   have bp2 := bp.2
   clear bp
   have hcz4_0 : wr.cell? ⟨gb4, 0, none⟩ = some (.int .i64 p0) := (yR BK4.out 0).trans rfl
   have hfz4_0 := yS BK4.out 0
   have hcz4_1 : wr.cell? ⟨gb4, 1, none⟩ = some (.int .i64 p1) := (yR BK4.out 1).trans rfl
   have hfz4_1 := yS BK4.out 1
   have hcz4_2 : wr.cell? ⟨gb4, 2, none⟩ = some (.int .i64 p2) := (yR BK4.out 2).trans rfl
   have hfz4_2 := yS BK4.out 2
   go_wp2
   go_roundw
   case measure => simp [intOf]
   case rel => exact ⟨7, 1, p0, (10 * p1 + (bt a0 6 - 48)), p2, rfl, rfl, ⟨by decide, by decide, rfl, by have h := HI.out.2.2.2; simp only [show (6 : Int).toNat = 6 from rfl, show (7 : Int).toNat = 7 from rfl, stp, Prod.mk.injEq] at h ⊢; obtain ⟨rfl, rfl, rfl⟩ := h; exact ⟨rfl, rfl, rfl⟩⟩, ⟨by refine blk_put (cs := #[.int .i64 p0, .int .i64 p1, .int .i64 p2]) ?_ 1 _ rfl; exact BK4.out⟩, ⟨by refine blk_far ?_ NE24.out _; exact BK2.out⟩, ⟨by exact (Below.heap_setCell _ _ _ _ NE4.out).trans HY.out⟩, ⟨by repeat (first | (with_reducible first | exact HB.out | apply yE | apply yF | apply yD | refine yJ ?_ GE4.out) | exact HB.out)⟩⟩
  ·obtain rfl : z = 1 := HI.out.2.2.1
   have t10 : decide (7 < (a0.size : Int)) = true := yL (by have := HS.out; omega)
   have ti : (7 < a0.size) = True := eq_true (by have := HS.out; omega)
   have tj : (7 < (a0.size : Int)) = True := eq_true (by have := HS.out; omega)
   have hcb := HCB.out _ HY.out 7 (by decide)
   go_wp2
   go_roundw
   case measure => simp [intOf]
   case rel => exact ⟨8, 2, p0, p1, p2, rfl, rfl, ⟨by decide, by decide, rfl, HI.out.2.2.2⟩, ⟨by exact BK4.out⟩, ⟨by exact BK2.out⟩, HY, ⟨by repeat (first | (with_reducible first | exact HB.out | apply yE | apply yF | apply yD) | exact HB.out)⟩⟩
  ·obtain rfl : z = 2 := HI.out.2.2.1
   have t10 : decide (8 < (a0.size : Int)) = true := yL (by have := HS.out; omega)
   have ti : (8 < a0.size) = True := eq_true (by have := HS.out; omega)
   have tj : (8 < (a0.size : Int)) = True := eq_true (by have := HS.out; omega)
   have hcb := HCB.out _ HY.out 8 (by decide)
   have b1 : 48 ≤ bt a0 8 := B8.out.1
   have b2 : bt a0 8 ≤ 57 := B8.out.2
   have d1 : decide (bt a0 8 < 48) = false := yM (by omega)
   have d2 : decide (bt a0 8 > 57) = false := yM (by omega)
   have d3 : decide (57 < bt a0 8) = false := yM (by omega)
   have bp : 0 ≤ p2 ∧ p2 ≤ 999 := by have h := HI.out.2.2.2; simp only [show (8 : Int).toNat = 8 from rfl, stp, Prod.mk.injEq] at h; have := B0.out; have := B1.out; have := B2.out; have := B5.out; have := B8.out; omega
   have bp1 := bp.1
   have bp2 := bp.2
   clear bp
   have hcz4_0 : wr.cell? ⟨gb4, 0, none⟩ = some (.int .i64 p0) := (yR BK4.out 0).trans rfl
   have hfz4_0 := yS BK4.out 0
   have hcz4_1 : wr.cell? ⟨gb4, 1, none⟩ = some (.int .i64 p1) := (yR BK4.out 1).trans rfl
   have hfz4_1 := yS BK4.out 1
   have hcz4_2 : wr.cell? ⟨gb4, 2, none⟩ = some (.int .i64 p2) := (yR BK4.out 2).trans rfl
   have hfz4_2 := yS BK4.out 2
   go_wp2
   go_roundw
   case measure => simp [intOf]
   case rel => exact ⟨9, 2, p0, p1, (10 * p2 + (bt a0 8 - 48)), rfl, rfl, ⟨by decide, by decide, rfl, by have h := HI.out.2.2.2; simp only [show (8 : Int).toNat = 8 from rfl, show (9 : Int).toNat = 9 from rfl, stp, Prod.mk.injEq] at h ⊢; obtain ⟨rfl, rfl, rfl⟩ := h; exact ⟨rfl, rfl, rfl⟩⟩, ⟨by refine blk_put (cs := #[.int .i64 p0, .int .i64 p1, .int .i64 p2]) ?_ 2 _ rfl; exact BK4.out⟩, ⟨by refine blk_far ?_ NE24.out _; exact BK2.out⟩, ⟨by exact (Below.heap_setCell _ _ _ _ NE4.out).trans HY.out⟩, ⟨by repeat (first | (with_reducible first | exact HB.out | apply yE | apply yF | apply yD | refine yJ ?_ GE4.out) | exact HB.out)⟩⟩
  ·obtain rfl : z = 2 := HI.out.2.2.1
   have t10 : decide (9 < (a0.size : Int)) = true := yL (by have := HS.out; omega)
   have ti : (9 < a0.size) = True := eq_true (by have := HS.out; omega)
   have tj : (9 < (a0.size : Int)) = True := eq_true (by have := HS.out; omega)
   have hcb := HCB.out _ HY.out 9 (by decide)
   have b1 : 48 ≤ bt a0 9 := B9.out.1
   have b2 : bt a0 9 ≤ 57 := B9.out.2
   have d1 : decide (bt a0 9 < 48) = false := yM (by omega)
   have d2 : decide (bt a0 9 > 57) = false := yM (by omega)
   have d3 : decide (57 < bt a0 9) = false := yM (by omega)
   have bp : 0 ≤ p2 ∧ p2 ≤ 999 := by have h := HI.out.2.2.2; simp only [show (9 : Int).toNat = 9 from rfl, stp, Prod.mk.injEq] at h; have := B0.out; have := B1.out; have := B2.out; have := B5.out; have := B8.out; omega
   have bp1 := bp.1
   have bp2 := bp.2
   clear bp
   have hcz4_0 : wr.cell? ⟨gb4, 0, none⟩ = some (.int .i64 p0) := (yR BK4.out 0).trans rfl
   have hfz4_0 := yS BK4.out 0
   have hcz4_1 : wr.cell? ⟨gb4, 1, none⟩ = some (.int .i64 p1) := (yR BK4.out 1).trans rfl
   have hfz4_1 := yS BK4.out 1
   have hcz4_2 : wr.cell? ⟨gb4, 2, none⟩ = some (.int .i64 p2) := (yR BK4.out 2).trans rfl
   have hfz4_2 := yS BK4.out 2
   go_wp2
   go_roundw
   case measure => simp [intOf]
   case rel => exact ⟨10, 2, p0, p1, (10 * p2 + (bt a0 9 - 48)), rfl, rfl, ⟨by decide, by decide, rfl, by have h := HI.out.2.2.2; simp only [show (9 : Int).toNat = 9 from rfl, show (10 : Int).toNat = 10 from rfl, stp, Prod.mk.injEq] at h ⊢; obtain ⟨rfl, rfl, rfl⟩ := h; exact ⟨rfl, rfl, rfl⟩⟩, ⟨by refine blk_put (cs := #[.int .i64 p0, .int .i64 p1, .int .i64 p2]) ?_ 2 _ rfl; exact BK4.out⟩, ⟨by refine blk_far ?_ NE24.out _; exact BK2.out⟩, ⟨by exact (Below.heap_setCell _ _ _ _ NE4.out).trans HY.out⟩, ⟨by repeat (first | (with_reducible first | exact HB.out | apply yE | apply yF | apply yD | refine yJ ?_ GE4.out) | exact HB.out)⟩⟩
  ·obtain rfl : z = 2 := HI.out.2.2.1
   obtain ⟨rfl, rfl, rfl⟩ : p0 = dateY a0 ∧ p1 = dateM a0 ∧ p2 = dateD a0 := by have h := HI.out.2.2.2; rw [show (10 : Int).toNat = 10 from rfl, stp10] at h; simp only [Prod.mk.injEq] at h; exact h
   obtain ⟨y, hy⟩ : ∃ y, dateY a0 = y := ⟨_, rfl⟩
   obtain ⟨m, hm⟩ : ∃ m, dateM a0 = m := ⟨_, rfl⟩
   obtain ⟨d, hdd⟩ : ∃ d, dateD a0 = d := ⟨_, rfl⟩
   rw [hy, hm, hdd] at HEX BK4
   have HYy := yA hy
   have HMm := yA hm
   have HDd := yA hdd
   clear hy hm hdd HI
   have t10 : decide (10 < (a0.size : Int)) = false := yM (by have := HS.out; omega)
   have tn : (10 < a0.size) = False := eq_false (by have := HS.out; omega)
   have hcz4_0 : wr.cell? ⟨gb4, 0, none⟩ = some (.int .i64 y) := (yR BK4.out 0).trans rfl
   have hfz4_0 := yS BK4.out 0
   have hcz4_1 : wr.cell? ⟨gb4, 1, none⟩ = some (.int .i64 m) := (yR BK4.out 1).trans rfl
   have hfz4_1 := yS BK4.out 1
   have hcz4_2 : wr.cell? ⟨gb4, 2, none⟩ = some (.int .i64 d) := (yR BK4.out 2).trans rfl
   have hfz4_2 := yS BK4.out 2
   cases b with
   | true =>
    go_wp2_with (first | ((with_reducible refine yP (N := 8) rfl ?_); refine yQ ?hg (N := 8) ?hd (cs := #[.int .i64 0, .int .i64 0, .int .i64 0]) (t := 28) ?hr ?_; (case hd => rfl); (case hg => rfl); (case hr => first | (go_simp; done) | (go_simp; rfl)); intro gb8 hg wb8 hbox hb; have NE28 := yA (show gb2 ≠ gb8 from by have h1 := blk_lt BK2.out; omega);  have n0_ := yA (yB (by repeat (first | (with_reducible first | exact HB.out | apply yE | apply yF | apply yD) | exact HB.out)) hb); have n1_ := yA hbox; have n2_ := yA ((by rw [hg]; exact (below_size (by repeat (first | (with_reducible first | exact HB.out | apply yE | apply yF | apply yD) | exact HB.out)))) : w.heap.size ≤ gb8); have m0_ := yA (yC (by (with_reducible repeat (first | refine yG ?_ _ | refine yH ?_ | refine yI ?_ _)); exact BK2.out) hb); have m1_ := yA (yC (by (with_reducible repeat (first | refine yG ?_ _ | refine yH ?_ | refine yI ?_ _)); exact BK4.out) hb); clear HB BK2 BK4; have HB := n0_; have BK8 := n1_; have GE8 := n2_; have BK2 := m0_; have BK4 := m1_; clear n0_ n1_ n2_ m0_ m1_; clear hb hbox hg; have hcy_0 : wb8.cell? ⟨gb8, 0, none⟩ = some (.int .i64 0) := (yR BK8.out 0).trans rfl; have hfy_0 := yS BK8.out 0; have hcy_1 : wb8.cell? ⟨gb8, 1, none⟩ = some (.int .i64 0) := (yR BK8.out 1).trans rfl; have hfy_1 := yS BK8.out 1; have hcy_2 : wb8.cell? ⟨gb8, 2, none⟩ = some (.int .i64 0) := (yR BK8.out 2).trans rfl; have hfy_2 := yS BK8.out 2) | (go_at_call 31; go_must (refine (cal_exists.calls y m d true _ HEX.out (Gl.below HG.out (by repeat (first | (with_reducible first | exact HB.out | apply yE | apply yF | apply yD | refine yJ ?_ GE8.out) | exact HB.out)))).mono ?_); go_must (rintro e w' ⟨rfl, hb⟩; have n0_ := yA (yB (by repeat (first | (with_reducible first | exact HB.out | apply yE | apply yF | apply yD | refine yJ ?_ GE8.out) | exact HB.out)) hb); have m0_ := yA (yC (g := gb2) (o := .cells #[.int .i64 0, .int .i64 0, .int .i64 0] 28 (0, 0)) (by refine blk_far ?_ NE28.out _; refine blk_far ?_ NE28.out _; refine blk_far ?_ NE28.out _; exact BK2.out) hb); have m1_ := yA (yC (g := gb8) (o := .cells #[.int .i64 y, .int .i64 m, .int .i64 d] 28 (0, 0)) (by refine blk_put (cs := #[.int .i64 y, .int .i64 m, .int .i64 0]) ?_ 2 _ rfl; refine blk_put (cs := #[.int .i64 y, .int .i64 0, .int .i64 0]) ?_ 1 _ rfl; refine blk_put (cs := #[.int .i64 0, .int .i64 0, .int .i64 0]) ?_ 0 _ rfl; exact BK8.out) hb); clear HB BK2 BK8; have HB := n0_; have BK2 := m0_; have BK8 := m1_; clear n0_ m0_ m1_ hb; have hcw_0 : w'.cell? ⟨gb2, 0, none⟩ = some (.int .i64 0) := (yR BK2.out 0).trans rfl; have hfw_0 := yS BK2.out 0; have hcw_1 : w'.cell? ⟨gb2, 1, none⟩ = some (.int .i64 0) := (yR BK2.out 1).trans rfl; have hfw_1 := yS BK2.out 1; have hcw_2 : w'.cell? ⟨gb2, 2, none⟩ = some (.int .i64 0) := (yR BK2.out 2).trans rfl; have hfw_2 := yS BK2.out 2; have hcv_0 : w'.cell? ⟨gb8, 0, none⟩ = some (.int .i64 y) := (yR BK8.out 0).trans rfl; have hcv_1 : w'.cell? ⟨gb8, 1, none⟩ = some (.int .i64 m) := (yR BK8.out 1).trans rfl; have hcv_2 : w'.cell? ⟨gb8, 2, none⟩ = some (.int .i64 d) := (yR BK8.out 2).trans rfl)))
    refine bodyPost_ret (results_ct rfl _ _ gb2 28 #[.int .i64 y, .int .i64 m, .int .i64 d] (0, 0) _ rfl (by (with_reducible repeat (first | refine yG ?_ _ | refine yH ?_ | refine yI ?_ _)); refine blk_put (cs := #[.int .i64 y, .int .i64 m, .int .i64 0]) ?_ 2 _ rfl; (with_reducible repeat (first | refine yG ?_ _ | refine yH ?_ | refine yI ?_ _)); refine blk_put (cs := #[.int .i64 y, .int .i64 0, .int .i64 0]) ?_ 1 _ rfl; (with_reducible repeat (first | refine yG ?_ _ | refine yH ?_ | refine yI ?_ _)); refine blk_put (cs := #[.int .i64 0, .int .i64 0, .int .i64 0]) ?_ 0 _ rfl; (with_reducible repeat (first | refine yG ?_ _ | refine yH ?_ | refine yI ?_ _)); exact BK2.out) Tryd.underlying28 rfl (by kernel_rfl)) rfl ?_
    exact ⟨by first | rfl | (rw [HYy.out, HMm.out, HDd.out]; rfl), by repeat (first | (with_reducible first | exact HB.out | apply yE | apply yF | apply yD | refine yJ ?_ GE2.out | refine yJ ?_ GE8.out) | exact HB.out)⟩
   | false =>
    go_wp2_with (first | ((with_reducible refine yP (N := 8) rfl ?_); refine yQ ?hg (N := 8) ?hd (cs := #[.int .i64 0, .int .i64 0, .int .i64 0]) (t := 28) ?hr ?_; (case hd => rfl); (case hg => rfl); (case hr => first | (go_simp; done) | (go_simp; rfl)); intro gb8 hg wb8 hbox hb; have NE28 := yA (show gb2 ≠ gb8 from by have h1 := blk_lt BK2.out; omega);  have n0_ := yA (yB (by repeat (first | (with_reducible first | exact HB.out | apply yE | apply yF | apply yD) | exact HB.out)) hb); have n1_ := yA hbox; have n2_ := yA ((by rw [hg]; exact (below_size (by repeat (first | (with_reducible first | exact HB.out | apply yE | apply yF | apply yD) | exact HB.out)))) : w.heap.size ≤ gb8); have m0_ := yA (yC (by (with_reducible repeat (first | refine yG ?_ _ | refine yH ?_ | refine yI ?_ _)); exact BK2.out) hb); have m1_ := yA (yC (by (with_reducible repeat (first | refine yG ?_ _ | refine yH ?_ | refine yI ?_ _)); exact BK4.out) hb); clear HB BK2 BK4; have HB := n0_; have BK8 := n1_; have GE8 := n2_; have BK2 := m0_; have BK4 := m1_; clear n0_ n1_ n2_ m0_ m1_; clear hb hbox hg; have hcy_0 : wb8.cell? ⟨gb8, 0, none⟩ = some (.int .i64 0) := (yR BK8.out 0).trans rfl; have hfy_0 := yS BK8.out 0; have hcy_1 : wb8.cell? ⟨gb8, 1, none⟩ = some (.int .i64 0) := (yR BK8.out 1).trans rfl; have hfy_1 := yS BK8.out 1; have hcy_2 : wb8.cell? ⟨gb8, 2, none⟩ = some (.int .i64 0) := (yR BK8.out 2).trans rfl; have hfy_2 := yS BK8.out 2) | (go_at_call 31; go_must (refine (cal_exists.calls y m d false _ HEX.out (Gl.below HG.out (by repeat (first | (with_reducible first | exact HB.out | apply yE | apply yF | apply yD | refine yJ ?_ GE8.out) | exact HB.out)))).mono ?_); go_must (rintro e w' ⟨rfl, hb⟩; have n0_ := yA (yB (by repeat (first | (with_reducible first | exact HB.out | apply yE | apply yF | apply yD | refine yJ ?_ GE8.out) | exact HB.out)) hb); have m0_ := yA (yC (g := gb2) (o := .cells #[.int .i64 0, .int .i64 0, .int .i64 0] 28 (0, 0)) (by refine blk_far ?_ NE28.out _; refine blk_far ?_ NE28.out _; refine blk_far ?_ NE28.out _; exact BK2.out) hb); have m1_ := yA (yC (g := gb8) (o := .cells #[.int .i64 y, .int .i64 m, .int .i64 d] 28 (0, 0)) (by refine blk_put (cs := #[.int .i64 y, .int .i64 m, .int .i64 0]) ?_ 2 _ rfl; refine blk_put (cs := #[.int .i64 y, .int .i64 0, .int .i64 0]) ?_ 1 _ rfl; refine blk_put (cs := #[.int .i64 0, .int .i64 0, .int .i64 0]) ?_ 0 _ rfl; exact BK8.out) hb); clear HB BK2 BK8; have HB := n0_; have BK2 := m0_; have BK8 := m1_; clear n0_ m0_ m1_ hb; have hcw_0 : w'.cell? ⟨gb2, 0, none⟩ = some (.int .i64 0) := (yR BK2.out 0).trans rfl; have hfw_0 := yS BK2.out 0; have hcw_1 : w'.cell? ⟨gb2, 1, none⟩ = some (.int .i64 0) := (yR BK2.out 1).trans rfl; have hfw_1 := yS BK2.out 1; have hcw_2 : w'.cell? ⟨gb2, 2, none⟩ = some (.int .i64 0) := (yR BK2.out 2).trans rfl; have hfw_2 := yS BK2.out 2; have hcv_0 : w'.cell? ⟨gb8, 0, none⟩ = some (.int .i64 y) := (yR BK8.out 0).trans rfl; have hcv_1 : w'.cell? ⟨gb8, 1, none⟩ = some (.int .i64 m) := (yR BK8.out 1).trans rfl; have hcv_2 : w'.cell? ⟨gb8, 2, none⟩ = some (.int .i64 d) := (yR BK8.out 2).trans rfl)))
    refine bodyPost_ret (results_ct rfl _ _ gb2 28 #[.int .i64 0, .int .i64 0, .int .i64 0] (0, 0) _ rfl (by (with_reducible repeat (first | refine yG ?_ _ | refine yH ?_ | refine yI ?_ _)); refine blk_put (cs := #[.int .i64 0, .int .i64 0, .int .i64 0]) ?_ 2 _ rfl; (with_reducible repeat (first | refine yG ?_ _ | refine yH ?_ | refine yI ?_ _)); refine blk_put (cs := #[.int .i64 0, .int .i64 0, .int .i64 0]) ?_ 1 _ rfl; (with_reducible repeat (first | refine yG ?_ _ | refine yH ?_ | refine yI ?_ _)); refine blk_put (cs := #[.int .i64 0, .int .i64 0, .int .i64 0]) ?_ 0 _ rfl; (with_reducible repeat (first | refine yG ?_ _ | refine yH ?_ | refine yI ?_ _)); exact BK2.out) Tryd.underlying28 rfl (by kernel_rfl)) rfl ?_
    exact ⟨by first | rfl | (rw [HYy.out, HMm.out, HDd.out]; rfl), by repeat (first | (with_reducible first | exact HB.out | apply yE | apply yF | apply yD | refine yJ ?_ GE2.out | refine yJ ?_ GE8.out) | exact HB.out)⟩
end Go.Proofs.YtkfdninngcakpaaDoor.Pure
namespace Go.Proofs.YtkfdninngcakpaaDoor.PLex
open Go.RowKit Go.Proofs.YtkfdninngcakpaaDoorW.PrintWords Go.Proofs.YtkfdninngcakpaaDoorW.PrintLast Go.Proofs.YtkfdninngcakpaaDoorW.PrintMore
def cal_Parse.f (a0 : ByteArray) : Option (Int × Int × Int × Int) :=
 if Pure.DateForm a0 then (if Pure.exB (Pure.dateY a0) (Pure.dateM a0) (Pure.dateD a0) = true then some (Pure.dateY a0, Pure.dateM a0, Pure.dateD a0, 0) else some (0, 0, 0, 21)) else none
theorem cal_Parse.calls (a0 : ByteArray) (r1 : Int) (r2 : Int) (r3 : Int) (r4 : Int) (w : World) (h : cal_Parse.f a0 = some (r1, r2, r3, r4)) (hG : Pure.Gl w) :
  Calls Tryd.prog 34 #[.string a0] w fun e w' => e = .returned (.tuple #[.agg #[.int .i64 r1, .int .i64 r2, .int .i64 r3], .int .i64 r4]) ∧ Below w.heap.size w w' := by
 unfold cal_Parse.f at h
 split at h
 ·rename_i hd
  refine (Pure.parse_any a0 hd _ rfl w hG).mono ?_
  rintro e w' ⟨rfl, hb⟩
  split at h
  ·rename_i hx
   rw [hx]
   cases h
   exact ⟨rfl, hb⟩
  ·rename_i hx
   rw [Bool.eq_false_iff.mpr hx]
   cases h
   exact ⟨rfl, hb⟩
 ·cases h
end Go.Proofs.YtkfdninngcakpaaDoor.PLex
