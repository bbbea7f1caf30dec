/- Own text: intactNames and intact, where the lists are as own has made them. -/
import Derived.Test.YtppojbafagneeaaDoorQTabo
import Derived.Test.YtppojbafagneeaaDoorQTab2
namespace Go.Proofs.YtppojbafagneeaaDoor.PTab
open Go.RowKit Go.Proofs.YtppojbafagneeaaDoorW.PrintWords Go.Proofs.YtppojbafagneeaaDoorW.PrintLast Go.Proofs.YtppojbafagneeaaDoorW.PrintMore
attribute [local go_sem] max2_int min2_int max_two min_two max_three min_three max_four min_four
attribute [local go_sem] nil22 nil23
attribute [local go_sem high] eqA52
set_option linter.unusedVariables false
set_option linter.unusedSimpArgs false
/-- What lies behind the ends. -/
def bN : ByteArray := ⟨#[66, 101, 104, 105, 110, 100]⟩
def bC : S52 := ⟨true, (-77177)⟩
/-- What own makes of names, of a row. -/
def withN (n : Bool) (l : List ByteArray) : List ByteArray := if n = true then [] else l ++ [bN, bN]
def withC (r : List S52) : List S52 := r ++ [bC, bC]
theorem w64n (n : Nat) (h : n ≤ 9223372036854775806) : wrap64 ((n : Int) + 1) = ((n + 1 : Nat) : Int) := by unfold wrap64; omega
theorem sameNames_l0 (l : List ByteArray) (hl : l.length ≤ 9223372036854775806) : ∀ d i : Nat, i + d = l.length → payofflaw05_sameNames.l0 (d + 1) l l (i : Int) = some true := by
  intro d
  induction d with
  | zero => intro i hi; rw [payofflaw05_sameNames.l0, if_neg (by omega)]
  | succ d ih =>
    intro i hi
    rw [payofflaw05_sameNames.l0, if_pos (by omega), if_pos (by omega), if_pos (by omega), if_pos rfl, w64n i (by omega)]
    exact ih (i + 1) (by omega)
theorem sameNames_self (l : List ByteArray) (hl : l.length ≤ 9223372036854775806) : payofflaw05_sameNames.f (l.length + 1) l l = some true := by
  unfold payofflaw05_sameNames.f
  rw [if_pos rfl]
  exact sameNames_l0 l hl l.length 0 (by omega)
theorem sameRow_l0 (l : List S52) (hl : l.length ≤ 9223372036854775806) : ∀ d i k : Nat, i + d = l.length → d < k → payofflaw05_sameRow.l0 k l l (i : Int) = some true := by
  intro d
  induction d with
  | zero =>
    intro i k hi hk
    obtain ⟨k, rfl⟩ : ∃ m, k = m + 1 := ⟨k - 1, by omega⟩
    rw [payofflaw05_sameRow.l0, if_neg (by omega)]
  | succ d ih =>
    intro i k hi hk
    obtain ⟨k, rfl⟩ : ∃ m, k = m + 1 := ⟨k - 1, by omega⟩
    rw [payofflaw05_sameRow.l0, if_pos (by omega), if_pos (by omega), if_pos (by omega), if_neg (by simp), w64n i (by omega)]
    exact ih (i + 1) k (by omega) (by omega)
theorem sameRow_self (l : List S52) (hl : l.length ≤ 9223372036854775806) (k : Nat) (hk : l.length < k) : payofflaw05_sameRow.f k l l = some true := by
  unfold payofflaw05_sameRow.f
  rw [if_pos rfl]
  exact sameRow_l0 l hl l.length 0 k (by omega) hk
theorem sameRows_l0 (l : List (List S52)) (hl : l.length ≤ 9223372036854775806) (B : Nat) (hB : ∀ r ∈ l, r.length ≤ B) (hB2 : B ≤ 9223372036854775806) : ∀ d i k : Nat, i + d = l.length → d + B + 1 < k → payofflaw05_sameRows.l0 k l l (i : Int) = some true := by
  intro d
  induction d with
  | zero =>
    intro i k hi hk
    obtain ⟨k, rfl⟩ : ∃ m, k = m + 1 := ⟨k - 1, by omega⟩
    rw [payofflaw05_sameRows.l0, if_neg (by omega)]
  | succ d ih =>
    intro i k hi hk
    obtain ⟨k, rfl⟩ : ∃ m, k = m + 1 := ⟨k - 1, by omega⟩
    have hr : (rd_L4 l (i : Int)).length ≤ B := by
      unfold rd_L4
      rw [Int.toNat_natCast, List.getD_eq_getElem?_getD, List.getElem?_eq_getElem (by omega : i < l.length)]
      exact hB _ (List.getElem_mem _)
    rw [payofflaw05_sameRows.l0, if_pos (by omega), if_pos (by omega), if_pos (by omega), sameRow_self _ (by omega) k (by omega), Option.bind_some, if_pos rfl, w64n i (by omega)]
    exact ih (i + 1) k (by omega) (by omega)
theorem rows_bound {w : World} {A : Option Addr} {n : Nat} {l : List (List S52)} (h : Kd.C (Kd.slice 52 k52) w A n l) : ∀ r ∈ l, r.length ≤ 9223372036854775807 := by
  intro r hr
  obtain ⟨i, hi, rfl⟩ := List.getElem_of_mem hr
  have hn := h.1
  obtain ⟨ad, e, hc⟩ := h.2.2 (by omega)
  obtain ⟨c, -, ⟨A', c', -, -, hC⟩, -⟩ := hc i _ (List.getElem?_eq_getElem hi)
  exact hC.2.1
theorem sameRows_self (l : List (List S52)) (hl : l.length ≤ 9223372036854775806) (B : Nat) (hB : ∀ r ∈ l, r.length ≤ B) (hB2 : B ≤ 9223372036854775806) : payofflaw05_sameRows.f (l.length + B + 2) l l = some true := by
  unfold payofflaw05_sameRows.f
  rw [if_pos rfl]
  exact sameRows_l0 l hl B hB hB2 l.length 0 _ (by omega) (by omega)
theorem short_with (l : List (List S52)) : (l.map withC).map short = l := by
  rw [List.map_map]
  have : (short ∘ withC) = id := by funext r; exact short_app r bC bC
  rw [this, List.map_id]
theorem sameRows_cut (A01 : Option Addr) (c01 : Nat) (R : List (List S52)) (A11 : Option Addr) (c11 : Nat) (l1 : List (List S52)) (w : World) (h01 : (cut2 52 k52).C w A01 R.length R) (hc01 : R.length ≤ c01)
    (h11 : Kd.C (Kd.slice 52 k52) w A11 l1.length l1) (hc11 : l1.length ≤ c11) (hR : R = l1.map withC ∧ l1.length ≤ 9223372036854775806 ∧ ∀ r ∈ l1, r.length ≤ 9223372036854775806) :
    Calls Tryd.prog 45 #[.slice A01 R.length c01, .slice A11 l1.length c11] w fun e w' => e = .returned (.bool true) ∧ Drawn0 w w' := by
  obtain ⟨rfl, hl, hB⟩ := hR
  have h := cut2_read h01
  rw [short_with, List.length_map] at h
  rw [List.length_map] at hc01 ⊢
  exact payofflaw05_sameRows.calls _ A01 c01 l1 A11 c11 l1 true w h hc01 h11 hc11 (sameRows_self l1 hl 9223372036854775806 hB (Nat.le_refl _))
theorem rd_app0 (l : List ByteArray) : rdOf ByteArray.empty (l ++ [bN, bN]) (l.length : Int) = bN := by simp [rdOf]
theorem rd_app1 (l : List ByteArray) : rdOf ByteArray.empty (l ++ [bN, bN]) ((l.length + 1 : Nat) : Int) = bN := by simp [rdOf]
theorem rc_app0 (l : List S52) : rd_T52 (withC l) (l.length : Int) = bC := by simp [rd_T52, withC]
theorem rc_app1 (l : List S52) : rd_T52 (withC l) ((l.length + 1 : Nat) : Int) = bC := by simp [rd_T52, withC]
set_option maxHeartbeats 4000000 in
set_option maxRecDepth 100000 in
theorem intactNames_true (A00 : Option Addr) (c00 : Nat) (L0 : List ByteArray) (A10 : Option Addr) (c10 : Nat) (l0 : List ByteArray) (w : World) (h00 : Kd.C Kd.string w A00 L0.length L0) (hc00 : L0.length ≤ c00)
    (h10 : Kd.C Kd.string w A10 l0.length l0) (hc10 : l0.length ≤ c10) (hL : L0 = withN A10.isNone l0 ∧ l0.length ≤ 9223372036854775800) :
    Calls Tryd.prog 44 #[.slice A00 (L0.length - 2) c00, .slice A10 l0.length c10] w fun e w' => e = .returned (.bool true) ∧ Drawn0 w w' := by
  obtain ⟨hL, hl⟩ := hL
  cases hn : A10.isNone with
  | true =>
    rw [hn] at hL
    obtain rfl : L0 = [] := hL
    have hz : l0.length = 0 := by
      have h3 := h10.2.2
      rw [Option.isNone_iff_eq_none] at hn
      rw [hn] at h3
      apply Classical.byContradiction
      intro h
      obtain ⟨ad, e, -⟩ := h3 (by omega)
      cases e
    obtain rfl : l0 = [] := List.length_eq_zero_iff.1 hz
    have hS := payofflaw05_sameNames.calls _ A00 c00 [] A10 c10 [] true w h00 hc00 h10 hc10 (sameNames_self [] (by simp))
    simp only [List.length_nil, Nat.zero_sub] at hS ⊢
    clear h00 h10
    go_enter Tryd.func44, Tryd.ntmps44
    go_wp2_with (first | (go_at_call 66; refine hS.mono ?_; rintro e w' ⟨rfl, ⟨nd, rfl⟩⟩))
    go_ret
    exact ⟨rfl, ⟨_, rfl⟩⟩
  | false =>
    rw [hn] at hL
    obtain rfl : L0 = l0 ++ [bN, bN] := hL
    have hlen : (l0 ++ [bN, bN]).length = l0.length + 2 := by simp
    rw [hlen] at h00 hc00 ⊢
    have h0 := C_take h00 (m := l0.length) (by omega)
    rw [show (l0 ++ [bN, bN]).take l0.length = l0 by simp] at h0
    have hS := payofflaw05_sameNames.calls _ A00 c00 l0 A10 c10 l0 true w h0 (by omega) h10 hc10 (sameNames_self l0 (by omega))
    obtain ⟨ad, c, e1, -, e2, e3⟩ := Kd.C_get h00 ByteArray.empty (l0.length : Int) (by omega) (by omega)
    obtain ⟨ad', c', e4, -, e5, e6⟩ := Kd.C_get h00 ByteArray.empty ((l0.length + 1 : Nat) : Int) (by omega) (by omega)
    subst e1
    obtain rfl := Option.some.inj e4
    have e2 : c = [.string (rdOf ByteArray.empty (l0 ++ [bN, bN]) (l0.length : Int))] := e2
    have e5 : c' = [.string (rdOf ByteArray.empty (l0 ++ [bN, bN]) ((l0.length + 1 : Nat) : Int))] := e5
    rw [rd_app0] at e2
    rw [rd_app1] at e5
    subst e2
    subst e5
    have g0 : w.cell? (ad.add l0.length) = some (.string bN) := by have := e3 0 _ rfl; simpa [Kd.string, Kd.scalar] using this
    have g1 : w.cell? (ad.add (l0.length + 1)) = some (.string bN) := by have := e6 0 _ rfl; simpa [Kd.string, Kd.scalar] using this
    have g0' : ∀ n, (w.drewN n).cell? (ad.add l0.length) = some (.string bN) := fun n => g0
    have g1' : ∀ n, (w.drewN n).cell? (ad.add (l0.length + 1)) = some (.string bN) := fun n => g1
    have g1'' : ∀ n, (w.drewN n).cell? ⟨ad.block, ad.off + (l0.length + 1), none⟩ = some (.string bN) := fun n => g1
    have hbs : (bN.toList == ([66, 101, 104, 105, 110, 100] : List UInt8)) = true := by rw [ByteArray.toList_eq]; rfl
    have b1 : ((l0.length : Int) + 2 ≤ (c00 : Int)) = True := eq_true (by omega)
    have b2 : ((l0.length : Int) < (l0.length : Int) + 2) = True := eq_true (by omega)
    have b3 : ((l0.length : Int) + 1 < (l0.length : Int) + 2) = True := eq_true (by omega)
    clear h00 h10 h0 e3 e6 hlen hc10 e4 g0 g1
    rw [show l0.length + 2 - 2 = l0.length by omega]
    go_enter Tryd.func44, Tryd.ntmps44
    go_wp2_with (first | (go_at_call 66; refine hS.mono ?_; rintro e w' ⟨rfl, ⟨nd, rfl⟩⟩))
    go_ret
    exact ⟨rfl, ⟨_, rfl⟩⟩
theorem at_cut2 {w : World} {A : Option Addr} {n : Nat} {xs : List (List S52)} (h : (cut2 52 k52).C w A n xs) (i : Int) (h0 : 0 ≤ i) (h1 : i < n) : ∃ ad A0 c0, A = some ad ∧ w.cell? (ad.add i.toNat) = some (.slice A0 ((rd_L4 xs i).length - 2) c0) ∧ 2 ≤ (rd_L4 xs i).length ∧ (rd_L4 xs i).length ≤ c0 ∧ k52.C w A0 (rd_L4 xs i).length (rd_L4 xs i) := by
  obtain ⟨ad, c, e, _, hK, hc0⟩ := Kd.C_get h ([] : List S52) i h0 h1
  have hc : ∀ j u, c[j]? = some u → w.cell? (ad.add (i.toNat * 1 + j)) = some u := hc0
  obtain ⟨A0, c0, rfl, l0, g0, g1⟩ := hK
  exact ⟨ad, A0, c0, e, by have hq := hc 0 _ rfl; rwa [Nat.mul_one, Nat.add_zero] at hq, l0, g0, g1⟩
theorem rd_map (l : List (List S52)) (i : Nat) (h : i < l.length) : rd_L4 (l.map withC) (i : Int) = withC (rd_L4 l (i : Int)) := by
  unfold rd_L4
  rw [Int.toNat_natCast, List.getD_eq_getElem?_getD, List.getD_eq_getElem?_getD, List.getElem?_map, List.getElem?_eq_getElem h]
  rfl
set_option maxHeartbeats 8000000 in
set_option maxRecDepth 100000 in
theorem intact_true (A00 : Option Addr) (c00 : Nat) (L0 : List ByteArray) (A01 : Option Addr) (c01 : Nat) (R : List (List S52)) (A10 : Option Addr) (c10 : Nat) (l0 : List ByteArray) (A11 : Option Addr) (c11 : Nat) (l1 : List (List S52)) (w : World)
    (h00 : Kd.C Kd.string w A00 L0.length L0) (hc00 : L0.length ≤ c00) (h01 : (cut2 52 k52).C w A01 R.length R) (hc01 : R.length ≤ c01) (h10 : Kd.C Kd.string w A10 l0.length l0) (hc10 : l0.length ≤ c10) (h11 : Kd.C (Kd.slice 52 k52) w A11 l1.length l1) (hc11 : l1.length ≤ c11)
    (hL0 : L0 = withN A10.isNone l0 ∧ l0.length ≤ 9223372036854775800) (hR0 : R = l1.map withC ∧ l1.length ≤ 9223372036854775806 ∧ ∀ r ∈ l1, r.length ≤ 9223372036854775806) (hG : Pure.Gl w) :
    Calls Tryd.prog 19 #[.agg #[.slice A00 (L0.length - 2) c00, .slice A01 R.length c01], .agg #[.slice A10 l0.length c10, .slice A11 l1.length c11]] w fun e w' => e = .returned (.bool true) ∧ Below w.heap.size w w' := by
  have hu25 := Tryd.underlying25
  have hu52 := Tryd.underlying52
  have HR00 := Aside0.mk h00
  have HR01 := Aside0.mk h01
  have HR10 := Aside0.mk h10
  have HR11 := Aside0.mk h11
  have HG := Aside0.mk hG
  have HR0 := Aside0.mk hR0
  clear h00 h01 h10 h11 hG
  have HB := Aside0.mk (Below.refl w.heap.size w)
  have hlen : R.length = l1.length := by rw [hR0.1, List.length_map]
  have HLEN := Aside0.mk hlen
  have HL0 := Aside0.mk hL0
  have HC00 := Aside0.mk hc00
  have HC01 := Aside0.mk hc01
  have HC10 := Aside0.mk hc10
  have HC11 := Aside0.mk hc11
  clear hlen hL0 hR0 hc00 hc01 hc10 hc11
  go_enter Tryd.func19, Tryd.ntmps19
  go_wp2_with (first | ((with_reducible refine gate_dst (N := 2) rfl ?_); refine box_event ?hg (N := 2) ?hd (cs := #[.slice A00 (L0.length - 2) c00, .slice A01 R.length c01]) (t := 25) ?hr ?_; (case hd => rfl); (case hg => rfl); (case hr => first | (go_simp; done) | (go_simp; rfl)); intro gb147 hg w6 hbox hb; have n0_ := Aside0.mk (below_step (by repeat (first | (with_reducible first | exact HB.out | apply below_alloc | apply pw_below_drewN | apply below_drew1) | exact HB.out)) hb); have n1_ := Aside0.mk (hbox); have n2_ := Aside0.mk ((by rw [hg]; exact (below_size (by repeat (first | (with_reducible first | exact HB.out | apply below_alloc | apply pw_below_drewN | apply below_drew1) | exact HB.out))) : w.heap.size ≤ gb147)); have n3_ := Aside0.mk ((by rw [hg]; exact (below_size (by repeat (first | (with_reducible first | exact HB.out | apply below_alloc | apply pw_below_drewN | apply below_drew1) | exact HB.out))) : w.heap.size ≤ gb147)); clear HB; have HB := n0_; have BK147 := n1_; have GW147 := n2_; have GE147 := n3_; clear n0_ n1_ n2_ n3_; clear hb hbox hg) | ((with_reducible refine gate_dst (N := 3) rfl ?_); refine box_event ?hg (N := 3) ?hd (cs := #[.slice A10 l0.length c10, .slice A11 l1.length c11]) (t := 25) ?hr ?_; (case hd => rfl); (case hg => rfl); (case hr => first | (go_simp; done) | (go_simp; rfl)); intro gb148 hg w7 hbox hb; have n0_ := Aside0.mk (blk_below (g := gb147) (o := .cells #[.slice A00 (L0.length - 2) c00, .slice A01 R.length c01] 25 (0, 0)) (by (with_reducible repeat (first | refine blk_drewN ?_ _ | refine blk_drew ?_ | refine blk_alloc ?_ _)); exact BK147.out) hb); have n1_ := Aside0.mk (below_step (by repeat (first | (with_reducible first | exact HB.out | apply below_alloc | apply pw_below_drewN | apply below_drew1 | refine below_set ?_ GE147.out) | exact HB.out)) hb); have n2_ := Aside0.mk (hbox); have n3_ := Aside0.mk ((by rw [hg]; exact (below_size (by repeat (first | (with_reducible first | exact HB.out | apply below_alloc | apply pw_below_drewN | apply below_drew1 | refine below_set ?_ GE147.out) | exact HB.out))) : w.heap.size ≤ gb148)); have n4_ := Aside0.mk ((by rw [hg]; exact (below_size (by repeat (first | (with_reducible first | exact HB.out | apply below_alloc | apply pw_below_drewN | apply below_drew1 | refine below_set ?_ GE147.out) | exact HB.out))) : w.heap.size ≤ gb148)); have n5_ := Aside0.mk ((by rw [hg]; exact Nat.ne_of_lt (blk_lt (g := gb147) (o := .cells #[.slice A00 (L0.length - 2) c00, .slice A01 R.length c01] 25 (0, 0)) (by (with_reducible repeat (first | refine blk_drewN ?_ _ | refine blk_drew ?_ | refine blk_alloc ?_ _)); exact BK147.out)) : gb147 ≠ gb148)); have n6_ := Aside0.mk ((by rw [hg]; exact Nat.ne_of_gt (blk_lt (g := gb147) (o := .cells #[.slice A00 (L0.length - 2) c00, .slice A01 R.length c01] 25 (0, 0)) (by (with_reducible repeat (first | refine blk_drewN ?_ _ | refine blk_drew ?_ | refine blk_alloc ?_ _)); exact BK147.out)) : gb148 ≠ gb147)); clear BK147; clear HB; have BK147 := n0_; have HB := n1_; have BK148 := n2_; have GW148 := n3_; have GE148 := n4_; have NB147_148 := n5_; have NB148_147 := n6_; clear n0_ n1_ n2_ n3_ n4_ n5_ n6_; clear hb hbox hg; have hnb8 := NB147_148.out; have hnc8 := NB148_147.out; have hcz9_0 : w7.cell? ⟨gb147, 0, none⟩ = some (.slice A00 (L0.length - 2) c00) := (blk_cell BK147.out 0).trans rfl; have hcz9_1 : w7.cell? ⟨gb147, 1, none⟩ = some (.slice A01 R.length c01) := (blk_cell BK147.out 1).trans rfl; have hfz9_0 := blk_frozen BK147.out 0; have hfz9_1 := blk_frozen BK147.out 1; have hcz10_0 : w7.cell? ⟨gb148, 0, none⟩ = some (.slice A10 l0.length c10) := (blk_cell BK148.out 0).trans rfl; have hcz10_1 : w7.cell? ⟨gb148, 1, none⟩ = some (.slice A11 l1.length c11) := (blk_cell BK148.out 1).trans rfl; have hfz10_0 := blk_frozen BK148.out 0; have hfz10_1 := blk_frozen BK148.out 1) | (go_at_call 44; refine (intactNames_true A00 c00 L0 A10 c10 l0 _ ?side1 HC00.out ?side3 HC10.out HL0.out).mono ?_; (case side1 => repeat (first | exact (Kd.C_below HR00.out (by repeat (first | (with_reducible first | exact HB.out | apply below_alloc | apply pw_below_drewN | apply below_drew1 | refine below_set ?_ GE147.out | refine below_set ?_ GE148.out) | exact HB.out))) | (with_reducible refine Kd.C_alloc ?_ _) | (with_reducible refine Kd.C_drewN ?_ _) | (with_reducible refine Kd.C_drew ?_))); (case side3 => repeat (first | exact (Kd.C_below HR10.out (by repeat (first | (with_reducible first | exact HB.out | apply below_alloc | apply pw_below_drewN | apply below_drew1 | refine below_set ?_ GE147.out | refine below_set ?_ GE148.out) | exact HB.out))) | (with_reducible refine Kd.C_alloc ?_ _) | (with_reducible refine Kd.C_drewN ?_ _) | (with_reducible refine Kd.C_drew ?_))); rintro e w' ⟨rfl, ⟨nd, rfl⟩⟩) | (go_at_call 45; refine (sameRows_cut A01 c01 R A11 c11 l1 _ ?side1 HC01.out ?side3 HC11.out HR0.out).mono ?_; (case side1 => repeat (first | exact (Kd.C_below HR01.out (by repeat (first | (with_reducible first | exact HB.out | apply below_alloc | apply pw_below_drewN | apply below_drew1 | refine below_set ?_ GE147.out | refine below_set ?_ GE148.out) | exact HB.out))) | (with_reducible refine Kd.C_alloc ?_ _) | (with_reducible refine Kd.C_drewN ?_ _) | (with_reducible refine Kd.C_drew ?_))); (case side3 => repeat (first | exact (Kd.C_below HR11.out (by repeat (first | (with_reducible first | exact HB.out | apply below_alloc | apply pw_below_drewN | apply below_drew1 | refine below_set ?_ GE147.out | refine below_set ?_ GE148.out) | exact HB.out))) | (with_reducible refine Kd.C_alloc ?_ _) | (with_reducible refine Kd.C_drewN ?_ _) | (with_reducible refine Kd.C_drew ?_))); rintro e w' ⟨rfl, ⟨nd, rfl⟩⟩))
  go_loopg [7] l1.length (fun kq v7 w' => ∃ (i : Nat), v7 = .int .i64 (i : Int) ∧ i + kq = l1.length ∧ Aside0 (w'.heap[gb147]? = some (.cells #[(.slice A00 (L0.length - 2) c00), (.slice A01 R.length c01)] 25 (0, 0))) ∧ Aside0 (w'.heap[gb148]? = some (.cells #[(.slice A10 l0.length c10), (.slice A11 l1.length c11)] 25 (0, 0))) ∧ Aside0 (Below w.heap.size w w'))
  case atStart => exact ⟨0, rfl, by omega, ⟨by (with_reducible repeat (first | refine blk_drewN ?_ _ | refine blk_drew ?_ | refine blk_alloc ?_ _)); exact BK147.out⟩, ⟨by (with_reducible repeat (first | refine blk_drewN ?_ _ | refine blk_drew ?_ | refine blk_alloc ?_ _)); exact BK148.out⟩, ⟨by repeat (first | (with_reducible first | exact HB.out | apply below_alloc | apply pw_below_drewN | apply below_drew1 | refine below_set ?_ GE147.out | refine below_set ?_ GE148.out) | exact HB.out)⟩⟩
  case round =>
    obtain ⟨i, rfl, hik, BK147, BK148, HB⟩ := hrel
    have hnb19 := NB148_147.out
    have hnc19 := NB147_148.out
    have hcz20_0 : wr.cell? ⟨gb148, 0, none⟩ = some (.slice A10 l0.length c10) := (blk_cell BK148.out 0).trans rfl
    have hcz20_1 : wr.cell? ⟨gb148, 1, none⟩ = some (.slice A11 l1.length c11) := (blk_cell BK148.out 1).trans rfl
    have hfz20_0 := blk_frozen BK148.out 0
    have hfz20_1 := blk_frozen BK148.out 1
    have hcz21_0 : wr.cell? ⟨gb147, 0, none⟩ = some (.slice A00 (L0.length - 2) c00) := (blk_cell BK147.out 0).trans rfl
    have hcz21_1 : wr.cell? ⟨gb147, 1, none⟩ = some (.slice A01 R.length c01) := (blk_cell BK147.out 1).trans rfl
    have hfz21_0 := blk_frozen BK147.out 0
    have hfz21_1 := blk_frozen BK147.out 1
    cases gk with
    | zero =>
      have hd : decide ((i : Int) < (l1.length : Int)) = false := decide_eq_false (by omega)
      go_wp2
      repeat (go_quiet (fail); try go_wp2)
      go_ret
      exact ⟨rfl, by repeat (first | (with_reducible first | exact HB.out | apply below_alloc | apply pw_below_drewN | apply below_drew1 | refine below_set ?_ GE147.out | refine below_set ?_ GE148.out) | exact HB.out)⟩
    | succ g =>
      have hd : decide ((i : Int) < (l1.length : Int)) = true := decide_eq_true (by omega)
      have hi : i < l1.length := by omega
      obtain ⟨ad, A, c, e1, hx, h2, hl, hC⟩ := at_cut2 HR01.out (i : Int) (by omega) (by have := HLEN.out; omega)
      obtain ⟨bd, A', c', e2, hy, hl', hC'⟩ := at_L4 HR11.out (i : Int) (by omega) (by omega)
      have hRi : rd_L4 R (i : Int) = withC (rd_L4 l1 (i : Int)) := by rw [HR0.out.1, rd_map l1 i hi]
      rw [hRi] at hx h2 hl hC
      obtain ⟨r, hr⟩ : ∃ r, rd_L4 l1 (i : Int) = r := ⟨_, rfl⟩
      rw [hr] at hx h2 hl hC hy hl' hC'
      have hlw : (withC r).length = r.length + 2 := by simp [withC]
      rw [hlw] at hx hl hC
      obtain ⟨cd, e3, ha0, ha1⟩ := at_T52 hC (r.length : Int) (by omega) (by omega)
      obtain ⟨cd', e4, hb0, hb1⟩ := at_T52 hC ((r.length + 1 : Nat) : Int) (by omega) (by omega)
      rw [rc_app0] at ha0 ha1
      rw [rc_app1] at hb0 hb1
      cases e1
      cases e2
      cases e3
      cases e4
      have hup := HB.out
      replace hx := (hup.cell (World.block_lt_of_cell? w _ hx)).trans hx
      replace hy := (hup.cell (World.block_lt_of_cell? w _ hy)).trans hy
      replace ha0 := (hup.cell (World.block_lt_of_cell? w _ ha0)).trans ha0
      replace ha1 := (hup.cell (World.block_lt_of_cell? w _ ha1)).trans ha1
      replace hb0 := (hup.cell (World.block_lt_of_cell? w _ hb0)).trans hb0
      replace hb1 := (hup.cell (World.block_lt_of_cell? w _ hb1)).trans hb1
      have hgl0 := (Pure.Gl.below HG.out hup).c0
      have hgl1 := (Pure.Gl.below HG.out hup).c1
      rw [Int.toNat_natCast] at hx hy ha0 ha1 hb0 hb1
      rw [show r.length + 2 - 2 = r.length by omega] at hx
      have hmx : r.length + 2 ≤ 9223372036854775807 := hC.2.1
      clear hC hC' hup h2 hRi hlw hr
      have q0 : ((i : Int) < (R.length : Int)) = True := eq_true (by have := HLEN.out; omega)
      have q1 : ((i : Int) < (l1.length : Int)) = True := eq_true (by omega)
      have q2 : ((r.length : Int) + 2 ≤ (c : Int)) = True := eq_true (by omega)
      have q3 : ((r.length : Int) < (r.length : Int) + 2) = True := eq_true (by omega)
      have q4 : ((r.length : Int) + 1 < (r.length : Int) + 2) = True := eq_true (by omega)
      have q5 : (0 ≤ (r.length : Int) + 1) = True := eq_true (by omega)
      have q6 : ((r.length : Int) + 1).toNat = r.length + 1 := by omega
      have hw2 : IntKind.i64.wrap ((r.length : Int) + 2) = (r.length : Int) + 2 := by rw [i64_w]; unfold wrap64; omega
      have hw1 : IntKind.i64.wrap ((r.length : Int) + 1) = (r.length : Int) + 1 := by rw [i64_w]; unfold wrap64; omega
      go_wp2
      go_quiet (fail)
      try go_wp2
      go_quiet (fail)
      try go_wp2
      go_roundg g
      case measure => omega
      case rel => exact ⟨i + 1, by rw [w64n i (by have := HR0.out.2.1; omega)], by omega, ⟨by (with_reducible repeat (first | refine blk_drewN ?_ _ | refine blk_drew ?_ | refine blk_alloc ?_ _)); exact BK147.out⟩, ⟨by (with_reducible repeat (first | refine blk_drewN ?_ _ | refine blk_drew ?_ | refine blk_alloc ?_ _)); exact BK148.out⟩, ⟨by repeat (first | (with_reducible first | exact HB.out | apply below_alloc | apply pw_below_drewN | apply below_drew1 | refine below_set ?_ GE147.out | refine below_set ?_ GE148.out) | exact HB.out)⟩⟩
end Go.Proofs.YtppojbafagneeaaDoor.PTab
