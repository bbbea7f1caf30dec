/- Own text, for this claim: ownNames, own, after the text that the kit's printer writes. -/
import Derived.Test.YtppojbafagneeaaDoorZTabKd
import Derived.WalkMore
import Derived.Deep.DeepMust
import Derived.Outline
import Derived.Deep.RegionWith
namespace Go.Proofs.YtppojbafagneeaaDoor.PTab
open Go.RowKit Go.Proofs.YtppojbafagneeaaDoorW.PrintWords Go.Proofs.YtppojbafagneeaaDoorW.PrintLast Go.Proofs.YtppojbafagneeaaDoorW.PrintMore
attribute [local go_sem] max2_int min2_int max_two min_two max_three min_three max_four min_four
set_option linter.unusedVariables false
set_option linter.unusedSimpArgs false
attribute [local go_sem] nil22 nil23
def payofflaw05_ownNames.f (nil_ : Bool) (l0 : List ByteArray) : Option (List ByteArray) := if nil_ = true then (some ([] : List ByteArray)) else (if 0 ≤ 17592186044416 then ((some (List.replicate 0 (⟨#[]⟩ : ByteArray) : List ByteArray)).bind fun y101 => (if y101.length + l0.length < 8796093022208 then ((some (y101 ++ l0 : List ByteArray)).bind fun y104 => ((some (([(⟨#[66, 101, 104, 105, 110, 100]⟩ : ByteArray), (⟨#[66, 101, 104, 105, 110, 100]⟩ : ByteArray)] : List ByteArray) : List ByteArray)).bind fun y107 => (if y104.length + y107.length < 8796093022208 then (some (y104 ++ y107)) else (none)))) else (none))) else (none))
set_option maxHeartbeats 8000000 in
set_option maxRecDepth 100000 in
theorem payofflaw05_ownNames.calls (A0 : Option Addr) (c0 : Nat) (l0 : List ByteArray) (r : List ByteArray) (w : World) (hr0 : Kd.C Kd.string w A0 l0.length l0) (hc0 : l0.length ≤ c0) (h : payofflaw05_ownNames.f A0.isNone l0 = some r) :
  Calls Tryd.prog 40 #[.slice A0 l0.length c0] w fun e w' => ∃ (A_ : Option Addr) (c_ : Nat), e = .returned (.slice A_ (r.length - 2) c_) ∧ Kd.R Kd.string 9 w' w.heap.size (fun _ => True) (.slice A_ r.length c_) r ∧ Below w.heap.size w w' := by
 have HR0 := yA hr0
 have HC0 := yA hc0
 clear hr0 hc0
 have HB := yA (Below.refl w.heap.size w)
 have H : (if A0.isNone = true then (some ([] : List ByteArray)) else (if 0 ≤ 17592186044416 then ((some (List.replicate 0 (⟨#[]⟩ : ByteArray) : List ByteArray)).bind fun y101 => (if y101.length + l0.length < 8796093022208 then ((some (y101 ++ l0 : List ByteArray)).bind fun y104 => ((some (([(⟨#[66, 101, 104, 105, 110, 100]⟩ : ByteArray), (⟨#[66, 101, 104, 105, 110, 100]⟩ : ByteArray)] : List ByteArray) : List ByteArray)).bind fun y107 => (if y104.length + y107.length < 8796093022208 then (some (y104 ++ y107)) else (none)))) else (none))) else (none))) = some r := h
 clear h
 by_cases c2 : A0.isNone = true
 ·rw [if_pos c2] at H
  have c2b0 : A0.isNone = true := c2
  clear c2
  obtain rfl := Option.some.inj H
  go_enter Tryd.func40, Tryd.ntmps40
  go_wp2
  go_ret
  exact ⟨_, _, by first | rfl | (simp [errW_none, errW_some] <;> rfl) | (simp [*, errW_none, errW_some] <;> rfl), by first | exact Kd.R_nil _ _ _ _ _ | exact Kd.N_nil _ _ _ _ _ | exact Kd.V_nil _ _ _ _ _ | exact Kd.Q_nil _ _ _ _ _ | exact Kd.S_nil _ _ _ _ _, by repeat (first | exact HB.out | apply yE | apply yD)⟩
 ·rw [if_neg c2] at H
  have c2b0 : A0.isNone = false := Bool.eq_false_iff.mpr c2
  clear c2
  by_cases c3 : 0 ≤ 17592186044416
  ·rw [if_pos c3] at H
   have c3b0 := eq_true c3
   have c3b1 : decide (0 ≤ 17592186044416) = true := yL c3
   clear c3
   obtain ⟨y101, hy101⟩ : ∃ y_ : List ByteArray, y_ = (List.replicate 0 (⟨#[]⟩ : ByteArray)) := ⟨_, rfl⟩
   replace H : (if y101.length + l0.length < 8796093022208 then ((some (y101 ++ l0 : List ByteArray)).bind fun y104 => ((some (([(⟨#[66, 101, 104, 105, 110, 100]⟩ : ByteArray), (⟨#[66, 101, 104, 105, 110, 100]⟩ : ByteArray)] : List ByteArray) : List ByteArray)).bind fun y107 => (if y104.length + y107.length < 8796093022208 then (some (y104 ++ y107)) else (none)))) else (none)) = some r := by first | (rw [hy101]; with_reducible exact H) | (have H2_ := (Option.bind_some _ _).symm.trans H; rw [hy101]; with_reducible exact H2_) | (have H2_ := (Option.bind_some _ _).symm.trans H; with_reducible exact H2_) | with_reducible exact H | (rw [hy101]; exact H) | exact H
   have Ny101 := yA hy101
   clear hy101
   by_cases c4 : y101.length + l0.length < 8796093022208
   ·rw [if_pos c4] at H
    have LMc4 := yA c4
    clear c4
    obtain ⟨y104, hy104⟩ : ∃ y_ : List ByteArray, y_ = (y101 ++ l0) := ⟨_, rfl⟩
    replace H : ((some (([(⟨#[66, 101, 104, 105, 110, 100]⟩ : ByteArray), (⟨#[66, 101, 104, 105, 110, 100]⟩ : ByteArray)] : List ByteArray) : List ByteArray)).bind fun y107 => (if y104.length + y107.length < 8796093022208 then (some (y104 ++ y107)) else (none))) = some r := by first | (rw [hy104]; with_reducible exact H) | (have H2_ := (Option.bind_some _ _).symm.trans H; rw [hy104]; with_reducible exact H2_) | (have H2_ := (Option.bind_some _ _).symm.trans H; with_reducible exact H2_) | with_reducible exact H | (rw [hy104]; exact H) | exact H
    have Ny104 := yA hy104
    clear hy104
    obtain ⟨y107, hy107⟩ : ∃ y_ : List ByteArray, y_ = (([(⟨#[66, 101, 104, 105, 110, 100]⟩ : ByteArray), (⟨#[66, 101, 104, 105, 110, 100]⟩ : ByteArray)] : List ByteArray)) := ⟨_, rfl⟩
    replace H : (if y104.length + y107.length < 8796093022208 then (some (y104 ++ y107)) else (none)) = some r := by first | (rw [hy107]; with_reducible exact H) | (have H2_ := (Option.bind_some _ _).symm.trans H; rw [hy107]; with_reducible exact H2_) | (have H2_ := (Option.bind_some _ _).symm.trans H; with_reducible exact H2_) | with_reducible exact H | (rw [hy107]; exact H) | exact H
    have Ny107 := yA hy107
    clear hy107
    by_cases c5 : y104.length + y107.length < 8796093022208
    ·rw [if_pos c5] at H
     have LMc5 := yA c5
     clear c5
     obtain ⟨y110, hy110⟩ : ∃ y_ : List ByteArray, y_ = (y104 ++ y107) := ⟨_, rfl⟩
     replace H : (some y110) = some r := by first | (rw [hy110]; with_reducible exact H) | (have H2_ := (Option.bind_some _ _).symm.trans H; rw [hy110]; with_reducible exact H2_) | (have H2_ := (Option.bind_some _ _).symm.trans H; with_reducible exact H2_) | with_reducible exact H | (rw [hy110]; exact H) | exact H
     have Ny110 := yA hy110
     clear hy110
     obtain rfl := Option.some.inj H
     have hlen2 : l0.length + 2 = y110.length := by rw [Ny110.out, Ny107.out, Ny104.out, Ny101.out]; simp
     have hlen1 : l0.length + 2 < 8796093022208 := by rw [hlen2, Ny110.out, List.length_append]; exact LMc5.out
     have hlen3 : y110.length - 2 = l0.length := by omega
     rw [hlen3]
     have hlen2 := yA hlen2
     clear hlen3
     go_enter Tryd.func40, Tryd.ntmps40
     go_wp2_with (first | ((with_reducible refine yP (N := 9) rfl ?_); refine R_makec Kd.string _ 9 rfl (N := 9) rfl 22 _ _ rfl ((l0.length : Int) + 2) rfl rfl Tryd.underlying22 (.string ⟨#[]⟩) 16 info9 rfl (by decide) (by omega) (⟨#[]⟩ : ByteArray) (ok := fun _ => True) trivial (by omega) (by omega) (Below.refl _ _) (Nat.le_refl _) ?_; intro v102 w6 ho7 hb hg_ hnew_; clear hg_ hnew_; (first | rw [← Ny101.out] at ho7 | (simp only [Int.reduceToNat] at ho7; rw [← Ny101.out] at ho7)); have n0_ := yA (Kd.R_lower ho7 (below_size (by repeat (first | exact HB.out | apply yE | apply yD)))); have n1_ := yA (yB (by repeat (first | exact HB.out | apply yE | apply yD)) hb); clear HB; have HO103 := n0_; have HB := n1_; clear n0_ n1_; clear hb ho7) | ((with_reducible refine gate_builtin (b := .append) (xs := #[.tmp 10, .tmp 11]) rfl ?_); at_builtin; refine Kd.R_append_rows Kd.string (w0 := w) w.heap.size rfl (.tmp 10) (.tmp 11) 22 9 (.string ⟨#[]⟩) 16 rfl Tryd.underlying22 info9 rfl (by decide) (by omega) v102 y101 l0 _ _ _ (fun _ => True) (fun _ => False) rfl rfl ?aO ?aR (fun _ _ h => h) (fun _ h => h.elim) ?aF ?aB ?aS ?aL ?_; (case aR => repeat (first | exact (Kd.C_below HR0.out HB.out) | (with_reducible refine Kd.C_alloc ?_ _) | (with_reducible refine Kd.C_drewN ?_ _) | (with_reducible refine Kd.C_drew ?_))); (case aB => exact (by repeat (first | exact HB.out | apply yE | apply yD))); (case aF => exact (fun _ _ => trivial)); (case aO => exact (by first | exact HO103.out | exact Kd.R_drew HO103.out | exact Kd.R_alloc HO103.out _)); (case aS => exact (below_size (by repeat (first | exact HB.out | apply yE | apply yD)))); (case aL => have := LMc4.out; omega); intro v105 w8 ho hb hg hat; rw [← Ny104.out] at ho; have n0_ := yA (hb); have n1_ := yA (ho); clear HB; clear HO103; have HB := n0_; have HO106 := n1_; clear n0_ n1_; clear ho hb hg hat) | ((with_reducible refine yP (N := 14) rfl ?_); refine Kd.R_lit Kd.string _ 9 ?hg (N := 14) ?hd (xs := ([(⟨#[66, 101, 104, 105, 110, 100]⟩ : ByteArray), (⟨#[66, 101, 104, 105, 110, 100]⟩ : ByteArray)] : List ByteArray)) (inner := [.string (⟨#[66, 101, 104, 105, 110, 100]⟩ : ByteArray), .string (⟨#[66, 101, 104, 105, 110, 100]⟩ : ByteArray)]) (ok := fun _ => True) (okp := fun _ => True) ?hr ?hp (fun _ hk => hk) trivial (Below.refl _ _) (Nat.le_refl _) (by simp) ?_; (case hd => rfl); (case hg => rfl); (case hr => first | (go_simp; done) | (go_simp; rfl)); (case hp => exact (Reps.one (show Kd.M Kd.string _ _ _ (⟨#[66, 101, 104, 105, 110, 100]⟩ : ByteArray) [.string (⟨#[66, 101, 104, 105, 110, 100]⟩ : ByteArray)] from rfl) (Reps.one (show Kd.M Kd.string _ _ _ (⟨#[66, 101, 104, 105, 110, 100]⟩ : ByteArray) [.string (⟨#[66, 101, 104, 105, 110, 100]⟩ : ByteArray)] from rfl) (Reps.none _ _)))); intro v108 w9 ho10 hb hg_ hnew_; clear hg_ hnew_; (first | rw [← Ny107.out] at ho10 | (simp only [Int.reduceToNat] at ho10; rw [← Ny107.out] at ho10)); have n0_ := yA (Kd.R_elder' (by first | exact HO106.out | exact Kd.R_drew HO106.out | exact Kd.R_alloc HO106.out _) (Kd.R_base ho10) hb); have n1_ := yA (Kd.R_lower (Kd.R_new' ho10 (Kd.R_lt (by first | exact HO106.out | exact Kd.R_drew HO106.out | exact Kd.R_alloc HO106.out _))) (below_size (by repeat (first | exact HB.out | apply yE | apply yD)))); have n2_ := yA (yB (by repeat (first | exact HB.out | apply yE | apply yD)) hb); clear HO106; clear HB; have HO106 := n0_; have HO109 := n1_; have HB := n2_; clear n0_ n1_ n2_; clear hb ho10; obtain ⟨Ao12, co12, eo12⟩ := Kd.R_slice HO109.out; subst eo12) | ((with_reducible refine gate_builtin (b := .append) (xs := #[.tmp 13, .tmp 14]) rfl ?_); at_builtin; refine Kd.R_append_rows Kd.string (w0 := w) w.heap.size rfl (.tmp 13) (.tmp 14) 22 9 (.string ⟨#[]⟩) 16 rfl Tryd.underlying22 info9 rfl (by decide) (by omega) v105 y104 y107 _ _ _ (fun k_ => some k_ ≠ (.slice Ao12 y107.length co12 : Value).ownBlock) (fun _ => False) rfl rfl ?aO ?aR (fun _ _ h => h) (fun _ h => h.elim) ?aF ?aB ?aS ?aL ?_; (case aR => repeat (first | exact (Kd.R_reads' HO109.out).2.2 | (with_reducible refine Kd.C_alloc ?_ _) | (with_reducible refine Kd.C_drewN ?_ _) | (with_reducible refine Kd.C_drew ?_))); (case aB => exact (by repeat (first | exact HB.out | apply yE | apply yD))); (case aF => exact (fun k_ hk => Kd.fresh' (Kd.R_lt (by first | exact HO109.out | exact Kd.R_drew HO109.out | exact Kd.R_alloc HO109.out _)) k_ hk)); (case aO => exact (by (with_reducible repeat (first | apply Kd.R_alloc | apply Kd.R_drewN | apply Kd.R_drew)); exact Kd.R_mono HO106.out (fun _ hk => hk.2))); (case aS => exact (below_size (by repeat (first | exact HB.out | apply yE | apply yD)))); (case aL => have := LMc5.out; omega); intro v111 w11 ho hb hg hat; rw [← Ny110.out] at ho; have n0_ := yA (Kd.R_after (ok := (fun _ => True)) (by first | exact HO109.out | exact Kd.R_drew HO109.out | exact Kd.R_alloc HO109.out _) hg hat); have n1_ := yA (hb); have n2_ := yA (ho); clear HO109; clear HB; clear HO106; have HO109 := n0_; have HB := n1_; have HO112 := n2_; clear n0_ n1_ n2_; clear ho hb hg hat; obtain ⟨Ao13, co13, eo13⟩ := Kd.R_slice HO112.out; subst eo13; have hcut1 := own_cut HO112.out hlen2))
     go_ret
     exact ⟨_, _, by first | rfl | (simp [errW_none, errW_some] <;> rfl) | (simp [*, errW_none, errW_some] <;> rfl), by (with_reducible repeat (first | apply Kd.R_alloc | apply Kd.R_drewN | apply Kd.R_drew)); exact Kd.R_mono HO112.out (fun _ hk => trivial), by repeat (first | exact HB.out | apply yE | apply yD)⟩
    ·rw [if_neg c5] at H
     exact absurd H (by simp)
   ·rw [if_neg c4] at H
    exact absurd H (by simp)
  ·rw [if_neg c3] at H
   exact absurd H (by simp)
def payofflaw05_own.l0 : Nat → Int → List ByteArray → List (List (S52)) → List ByteArray → List (List (S52)) → Option (List ByteArray × (List (List (S52))))
 | 0, _, _, _, _, _ => none
 | k + 1, x4, x114000, x114001, x119000, x119001 => if x4 < (x114001.length : Int) then (if 0 ≤ x4 then (if 0 ≤ 17592186044416 then ((some (List.replicate 0 z52 : List (S52))).bind fun y123 => (if y123.length + (rd_L4 x114001 x4).length < 8796093022208 then ((some (y123 ++ (rd_L4 x114001 x4) : List (S52))).bind fun y127 => ((some (([(⟨true, (-77177)⟩ : S52), (⟨true, (-77177)⟩ : S52)] : List (S52)) : List (S52))).bind fun y130 => (if y127.length + y130.length < 8796093022208 then (if x119001.length < 5864062014805 then (payofflaw05_own.l0 k (wrap64 (x4 + 1)) x114000 x114001 x119000 (x119001 ++ [(y127 ++ y130)])) else (none)) else (none)))) else (none))) else (none)) else (none)) else (some (x119000, x119001))
def payofflaw05_own.f (k : Nat) (n0_ n1_ : Bool) (l0_0 : List ByteArray) (l0_1 : List (List (S52))) : Option (List ByteArray × (List (List (S52)))) := (payofflaw05_ownNames.f n0_ l0_0).bind fun t115 => (if n1_ = true then (some (t115, ([] : List (List (S52))))) else (if l0_1.length < 5864062014804 then (payofflaw05_own.l0 k 0 l0_0 l0_1 t115 (List.replicate 0 [])) else (none)))
def payofflaw05_own.T11 : Bool × List (List Nat × List Nat) := (true, [([], []), ([0], [0]), ([], []), ([], []), ([3], [3]), ([], []), ([4, 5], [4, 5]), ([6], [6]), ([7], [7]), ([2, 8], [2, 8]), ([9], [9]), ([1, 10], [1, 10]), ([0, 1, 2, 3, 4, 5, 6, 7, 8, 9, 10, 11], []), ([12, 11, 11, 0, 1, 2, 3, 4, 5, 6, 7, 8, 9, 10, 11], [11, 12])])
def payofflaw05_own.B11 : List Nat := [0, 1, 0, 0, 8, 0, 56, 120, 248, 508, 1020, 2047, 4095, 8191]
theorem payofflaw05_own.tab11 : rtab .any (opsOf Tryd.f16 11) = payofflaw05_own.T11 := by kernel_rfl
theorem payofflaw05_own.bits11 : waitsOk payofflaw05_own.T11.2 payofflaw05_own.B11 = true := by kernel_rfl
set_option maxHeartbeats 8000000 in
set_option maxRecDepth 100000 in
theorem payofflaw05_own.calls (k : Nat) (A0_0 : Option Addr) (c0_0 : Nat) (l0_0 : List ByteArray) (A0_1 : Option Addr) (c0_1 : Nat) (l0_1 : List (List (S52))) (r1 : List ByteArray) (r2 : List (List (S52))) (w : World) (hr0_0 : Kd.C Kd.string w A0_0 l0_0.length l0_0) (hc0_0 : l0_0.length ≤ c0_0) (hr0_1 : Kd.C (Kd.slice 52 k52) w A0_1 l0_1.length l0_1) (hc0_1 : l0_1.length ≤ c0_1) (h : payofflaw05_own.f k A0_0.isNone A0_1.isNone l0_0 l0_1 = some (r1, r2)) (hG : Pure.Gl w) :
  Calls Tryd.prog 16 #[.agg #[.slice A0_0 l0_0.length c0_0, .slice A0_1 l0_1.length c0_1]] w fun e w' => ∃ (A_ : Option Addr) (c_ : Nat) (v1_ : Value), e = .returned (.agg #[.slice A_ (r1.length - 2) c_, v1_]) ∧ Kd.R Kd.string 9 w' w.heap.size (fun _ => True) (.slice A_ r1.length c_) r1 ∧ Kd.S (cut2 52 k52) 54 w' w.heap.size (fun _ => True) v1_ r2 ∧ Below w.heap.size w w' := by
 have hu25 := Tryd.underlying25
 have hu52 := Tryd.underlying52
 have HG := yA hG
 clear hG
 have HR0_0 := yA hr0_0
 have HC0_0 := yA hc0_0
 clear hr0_0 hc0_0
 have HR0_1 := yA hr0_1
 have HC0_1 := yA hc0_1
 clear hr0_1 hc0_1
 have HB := yA (Below.refl w.heap.size w)
 have H : ((payofflaw05_ownNames.f A0_0.isNone l0_0).bind fun t115 => (if A0_1.isNone = true then (some (t115, ([] : List (List (S52))))) else (if l0_1.length < 5864062014804 then (payofflaw05_own.l0 k 0 l0_0 l0_1 t115 (List.replicate 0 [])) else (none)))) = some (r1, r2) := h
 clear h
 replace H := Option.bind_eq_some_iff.mp H
 obtain ⟨t115, A20, H⟩ := H
 replace H : (if A0_1.isNone = true then (some (t115, ([] : List (List (S52))))) else (if l0_1.length < 5864062014804 then (payofflaw05_own.l0 k 0 l0_0 l0_1 t115 (List.replicate 0 [])) else (none))) = some (r1, r2) := H
 have A2 := yA A20
 clear A20
 by_cases c3 : A0_1.isNone = true
 ·rw [if_pos c3] at H
  have c3b0 : A0_1.isNone = true := c3
  clear c3
  simp only [Option.some.injEq, Prod.mk.injEq] at H
  obtain ⟨rfl, rfl⟩ := H
  go_enter Tryd.func16, Tryd.ntmps16
  go_wp2_with (first | ((with_reducible refine yP (N := 1) rfl ?_); refine yQ ?hg (N := 1) ?hd (cs := #[.slice A0_0 l0_0.length c0_0, .slice A0_1 l0_1.length c0_1]) (t := 25) ?hr ?_; (case hd => rfl); (case hg => rfl); (case hr => first | (go_simp; done) | (go_simp; rfl)); intro gb113 hg w4 hbox hb; have n0_ := yA (yB (by repeat (first | exact HB.out | apply yE | apply yD)) hb); have n1_ := yA (hbox); have n2_ := yA ((by rw [hg]; exact (below_size (by repeat (first | exact HB.out | apply yE | apply yD))) : w.heap.size ≤ gb113)); have n3_ := yA ((by rw [hg]; exact (below_size (by repeat (first | exact HB.out | apply yE | apply yD))) : w.heap.size ≤ gb113)); clear HB; have HB := n0_; have BK113 := n1_; have GW113 := n2_; have GE113 := n3_; clear n0_ n1_ n2_ n3_; clear hb hbox hg) | ((with_reducible refine yP (N := 2) rfl ?_); refine yQ ?hg (N := 2) ?hd (cs := #[.slice none 0 0, .slice none 0 0]) (t := 25) ?hr ?_; (case hd => rfl); (case hg => rfl); (case hr => first | (go_simp; done) | (go_simp; rfl)); intro gb114 hg w5 hbox hb; have n0_ := yA (yC (g := gb113) (o := .cells #[.slice A0_0 l0_0.length c0_0, .slice A0_1 l0_1.length c0_1] 25 (0, 0)) (by first | exact BK113.out | exact yI BK113.out _) hb); have n1_ := yA (yB (by repeat (first | exact HB.out | apply yE | apply yD)) hb); have n2_ := yA (hbox); have n3_ := yA ((by rw [hg]; exact (below_size (by repeat (first | exact HB.out | apply yE | apply yD))) : w.heap.size ≤ gb114)); have n4_ := yA ((by rw [hg]; exact (below_size (by repeat (first | exact HB.out | apply yE | apply yD))) : w.heap.size ≤ gb114)); have n5_ := yA ((by rw [hg]; exact Nat.ne_of_lt (blk_lt (g := gb113) (o := .cells #[.slice A0_0 l0_0.length c0_0, .slice A0_1 l0_1.length c0_1] 25 (0, 0)) (by first | exact BK113.out | exact yI BK113.out _)) : gb113 ≠ gb114)); have n6_ := yA ((by rw [hg]; exact Nat.ne_of_gt (blk_lt (g := gb113) (o := .cells #[.slice A0_0 l0_0.length c0_0, .slice A0_1 l0_1.length c0_1] 25 (0, 0)) (by first | exact BK113.out | exact yI BK113.out _)) : gb114 ≠ gb113)); clear BK113; clear HB; have BK113 := n0_; have HB := n1_; have BK114 := n2_; have GW114 := n3_; have GE114 := n4_; have NB113_114 := n5_; have NB114_113 := n6_; clear n0_ n1_ n2_ n3_ n4_ n5_ n6_; clear hb hbox hg; have hnb6 := NB113_114.out; have hnc6 := NB114_113.out; have hcz7_0 : w5.cell? ⟨gb113, 0, none⟩ = some (.slice A0_0 l0_0.length c0_0) := (yR BK113.out 0).trans rfl; have hcz7_1 : w5.cell? ⟨gb113, 1, none⟩ = some (.slice A0_1 l0_1.length c0_1) := (yR BK113.out 1).trans rfl; have hfz7_0 := yS BK113.out 0; have hfz7_1 := yS BK113.out 1) | ((with_reducible refine yO (f := 40) rfl ?_); refine goesL_ (some 8) rfl rfl Tryd.func40 (by kernel_rfl) rfl #[.slice A0_0 l0_0.length c0_0] rfl (by (try simp only [List.map_toArray, List.map_cons, List.map_nil]); first | done | rfl | (simp only [List.length_drop, List.length_take]; rfl)) ?_; (with_reducible refine (payofflaw05_ownNames.calls _ _ l0_0 t115 _ ?side1 ?side2 A2.out).mono ?_); (case side1 => repeat (first | exact (Kd.C_below HR0_0.out HB.out) | (with_reducible refine Kd.C_alloc ?_ _) | (with_reducible refine Kd.C_drewN ?_ _) | (with_reducible refine Kd.C_drew ?_))); (case side2 => exact HC0_0.out); rintro e w8 ⟨Ao9, co9, rfl, ho0, hb⟩; refine ⟨_, rfl, ?_⟩; have n0_ := yA (Kd.R_lower ho0 (below_size (by repeat (first | exact HB.out | apply yE | apply yD | refine yJ ?_ GE114.out)))); have n1_ := yA (yC (g := gb113) (o := .cells #[.slice A0_0 l0_0.length c0_0, .slice A0_1 l0_1.length c0_1] 25 (0, 0)) (by first | exact BK113.out | exact yI BK113.out _) hb); have n2_ := yA (yC (g := gb114) (o := .cells #[.slice none 0 0, .slice none 0 0] 25 (0, 0)) (by first | exact BK114.out | exact yI BK114.out _) hb); have n3_ := yA (yB (by repeat (first | exact HB.out | apply yE | apply yD | refine yJ ?_ GE114.out)) hb); clear BK113; clear BK114; clear HB; have HO117 := n0_; have BK113 := n1_; have BK114 := n2_; have HB := n3_; clear n0_ n1_ n2_ n3_; (try clear hb); (try clear hb2); (try clear hk); (try clear hi); (try clear ho0)) | ((with_reducible refine yP (N := 3) rfl ?_); refine yQ ?hg (N := 3) ?hd (cs := #[.slice none 0 0, .slice none 0 0]) (t := 25) ?hr ?_; (case hd => rfl); (case hg => rfl); (case hr => first | (go_simp; done) | (go_simp; rfl)); intro gb118 hg w10 hbox hb; have n0_ := yA (Kd.R_below (by first | exact HO117.out | exact Kd.R_drew HO117.out | exact Kd.R_alloc HO117.out _) hb); have n1_ := yA (yC (g := gb113) (o := .cells #[.slice A0_0 l0_0.length c0_0, .slice A0_1 l0_1.length c0_1] 25 (0, 0)) (by first | exact BK113.out | exact yI BK113.out _) hb); have n2_ := yA (yC (g := gb114) (o := .cells #[.slice none 0 0, .slice none 0 0] 25 (0, 0)) (by first | exact BK114.out | exact yI BK114.out _) hb); have n3_ := yA (yB (by repeat (first | exact HB.out | apply yE | apply yD | refine yJ ?_ GE114.out)) hb); have n4_ := yA (hbox); have n5_ := yA ((by rw [hg]; exact (below_size (by repeat (first | exact HB.out | apply yE | apply yD | refine yJ ?_ GE114.out))) : w.heap.size ≤ gb118)); have n6_ := yA ((by rw [hg]; exact (below_size (by repeat (first | exact HB.out | apply yE | apply yD | refine yJ ?_ GE114.out))) : w.heap.size ≤ gb118)); have n7_ := yA ((by rw [hg]; exact Nat.ne_of_lt (blk_lt (g := gb113) (o := .cells #[.slice A0_0 l0_0.length c0_0, .slice A0_1 l0_1.length c0_1] 25 (0, 0)) (by first | exact BK113.out | exact yI BK113.out _)) : gb113 ≠ gb118)); have n8_ := yA ((by rw [hg]; exact Nat.ne_of_gt (blk_lt (g := gb113) (o := .cells #[.slice A0_0 l0_0.length c0_0, .slice A0_1 l0_1.length c0_1] 25 (0, 0)) (by first | exact BK113.out | exact yI BK113.out _)) : gb118 ≠ gb113)); have n9_ := yA ((by rw [hg]; exact Nat.ne_of_lt (blk_lt (g := gb114) (o := .cells #[.slice none 0 0, .slice none 0 0] 25 (0, 0)) (by first | exact BK114.out | exact yI BK114.out _)) : gb114 ≠ gb118)); have n10_ := yA ((by rw [hg]; exact Nat.ne_of_gt (blk_lt (g := gb114) (o := .cells #[.slice none 0 0, .slice none 0 0] 25 (0, 0)) (by first | exact BK114.out | exact yI BK114.out _)) : gb118 ≠ gb114)); clear HO117; clear BK113; clear BK114; clear HB; have HO117 := n0_; have BK113 := n1_; have BK114 := n2_; have HB := n3_; have BK118 := n4_; have GW118 := n5_; have GE118 := n6_; have NB113_118 := n7_; have NB118_113 := n8_; have NB114_118 := n9_; have NB118_114 := n10_; clear n0_ n1_ n2_ n3_ n4_ n5_ n6_ n7_ n8_ n9_ n10_; clear hb hbox hg; have hnb11 := NB118_113.out; have hnc11 := NB113_118.out; have hnb12 := NB118_114.out; have hnc12 := NB114_118.out; have hcz13_0 : w10.cell? ⟨gb118, 0, none⟩ = some (.slice none 0 0) := (yR BK118.out 0).trans rfl; have hcz13_1 : w10.cell? ⟨gb118, 1, none⟩ = some (.slice none 0 0) := (yR BK118.out 1).trans rfl; have hfz13_0 := yS BK118.out 0; have hfz13_1 := yS BK118.out 1; have hcz14_0 : w10.cell? ⟨gb113, 0, none⟩ = some (.slice A0_0 l0_0.length c0_0) := (yR BK113.out 0).trans rfl; have hcz14_1 : w10.cell? ⟨gb113, 1, none⟩ = some (.slice A0_1 l0_1.length c0_1) := (yR BK113.out 1).trans rfl; have hfz14_0 := yS BK113.out 0; have hfz14_1 := yS BK113.out 1; have hcz15_0 : w10.cell? ⟨gb114, 0, none⟩ = some (.slice none 0 0) := (yR BK114.out 0).trans rfl; have hcz15_1 : w10.cell? ⟨gb114, 1, none⟩ = some (.slice none 0 0) := (yR BK114.out 1).trans rfl; have hfz15_0 := yS BK114.out 0; have hfz15_1 := yS BK114.out 1))
  refine bodyPost_ret (results_cell_row rfl _ _ gb114 25 #[.slice Ao9 (t115.length - 2) co9, .slice none 0 0] (0, 0) _ rfl (by (with_reducible repeat (first | refine yG ?_ _ | refine yH ?_ | refine yI ?_ _)); refine blk_put (cs := #[.slice Ao9 (t115.length - 2) co9, .slice none 0 0]) ?_ 1 _ rfl; (with_reducible repeat (first | refine yG ?_ _ | refine yH ?_ | refine yI ?_ _)); refine blk_put (cs := #[.slice none 0 0, .slice none 0 0]) ?_ 0 _ rfl; (with_reducible repeat (first | refine yG ?_ _ | refine yH ?_ | refine yI ?_ _)); refine blk_far ?_ NB114_118.out _; (with_reducible repeat (first | refine yG ?_ _ | refine yH ?_ | refine yI ?_ _)); refine blk_far ?_ NB114_118.out _; (with_reducible repeat (first | refine yG ?_ _ | refine yH ?_ | refine yI ?_ _)); exact BK114.out) Tryd.underlying25 rfl (by kernel_rfl)) rfl ?_
  exact ⟨_, _, _, by first | rfl | (simp [errW_none, errW_some] <;> rfl) | (simp [*, errW_none, errW_some] <;> rfl), by (with_reducible repeat (first | apply Kd.R_alloc | apply Kd.R_drewN | apply Kd.R_drew)); exact Kd.R_mono (Kd.R_far (p := ⟨gb114, 1, none⟩) (Kd.R_far (p := ⟨gb114, 0, none⟩) (Kd.R_far (p := ⟨gb118, 1, none⟩) (Kd.R_far (p := ⟨gb118, 0, none⟩) (Kd.R_types (Kd.R_types HO117.out BK118.out (by decide)) BK114.out (by decide)) (fun _ hk => hk.1.2) (.slice Ao9 (t115.length - 2) co9)) (fun _ hk => hk.1.2) (.slice none 0 0)) (fun _ hk => hk.2) (.slice Ao9 (t115.length - 2) co9)) (fun _ hk => hk.2) (.slice none 0 0)) (fun _ hk => trivial), by first | exact Kd.S_nil _ _ _ _ _ | exact Kd.N_nil _ _ _ _ _ | exact Kd.V_nil _ _ _ _ _ | exact Kd.Q_nil _ _ _ _ _ | exact Kd.R_nil _ _ _ _ _, by repeat (first | exact HB.out | apply yE | apply yD | refine yJ ?_ GE114.out | refine yJ ?_ GE118.out)⟩
 ·rw [if_neg c3] at H
  have c3b0 : A0_1.isNone = false := Bool.eq_false_iff.mpr c3
  clear c3
  by_cases c16 : l0_1.length < 5864062014804
  ·rw [if_pos c16] at H
   have c16a := c16
   clear c16
   obtain ⟨y119, hy119⟩ : ∃ y_ : List (List (S52)), y_ = (List.replicate 0 []) := ⟨_, rfl⟩
   replace H : (payofflaw05_own.l0 k 0 l0_0 l0_1 t115 y119) = some (r1, r2) := by first | (rw [hy119]; with_reducible exact H) | (have H2_ := (Option.bind_some _ _).symm.trans H; rw [hy119]; with_reducible exact H2_) | (have H2_ := (Option.bind_some _ _).symm.trans H; with_reducible exact H2_) | with_reducible exact H | (rw [hy119]; exact H) | exact H
   have Ny119 := yA hy119
   clear hy119
   have H' := yA H
   clear H
   go_enter Tryd.func16, Tryd.ntmps16
   go_wp2_with (first | ((with_reducible refine yP (N := 1) rfl ?_); refine yQ ?hg (N := 1) ?hd (cs := #[.slice A0_0 l0_0.length c0_0, .slice A0_1 l0_1.length c0_1]) (t := 25) ?hr ?_; (case hd => rfl); (case hg => rfl); (case hr => first | (go_simp; done) | (go_simp; rfl)); intro gb113 hg w17 hbox hb; have n0_ := yA (yB (by repeat (first | exact HB.out | apply yE | apply yD)) hb); have n1_ := yA (hbox); have n2_ := yA ((by rw [hg]; exact (below_size (by repeat (first | exact HB.out | apply yE | apply yD))) : w.heap.size ≤ gb113)); have n3_ := yA ((by rw [hg]; exact (below_size (by repeat (first | exact HB.out | apply yE | apply yD))) : w.heap.size ≤ gb113)); clear HB; have HB := n0_; have BK113 := n1_; have GW113 := n2_; have GE113 := n3_; clear n0_ n1_ n2_ n3_; clear hb hbox hg) | ((with_reducible refine yP (N := 2) rfl ?_); refine yQ ?hg (N := 2) ?hd (cs := #[.slice none 0 0, .slice none 0 0]) (t := 25) ?hr ?_; (case hd => rfl); (case hg => rfl); (case hr => first | (go_simp; done) | (go_simp; rfl)); intro gb114 hg w18 hbox hb; have n0_ := yA (yC (g := gb113) (o := .cells #[.slice A0_0 l0_0.length c0_0, .slice A0_1 l0_1.length c0_1] 25 (0, 0)) (by first | exact BK113.out | exact yI BK113.out _) hb); have n1_ := yA (yB (by repeat (first | exact HB.out | apply yE | apply yD)) hb); have n2_ := yA (hbox); have n3_ := yA ((by rw [hg]; exact (below_size (by repeat (first | exact HB.out | apply yE | apply yD))) : w.heap.size ≤ gb114)); have n4_ := yA ((by rw [hg]; exact (below_size (by repeat (first | exact HB.out | apply yE | apply yD))) : w.heap.size ≤ gb114)); have n5_ := yA ((by rw [hg]; exact Nat.ne_of_lt (blk_lt (g := gb113) (o := .cells #[.slice A0_0 l0_0.length c0_0, .slice A0_1 l0_1.length c0_1] 25 (0, 0)) (by first | exact BK113.out | exact yI BK113.out _)) : gb113 ≠ gb114)); have n6_ := yA ((by rw [hg]; exact Nat.ne_of_gt (blk_lt (g := gb113) (o := .cells #[.slice A0_0 l0_0.length c0_0, .slice A0_1 l0_1.length c0_1] 25 (0, 0)) (by first | exact BK113.out | exact yI BK113.out _)) : gb114 ≠ gb113)); clear BK113; clear HB; have BK113 := n0_; have HB := n1_; have BK114 := n2_; have GW114 := n3_; have GE114 := n4_; have NB113_114 := n5_; have NB114_113 := n6_; clear n0_ n1_ n2_ n3_ n4_ n5_ n6_; clear hb hbox hg; have hnb19 := NB113_114.out; have hnc19 := NB114_113.out; have hcz20_0 : w18.cell? ⟨gb113, 0, none⟩ = some (.slice A0_0 l0_0.length c0_0) := (yR BK113.out 0).trans rfl; have hcz20_1 : w18.cell? ⟨gb113, 1, none⟩ = some (.slice A0_1 l0_1.length c0_1) := (yR BK113.out 1).trans rfl; have hfz20_0 := yS BK113.out 0; have hfz20_1 := yS BK113.out 1) | ((with_reducible refine yO (f := 40) rfl ?_); refine goesL_ (some 8) rfl rfl Tryd.func40 (by kernel_rfl) rfl #[.slice A0_0 l0_0.length c0_0] rfl (by (try simp only [List.map_toArray, List.map_cons, List.map_nil]); first | done | rfl | (simp only [List.length_drop, List.length_take]; rfl)) ?_; (with_reducible refine (payofflaw05_ownNames.calls _ _ l0_0 t115 _ ?side1 ?side2 A2.out).mono ?_); (case side1 => repeat (first | exact (Kd.C_below HR0_0.out HB.out) | (with_reducible refine Kd.C_alloc ?_ _) | (with_reducible refine Kd.C_drewN ?_ _) | (with_reducible refine Kd.C_drew ?_))); (case side2 => exact HC0_0.out); rintro e w21 ⟨Ao22, co22, rfl, ho0, hb⟩; refine ⟨_, rfl, ?_⟩; have n0_ := yA (Kd.R_lower ho0 (below_size (by repeat (first | exact HB.out | apply yE | apply yD | refine yJ ?_ GE114.out)))); have n1_ := yA (yC (g := gb113) (o := .cells #[.slice A0_0 l0_0.length c0_0, .slice A0_1 l0_1.length c0_1] 25 (0, 0)) (by first | exact BK113.out | exact yI BK113.out _) hb); have n2_ := yA (yC (g := gb114) (o := .cells #[.slice none 0 0, .slice none 0 0] 25 (0, 0)) (by first | exact BK114.out | exact yI BK114.out _) hb); have n3_ := yA (yB (by repeat (first | exact HB.out | apply yE | apply yD | refine yJ ?_ GE114.out)) hb); clear BK113; clear BK114; clear HB; have HO117 := n0_; have BK113 := n1_; have BK114 := n2_; have HB := n3_; clear n0_ n1_ n2_ n3_; (try clear hb); (try clear hb2); (try clear hk); (try clear hi); (try clear ho0)) | ((with_reducible refine yP (N := 3) rfl ?_); refine yQ ?hg (N := 3) ?hd (cs := #[.slice none 0 0, .slice none 0 0]) (t := 25) ?hr ?_; (case hd => rfl); (case hg => rfl); (case hr => first | (go_simp; done) | (go_simp; rfl)); intro gb118 hg w23 hbox hb; have n0_ := yA (Kd.R_below (by first | exact HO117.out | exact Kd.R_drew HO117.out | exact Kd.R_alloc HO117.out _) hb); have n1_ := yA (yC (g := gb113) (o := .cells #[.slice A0_0 l0_0.length c0_0, .slice A0_1 l0_1.length c0_1] 25 (0, 0)) (by first | exact BK113.out | exact yI BK113.out _) hb); have n2_ := yA (yC (g := gb114) (o := .cells #[.slice none 0 0, .slice none 0 0] 25 (0, 0)) (by first | exact BK114.out | exact yI BK114.out _) hb); have n3_ := yA (yB (by repeat (first | exact HB.out | apply yE | apply yD | refine yJ ?_ GE114.out)) hb); have n4_ := yA (hbox); have n5_ := yA ((by rw [hg]; exact (below_size (by repeat (first | exact HB.out | apply yE | apply yD | refine yJ ?_ GE114.out))) : w.heap.size ≤ gb118)); have n6_ := yA ((by rw [hg]; exact (below_size (by repeat (first | exact HB.out | apply yE | apply yD | refine yJ ?_ GE114.out))) : w.heap.size ≤ gb118)); have n7_ := yA ((by rw [hg]; exact Nat.ne_of_lt (blk_lt (g := gb113) (o := .cells #[.slice A0_0 l0_0.length c0_0, .slice A0_1 l0_1.length c0_1] 25 (0, 0)) (by first | exact BK113.out | exact yI BK113.out _)) : gb113 ≠ gb118)); have n8_ := yA ((by rw [hg]; exact Nat.ne_of_gt (blk_lt (g := gb113) (o := .cells #[.slice A0_0 l0_0.length c0_0, .slice A0_1 l0_1.length c0_1] 25 (0, 0)) (by first | exact BK113.out | exact yI BK113.out _)) : gb118 ≠ gb113)); have n9_ := yA ((by rw [hg]; exact Nat.ne_of_lt (blk_lt (g := gb114) (o := .cells #[.slice none 0 0, .slice none 0 0] 25 (0, 0)) (by first | exact BK114.out | exact yI BK114.out _)) : gb114 ≠ gb118)); have n10_ := yA ((by rw [hg]; exact Nat.ne_of_gt (blk_lt (g := gb114) (o := .cells #[.slice none 0 0, .slice none 0 0] 25 (0, 0)) (by first | exact BK114.out | exact yI BK114.out _)) : gb118 ≠ gb114)); clear HO117; clear BK113; clear BK114; clear HB; have HO117 := n0_; have BK113 := n1_; have BK114 := n2_; have HB := n3_; have BK118 := n4_; have GW118 := n5_; have GE118 := n6_; have NB113_118 := n7_; have NB118_113 := n8_; have NB114_118 := n9_; have NB118_114 := n10_; clear n0_ n1_ n2_ n3_ n4_ n5_ n6_ n7_ n8_ n9_ n10_; clear hb hbox hg; have hnb24 := NB118_113.out; have hnc24 := NB113_118.out; have hnb25 := NB118_114.out; have hnc25 := NB114_118.out; have hcz26_0 : w23.cell? ⟨gb118, 0, none⟩ = some (.slice none 0 0) := (yR BK118.out 0).trans rfl; have hcz26_1 : w23.cell? ⟨gb118, 1, none⟩ = some (.slice none 0 0) := (yR BK118.out 1).trans rfl; have hfz26_0 := yS BK118.out 0; have hfz26_1 := yS BK118.out 1; have hcz27_0 : w23.cell? ⟨gb113, 0, none⟩ = some (.slice A0_0 l0_0.length c0_0) := (yR BK113.out 0).trans rfl; have hcz27_1 : w23.cell? ⟨gb113, 1, none⟩ = some (.slice A0_1 l0_1.length c0_1) := (yR BK113.out 1).trans rfl; have hfz27_0 := yS BK113.out 0; have hfz27_1 := yS BK113.out 1) | ((with_reducible refine yP (N := 18) rfl ?_); refine S_makec (cut2 52 k52) _ 54 rfl (N := 18) rfl 23 _ _ rfl ((l0_1.length : Int) + 1) rfl rfl Tryd.underlying23 (.slice none 0 0) 24 info54 rfl (by decide) (by omega) [] (ok := fun _ => True) trivial (by omega) (by omega) (Below.refl _ _) (Nat.le_refl _) ?_; intro v120 w28 ho29 hb hg_ hnew_; clear hg_ hnew_; (first | rw [← Ny119.out] at ho29 | (simp only [Int.reduceToNat] at ho29; rw [← Ny119.out] at ho29)); have n0_ := yA (Kd.R_below (by (with_reducible repeat (first | apply Kd.R_alloc | apply Kd.R_drewN | apply Kd.R_drew)); exact (Kd.R_mono (Kd.R_far (p := ⟨gb118, 1, none⟩) (Kd.R_far (p := ⟨gb118, 0, none⟩) (Kd.R_types HO117.out BK118.out (by decide)) (fun _ hk => hk.2) (.slice Ao22 (t115.length - 2) co22)) (fun _ hk => hk.2) (.slice none 0 0)) (fun _ h_ => h_.1))) hb); have n1_ := yA (Kd.S_lower ho29 (below_size (by repeat (first | exact HB.out | apply yE | apply yD | refine yJ ?_ GE114.out | refine yJ ?_ GE118.out)))); have n2_ := yA (yC (g := gb113) (o := .cells #[.slice A0_0 l0_0.length c0_0, .slice A0_1 l0_1.length c0_1] 25 (0, 0)) (by (with_reducible repeat (first | refine yG ?_ _ | refine yH ?_ | refine yI ?_ _)); refine blk_far ?_ NB113_118.out _; (with_reducible repeat (first | refine yG ?_ _ | refine yH ?_ | refine yI ?_ _)); refine blk_far ?_ NB113_118.out _; (with_reducible repeat (first | refine yG ?_ _ | refine yH ?_ | refine yI ?_ _)); exact BK113.out) hb); have n3_ := yA (yC (g := gb114) (o := .cells #[.slice none 0 0, .slice none 0 0] 25 (0, 0)) (by (with_reducible repeat (first | refine yG ?_ _ | refine yH ?_ | refine yI ?_ _)); refine blk_far ?_ NB114_118.out _; (with_reducible repeat (first | refine yG ?_ _ | refine yH ?_ | refine yI ?_ _)); refine blk_far ?_ NB114_118.out _; (with_reducible repeat (first | refine yG ?_ _ | refine yH ?_ | refine yI ?_ _)); exact BK114.out) hb); have n4_ := yA (yC (g := gb118) (o := .cells #[.slice Ao22 (t115.length - 2) co22, .slice none 0 0] 25 (0, 0)) (by (with_reducible repeat (first | refine yG ?_ _ | refine yH ?_ | refine yI ?_ _)); refine blk_put (cs := #[.slice Ao22 (t115.length - 2) co22, .slice none 0 0]) ?_ 1 _ rfl; (with_reducible repeat (first | refine yG ?_ _ | refine yH ?_ | refine yI ?_ _)); refine blk_put (cs := #[.slice none 0 0, .slice none 0 0]) ?_ 0 _ rfl; (with_reducible repeat (first | refine yG ?_ _ | refine yH ?_ | refine yI ?_ _)); exact BK118.out) hb); have n5_ := yA (yB (by repeat (first | exact HB.out | apply yE | apply yD | refine yJ ?_ GE114.out | refine yJ ?_ GE118.out)) hb); clear HO117; clear BK113; clear BK114; clear BK118; clear HB; have HO117 := n0_; have HO121 := n1_; have BK113 := n2_; have BK114 := n3_; have BK118 := n4_; have HB := n5_; clear n0_ n1_ n2_ n3_ n4_ n5_; clear hb ho29; obtain ⟨Ao30, co30, eo30⟩ := Kd.S_slice HO121.out; subst eo30; have hcz31_0 : w28.cell? ⟨gb118, 0, none⟩ = some (.slice Ao22 (t115.length - 2) co22) := (yR BK118.out 0).trans rfl; have hcz31_1 : w28.cell? ⟨gb118, 1, none⟩ = some (.slice none 0 0) := (yR BK118.out 1).trans rfl; have hfz31_0 := yS BK118.out 0; have hfz31_1 := yS BK118.out 1))
   go_loopg [4] k (fun kq v4 w' => ∃ (x4_1 : Int) (x119001_1 : List (List (S52))) (u119001 : Value), v4 = .int .i64 x4_1 ∧ Aside0 (payofflaw05_own.l0 kq x4_1 l0_0 l0_1 t115 x119001_1 = some (r1, r2)) ∧ Aside0 (kq ≤ k) ∧ Aside0 (Kd.R Kd.string 9 w' w.heap.size (fun _ => True) (.slice Ao22 t115.length co22) t115) ∧ Aside0 (Kd.S (cut2 52 k52) 54 w' w.heap.size (fun _ => True) u119001 x119001_1) ∧ Aside0 (w'.heap[gb113]? = some (.cells #[(.slice A0_0 l0_0.length c0_0), (.slice A0_1 l0_1.length c0_1)] 25 (0, 0))) ∧ Aside0 (w'.heap[gb114]? = some (.cells #[(.slice none 0 0), (.slice none 0 0)] 25 (0, 0))) ∧ Aside0 (w'.heap[gb118]? = some (.cells #[(.slice Ao22 (t115.length - 2) co22), u119001] 25 (0, 0))) ∧ Aside0 (Below w.heap.size w w'))
   case atStart => exact ⟨(0), (y119), (.slice Ao30 y119.length co30), (by first | rfl | (simp; done) | (simp [*]; done)), H', ⟨Nat.le_refl _⟩, ⟨by (with_reducible repeat (first | apply Kd.R_alloc | apply Kd.R_drewN | apply Kd.R_drew)); exact Kd.R_mono (Kd.R_far (p := ⟨gb118, 1, none⟩) (Kd.R_types HO117.out BK118.out (by decide)) (fun _ hk => hk.2) (.slice Ao30 y119.length co30)) (fun _ hk => trivial)⟩, ⟨by (with_reducible repeat (first | apply Kd.S_alloc | apply Kd.S_drewN | apply Kd.S_drew)); exact Kd.S_mono (Kd.S_far (p := ⟨gb118, 1, none⟩) (Kd.S_types HO121.out BK118.out (by decide)) (fun _ hk => hk.2) (.slice Ao30 y119.length co30)) (fun _ hk => trivial)⟩, ⟨by (with_reducible repeat (first | refine yG ?_ _ | refine yH ?_ | refine yI ?_ _)); refine blk_far ?_ NB113_118.out _; (with_reducible repeat (first | refine yG ?_ _ | refine yH ?_ | refine yI ?_ _)); exact BK113.out⟩, ⟨by (with_reducible repeat (first | refine yG ?_ _ | refine yH ?_ | refine yI ?_ _)); refine blk_far ?_ NB114_118.out _; (with_reducible repeat (first | refine yG ?_ _ | refine yH ?_ | refine yI ?_ _)); exact BK114.out⟩, ⟨by (with_reducible repeat (first | refine yG ?_ _ | refine yH ?_ | refine yI ?_ _)); refine blk_put (cs := #[.slice Ao22 (t115.length - 2) co22, .slice none 0 0]) ?_ 1 _ rfl; (with_reducible repeat (first | refine yG ?_ _ | refine yH ?_ | refine yI ?_ _)); exact BK118.out⟩, ⟨by repeat (first | exact HB.out | apply yE | apply yD | refine yJ ?_ GE114.out | refine yJ ?_ GE118.out)⟩⟩
   case round =>
    clear H'
    try clear c1
    try clear c2
    try clear p2
    try clear c3
    try clear c3b0
    try clear c3b1
    try clear c4
    try clear c6
    try clear c11
    try clear c12
    try clear c16
    try clear c16b0
    try clear c16b1
    try clear c19
    try clear c24
    try clear c25
    try clear hcz13_0
    try clear hcz13_1
    try clear hcz14_0
    try clear hcz14_1
    try clear hcz15_0
    try clear hcz15_1
    try clear hcz20_0
    try clear hcz20_1
    try clear hcz26_0
    try clear hcz26_1
    try clear hcz27_0
    try clear hcz27_1
    try clear hcz31_0
    try clear hcz31_1
    try clear hcz7_0
    try clear hcz7_1
    try clear hfz13_0
    try clear hfz13_1
    try clear hfz14_0
    try clear hfz14_1
    try clear hfz15_0
    try clear hfz15_1
    try clear hfz20_0
    try clear hfz20_1
    try clear hfz26_0
    try clear hfz26_1
    try clear hfz27_0
    try clear hfz27_1
    try clear hfz31_0
    try clear hfz31_1
    try clear hfz7_0
    try clear hfz7_1
    obtain ⟨x4_1, x119001_1, u119001, rfl, HA, HK1, HO_119000, HO_119001, BK113, BK114, BK118, HB⟩ := hrel
    cases gk with
    | zero => exact absurd HA.out (by simp [payofflaw05_own.l0])
    | succ k1 =>
     have H := HA.out
     clear HA
     simp only [payofflaw05_own.l0] at H
     by_cases c32 : x4_1 < (l0_1.length : Int)
     ·rw [if_pos c32] at H
      have c32b0 : decide (x4_1 < (l0_1.length : Int)) = true := yL c32
      clear c32
      by_cases c33 : 0 ≤ x4_1
      ·rw [if_pos c33] at H
       have c33b0 : decide (0 ≤ x4_1) = true := yL c33
       clear c33
       by_cases c34 : 0 ≤ 17592186044416
       ·rw [if_pos c34] at H
        have c34b0 := eq_true c34
        have c34b1 : decide (0 ≤ 17592186044416) = true := yL c34
        clear c34
        obtain ⟨y123, hy123⟩ : ∃ y_ : List (S52), y_ = (List.replicate 0 z52) := ⟨_, rfl⟩
        replace H : (if y123.length + (rd_L4 l0_1 x4_1).length < 8796093022208 then ((some (y123 ++ (rd_L4 l0_1 x4_1) : List (S52))).bind fun y127 => ((some (([(⟨true, (-77177)⟩ : S52), (⟨true, (-77177)⟩ : S52)] : List (S52)) : List (S52))).bind fun y130 => (if y127.length + y130.length < 8796093022208 then (if x119001_1.length < 5864062014805 then (payofflaw05_own.l0 k1 (wrap64 (x4_1 + 1)) l0_0 l0_1 t115 (x119001_1 ++ [(y127 ++ y130)])) else (none)) else (none)))) else (none)) = some (r1, r2) := by first | (rw [hy123]; with_reducible exact H) | (have H2_ := (Option.bind_some _ _).symm.trans H; rw [hy123]; with_reducible exact H2_) | (have H2_ := (Option.bind_some _ _).symm.trans H; with_reducible exact H2_) | with_reducible exact H | (rw [hy123]; exact H) | exact H
        have Ny123 := yA hy123
        clear hy123
        by_cases c35 : y123.length + (rd_L4 l0_1 x4_1).length < 8796093022208
        ·rw [if_pos c35] at H
         have LMc35 := yA c35
         clear c35
         obtain ⟨y127, hy127⟩ : ∃ y_ : List (S52), y_ = (y123 ++ (rd_L4 l0_1 x4_1)) := ⟨_, rfl⟩
         replace H : ((some (([(⟨true, (-77177)⟩ : S52), (⟨true, (-77177)⟩ : S52)] : List (S52)) : List (S52))).bind fun y130 => (if y127.length + y130.length < 8796093022208 then (if x119001_1.length < 5864062014805 then (payofflaw05_own.l0 k1 (wrap64 (x4_1 + 1)) l0_0 l0_1 t115 (x119001_1 ++ [(y127 ++ y130)])) else (none)) else (none))) = some (r1, r2) := by first | (rw [hy127]; with_reducible exact H) | (have H2_ := (Option.bind_some _ _).symm.trans H; rw [hy127]; with_reducible exact H2_) | (have H2_ := (Option.bind_some _ _).symm.trans H; with_reducible exact H2_) | with_reducible exact H | (rw [hy127]; exact H) | exact H
         have Ny127 := yA hy127
         clear hy127
         obtain ⟨y130, hy130⟩ : ∃ y_ : List (S52), y_ = (([(⟨true, (-77177)⟩ : S52), (⟨true, (-77177)⟩ : S52)] : List (S52))) := ⟨_, rfl⟩
         replace H : (if y127.length + y130.length < 8796093022208 then (if x119001_1.length < 5864062014805 then (payofflaw05_own.l0 k1 (wrap64 (x4_1 + 1)) l0_0 l0_1 t115 (x119001_1 ++ [(y127 ++ y130)])) else (none)) else (none)) = some (r1, r2) := by first | (rw [hy130]; with_reducible exact H) | (have H2_ := (Option.bind_some _ _).symm.trans H; rw [hy130]; with_reducible exact H2_) | (have H2_ := (Option.bind_some _ _).symm.trans H; with_reducible exact H2_) | with_reducible exact H | (rw [hy130]; exact H) | exact H
         have Ny130 := yA hy130
         clear hy130
         by_cases c36 : y127.length + y130.length < 8796093022208
         ·rw [if_pos c36] at H
          have LMc36 := yA c36
          clear c36
          obtain ⟨y133, hy133⟩ : ∃ y_ : List (S52), y_ = (y127 ++ y130) := ⟨_, rfl⟩
          replace H : (if x119001_1.length < 5864062014805 then (payofflaw05_own.l0 k1 (wrap64 (x4_1 + 1)) l0_0 l0_1 t115 (x119001_1 ++ [y133])) else (none)) = some (r1, r2) := by first | (rw [hy133]; with_reducible exact H) | (have H2_ := (Option.bind_some _ _).symm.trans H; rw [hy133]; with_reducible exact H2_) | (have H2_ := (Option.bind_some _ _).symm.trans H; with_reducible exact H2_) | with_reducible exact H | (rw [hy133]; exact H) | exact H
          have Ny133 := yA hy133
          clear hy133
          by_cases c37 : x119001_1.length < 5864062014805
          ·rw [if_pos c37] at H
           have LMc37 := yA c37
           clear c37
           obtain ⟨y137, hy137⟩ : ∃ y_ : List (List (S52)), y_ = (x119001_1 ++ [y133]) := ⟨_, rfl⟩
           replace H : (payofflaw05_own.l0 k1 (wrap64 (x4_1 + 1)) l0_0 l0_1 t115 y137) = some (r1, r2) := by first | (rw [hy137]; with_reducible exact H) | (have H2_ := (Option.bind_some _ _).symm.trans H; rw [hy137]; with_reducible exact H2_) | (have H2_ := (Option.bind_some _ _).symm.trans H; with_reducible exact H2_) | with_reducible exact H | (rw [hy137]; exact H) | exact H
           have Ny137 := yA hy137
           clear hy137
           have H' := yA H
           clear H
           have hnb38 := NB113_114.out
           have hnc38 := NB114_113.out
           have hnb39 := NB113_118.out
           have hnc39 := NB118_113.out
           have hcz40_0 : wr.cell? ⟨gb113, 0, none⟩ = some (.slice A0_0 l0_0.length c0_0) := (yR BK113.out 0).trans rfl
           have hcz40_1 : wr.cell? ⟨gb113, 1, none⟩ = some (.slice A0_1 l0_1.length c0_1) := (yR BK113.out 1).trans rfl
           have hfz40_0 := yS BK113.out 0
           have hfz40_1 := yS BK113.out 1
           have p122 : 0 ≤ (x4_1 : Int) := yN (by first | (with_reducible assumption) | assumption)
           have q122 : x4_1 < (l0_1.length : Int) := yN (by first | (with_reducible assumption) | assumption)
           obtain ⟨ad122, A122_0, c122_0, e122, hx122_0, hl122_0, hi122_0⟩ := at_L4 HR0_1.out x4_1 p122 q122
           cases e122
           replace hx122_0 := (HB.out.cell (World.block_lt_of_cell? w _ hx122_0)).trans hx122_0
           have HR122_0 := yA hi122_0
           have HC122_0 := yA hl122_0
           clear hi122_0 hl122_0
           replace p122 := eq_true p122
           replace q122 := eq_true q122
           have hlen2 : (rd_L4 l0_1 x4_1).length + 2 = y133.length := by rw [Ny133.out, Ny130.out, Ny127.out, Ny123.out]; simp
           have hlen1 : (rd_L4 l0_1 x4_1).length + 2 < 8796093022208 := by rw [hlen2, Ny133.out, List.length_append]; exact LMc36.out
           have HLEN2 := yA hlen2
           clear hlen2
           try go_wp2_with (first | ((with_reducible refine yP (N := 34) rfl ?_); refine R_makec k52 _ 52 rfl (N := 34) rfl 54 _ _ rfl (((rd_L4 l0_1 x4_1).length : Int) + 2) rfl rfl Tryd.underlying54 (.agg #[(.bool false), (.int .i64 0)]) 16 info52 rfl (by decide) (by omega) z52 (ok := fun _ => True) trivial (by omega) (by omega) (Below.refl _ _) (Nat.le_refl _) ?_; intro v124 w41 ho42 hb hg_ hnew_; clear hg_ hnew_; (first | rw [← Ny123.out] at ho42 | (simp only [Int.reduceToNat] at ho42; rw [← Ny123.out] at ho42)); have n0_ := yA (Kd.R_below (by first | exact HO_119000.out | exact Kd.R_drew HO_119000.out | exact Kd.R_alloc HO_119000.out _) hb); have n1_ := yA (Kd.S_elder' (by first | exact HO_119001.out | exact Kd.S_drew HO_119001.out | exact Kd.S_alloc HO_119001.out _) (Kd.R_base ho42) hb); have n2_ := yA (Kd.R_lower ho42 (below_size (by repeat (first | exact HB.out | apply yE | apply yD | refine yJ ?_ GE114.out | refine yJ ?_ GE118.out)))); have n3_ := yA (yC (g := gb113) (o := .cells #[.slice A0_0 l0_0.length c0_0, .slice (some ad122) l0_1.length c0_1] 25 (0, 0)) (by first | exact BK113.out | exact yI BK113.out _) hb); have n4_ := yA (yC (g := gb114) (o := .cells #[.slice none 0 0, .slice none 0 0] 25 (0, 0)) (by first | exact BK114.out | exact yI BK114.out _) hb); have n5_ := yA (yC (g := gb118) (o := .cells #[.slice Ao22 (t115.length - 2) co22, u119001] 25 (0, 0)) (by first | exact BK118.out | exact yI BK118.out _) hb); have n6_ := yA (yB (by repeat (first | exact HB.out | apply yE | apply yD | refine yJ ?_ GE114.out | refine yJ ?_ GE118.out)) hb); clear HO_119000; clear HO_119001; clear BK113; clear BK114; clear BK118; clear HB; have HO_119000 := n0_; have HO_119001 := n1_; have HO125 := n2_; have BK113 := n3_; have BK114 := n4_; have BK118 := n5_; have HB := n6_; clear n0_ n1_ n2_ n3_ n4_ n5_ n6_; clear hb ho42; have hcz43_0 : w41.cell? ⟨gb113, 0, none⟩ = some (.slice A0_0 l0_0.length c0_0) := (yR BK113.out 0).trans rfl; have hcz43_1 : w41.cell? ⟨gb113, 1, none⟩ = some (.slice (some ad122) l0_1.length c0_1) := (yR BK113.out 1).trans rfl; have hfz43_0 := yS BK113.out 0; have hfz43_1 := yS BK113.out 1; have p126 : 0 ≤ (x4_1 : Int) := yN (by first | (with_reducible assumption) | assumption); have q126 : x4_1 < (l0_1.length : Int) := yN (by first | (with_reducible assumption) | assumption); obtain ⟨ad126, A126_0, c126_0, e126, hx126_0, hl126_0, hi126_0⟩ := at_L4 HR0_1.out x4_1 p126 q126; obtain rfl : ad122 = ad126 := (by injection e126); replace hx126_0 := (HB.out.cell (World.block_lt_of_cell? w _ hx126_0)).trans hx126_0; have HR126_0 := yA hi126_0; have HC126_0 := yA hl126_0; clear hi126_0 hl126_0; replace p126 := eq_true p126; replace q126 := eq_true q126) | ((with_reducible refine gate_builtin (b := .append) (xs := #[.tmp 35, .tmp 40]) rfl ?_); at_builtin; refine Kd.R_append_rows k52 (w0 := w) w.heap.size rfl (.tmp 35) (.tmp 40) 54 52 (.agg #[(.bool false), (.int .i64 0)]) 16 rfl Tryd.underlying54 info52 rfl (by decide) (by omega) v124 y123 (rd_L4 l0_1 x4_1) _ _ _ (fun _ => True) (fun _ => False) rfl rfl ?aO ?aR (fun _ _ h => h) (fun _ h => h.elim) ?aF ?aB ?aS ?aL ?_; (case aR => repeat (first | exact (Kd.C_below HR126_0.out HB.out) | (with_reducible refine Kd.C_alloc ?_ _) | (with_reducible refine Kd.C_drewN ?_ _) | (with_reducible refine Kd.C_drew ?_))); (case aB => exact (by repeat (first | exact HB.out | apply yE | apply yD | refine yJ ?_ GE114.out | refine yJ ?_ GE118.out))); (case aF => exact (fun _ _ => trivial)); (case aO => exact (by first | exact HO125.out | exact Kd.R_drew HO125.out | exact Kd.R_alloc HO125.out _)); (case aS => exact (below_size (by repeat (first | exact HB.out | apply yE | apply yD | refine yJ ?_ GE114.out | refine yJ ?_ GE118.out)))); (case aL => have := LMc35.out; omega); intro v128 w44 ho hb hg hat; rw [← Ny127.out] at ho; have n0_ := yA (Kd.R_over' (by first | exact HO_119000.out | exact Kd.R_drew HO_119000.out | exact Kd.R_alloc HO_119000.out _) (Kd.R_typed (by first | exact HO125.out | exact Kd.R_drew HO125.out | exact Kd.R_alloc HO125.out _)) (by decide) hg); have n1_ := yA (Kd.S_after (ok := (fun _ => True)) (by first | exact HO_119001.out | exact Kd.S_drew HO_119001.out | exact Kd.S_alloc HO_119001.out _) hg hat); have n2_ := yA (blk_grown (g := gb113) (o := .cells #[.slice A0_0 l0_0.length c0_0, .slice (some ad122) l0_1.length c0_1] 25 (0, 0)) (by first | exact BK113.out | exact yI BK113.out _) hg (Kd.R_ne HO125.out BK113.out (by decide))); have n3_ := yA (blk_grown (g := gb114) (o := .cells #[.slice none 0 0, .slice none 0 0] 25 (0, 0)) (by first | exact BK114.out | exact yI BK114.out _) hg (Kd.R_ne HO125.out BK114.out (by decide))); have n4_ := yA (blk_grown (g := gb118) (o := .cells #[.slice Ao22 (t115.length - 2) co22, u119001] 25 (0, 0)) (by first | exact BK118.out | exact yI BK118.out _) hg (Kd.R_ne HO125.out BK118.out (by decide))); have n5_ := yA (hb); have n6_ := yA (ho); clear HO_119000; clear HO_119001; clear BK113; clear BK114; clear BK118; clear HB; clear HO125; have HO_119000 := n0_; have HO_119001 := n1_; have BK113 := n2_; have BK114 := n3_; have BK118 := n4_; have HB := n5_; have HO129 := n6_; clear n0_ n1_ n2_ n3_ n4_ n5_ n6_; clear ho hb hg hat; have hgl0 := (Pure.Gl.below HG.out HB.out).c0; have hgl1 := (Pure.Gl.below HG.out HB.out).c1) | ((with_reducible refine yP (N := 45) rfl ?_); refine Kd.R_lit k52 _ 52 ?hg (N := 45) ?hd (xs := ([(⟨true, (-77177)⟩ : S52), (⟨true, (-77177)⟩ : S52)] : List (S52))) (inner := [.bool true, .int .i64 (-77177), .bool true, .int .i64 (-77177)]) (ok := fun _ => True) (okp := fun _ => True) ?hr ?hp (fun _ hk => hk) trivial (Below.refl _ _) (Nat.le_refl _) (by simp) ?_; (case hd => rfl); (case hg => rfl); (case hr => first | (go_simp; done) | (go_simp; rfl)); (case hp => exact (Reps.c2 (show Kd.M k52 _ _ _ (⟨true, (-77177)⟩ : S52) [.bool true, .int .i64 (-77177)] from (k52_mkM _ _ _ (⟨true, (-77177)⟩ : S52) )) (Reps.c2 (show Kd.M k52 _ _ _ (⟨true, (-77177)⟩ : S52) [.bool true, .int .i64 (-77177)] from (k52_mkM _ _ _ (⟨true, (-77177)⟩ : S52) )) (Reps.none _ _)))); intro v131 w45 ho46 hb hg_ hnew_; clear hg_ hnew_; (first | rw [← Ny130.out] at ho46 | (simp only [Int.reduceToNat] at ho46; rw [← Ny130.out] at ho46)); have n0_ := yA (Kd.R_below (by first | exact HO_119000.out | exact Kd.R_drew HO_119000.out | exact Kd.R_alloc HO_119000.out _) hb); have n1_ := yA (Kd.S_elder' (by first | exact HO_119001.out | exact Kd.S_drew HO_119001.out | exact Kd.S_alloc HO_119001.out _) (Kd.R_base ho46) hb); have n2_ := yA (Kd.R_elder' (by first | exact HO129.out | exact Kd.R_drew HO129.out | exact Kd.R_alloc HO129.out _) (Kd.R_base ho46) hb); have n3_ := yA (Kd.R_lower (Kd.R_new' ho46 (Kd.R_lt (by first | exact HO129.out | exact Kd.R_drew HO129.out | exact Kd.R_alloc HO129.out _))) (below_size (by repeat (first | exact HB.out | apply yE | apply yD | refine yJ ?_ GE114.out | refine yJ ?_ GE118.out)))); have n4_ := yA (yC (g := gb113) (o := .cells #[.slice A0_0 l0_0.length c0_0, .slice (some ad122) l0_1.length c0_1] 25 (0, 0)) (by first | exact BK113.out | exact yI BK113.out _) hb); have n5_ := yA (yC (g := gb114) (o := .cells #[.slice none 0 0, .slice none 0 0] 25 (0, 0)) (by first | exact BK114.out | exact yI BK114.out _) hb); have n6_ := yA (yC (g := gb118) (o := .cells #[.slice Ao22 (t115.length - 2) co22, u119001] 25 (0, 0)) (by first | exact BK118.out | exact yI BK118.out _) hb); have n7_ := yA (yB (by repeat (first | exact HB.out | apply yE | apply yD | refine yJ ?_ GE114.out | refine yJ ?_ GE118.out)) hb); clear HO_119000; clear HO_119001; clear HO129; clear BK113; clear BK114; clear BK118; clear HB; have HO_119000 := n0_; have HO_119001 := n1_; have HO129 := n2_; have HO132 := n3_; have BK113 := n4_; have BK114 := n5_; have BK118 := n6_; have HB := n7_; clear n0_ n1_ n2_ n3_ n4_ n5_ n6_ n7_; clear hb ho46; obtain ⟨Ao48, co48, eo48⟩ := Kd.R_slice HO132.out; subst eo48) | ((with_reducible refine gate_builtin (b := .append) (xs := #[.tmp 42, .tmp 45]) rfl ?_); at_builtin; refine Kd.R_append_rows k52 (w0 := w) w.heap.size rfl (.tmp 42) (.tmp 45) 54 52 (.agg #[(.bool false), (.int .i64 0)]) 16 rfl Tryd.underlying54 info52 rfl (by decide) (by omega) v128 y127 y130 _ _ _ (fun k_ => some k_ ≠ (.slice Ao48 y130.length co48 : Value).ownBlock) (fun _ => False) rfl rfl ?aO ?aR (fun _ _ h => h) (fun _ h => h.elim) ?aF ?aB ?aS ?aL ?_; (case aR => repeat (first | exact (Kd.R_reads' HO132.out).2.2 | (with_reducible refine Kd.C_alloc ?_ _) | (with_reducible refine Kd.C_drewN ?_ _) | (with_reducible refine Kd.C_drew ?_))); (case aB => exact (by repeat (first | exact HB.out | apply yE | apply yD | refine yJ ?_ GE114.out | refine yJ ?_ GE118.out))); (case aF => exact (fun k_ hk => Kd.fresh' (Kd.R_lt (by first | exact HO132.out | exact Kd.R_drew HO132.out | exact Kd.R_alloc HO132.out _)) k_ hk)); (case aO => exact (by (with_reducible repeat (first | apply Kd.R_alloc | apply Kd.R_drewN | apply Kd.R_drew)); exact Kd.R_mono HO129.out (fun _ hk => hk.2))); (case aS => exact (below_size (by repeat (first | exact HB.out | apply yE | apply yD | refine yJ ?_ GE114.out | refine yJ ?_ GE118.out)))); (case aL => have := LMc36.out; omega); intro v134 w47 ho hb hg hat; rw [← Ny133.out] at ho; have n0_ := yA (Kd.R_over' (by first | exact HO_119000.out | exact Kd.R_drew HO_119000.out | exact Kd.R_alloc HO_119000.out _) (Kd.R_typed (by first | exact HO129.out | exact Kd.R_drew HO129.out | exact Kd.R_alloc HO129.out _)) (by decide) hg); have n1_ := yA (Kd.S_after (ok := (fun k_ => some k_ ≠ (.slice Ao48 y130.length co48 : Value).ownBlock)) (by (with_reducible repeat (first | apply Kd.S_alloc | apply Kd.S_drewN | apply Kd.S_drew)); exact Kd.S_mono HO_119001.out (fun _ hk => ⟨hk.2, hk.1.2⟩)) hg hat); have n2_ := yA (blk_grown (g := gb113) (o := .cells #[.slice A0_0 l0_0.length c0_0, .slice (some ad122) l0_1.length c0_1] 25 (0, 0)) (by first | exact BK113.out | exact yI BK113.out _) hg (Kd.R_ne HO129.out BK113.out (by decide))); have n3_ := yA (blk_grown (g := gb114) (o := .cells #[.slice none 0 0, .slice none 0 0] 25 (0, 0)) (by first | exact BK114.out | exact yI BK114.out _) hg (Kd.R_ne HO129.out BK114.out (by decide))); have n4_ := yA (blk_grown (g := gb118) (o := .cells #[.slice Ao22 (t115.length - 2) co22, u119001] 25 (0, 0)) (by first | exact BK118.out | exact yI BK118.out _) hg (Kd.R_ne HO129.out BK118.out (by decide))); have n5_ := yA (Kd.R_after (ok := (fun _ => True)) (by first | exact HO132.out | exact Kd.R_drew HO132.out | exact Kd.R_alloc HO132.out _) hg hat); have n6_ := yA (hb); have n7_ := yA (ho); clear HO_119000; clear HO_119001; clear BK113; clear BK114; clear BK118; clear HO132; clear HB; clear HO129; have HO_119000 := n0_; have HO_119001 := n1_; have BK113 := n2_; have BK114 := n3_; have BK118 := n4_; have HO132 := n5_; have HB := n6_; have HO135 := n7_; clear n0_ n1_ n2_ n3_ n4_ n5_ n6_ n7_; clear ho hb hg hat))
           have n0_ := yA (Kd.R_drew HO_119000.out)
           have n1_ := yA (Kd.S_drew HO_119001.out)
           have n2_ := yA (Kd.R_drew HO132.out)
           have n3_ := yA (Kd.R_drew HO135.out)
           have n4_ := yA (yH BK113.out)
           have n5_ := yA (yH BK114.out)
           have n6_ := yA (yH BK118.out)
           have n7_ := yA (yD HB.out)
           clear HO_119000
           clear HO_119001
           clear HO132
           clear HO135
           clear BK113
           clear BK114
           clear BK118
           clear HB
           have HO_119000 := n0_
           have HO_119001 := n1_
           have HO132 := n2_
           have HO135 := n3_
           have BK113 := n4_
           have BK114 := n5_
           have BK118 := n6_
           have HB := n7_
           clear n0_ n1_ n2_ n3_ n4_ n5_ n6_ n7_
           have p136 : 0 ≤ (x4_1 : Int) := yN (by first | (with_reducible assumption) | assumption)
           have q136 : x4_1 < (l0_1.length : Int) := yN (by first | (with_reducible assumption) | assumption)
           obtain ⟨ad136, A136_0, c136_0, e136, hx136_0, hl136_0, hi136_0⟩ := at_L4 HR0_1.out x4_1 p136 q136
           have hw136_0 := hx136_0
           obtain rfl : ad122 = ad136 := (by injection e136)
           replace hx136_0 := (HB.out.cell (World.block_lt_of_cell? w _ hx136_0)).trans hx136_0
           have HR136_0 := yA hi136_0
           have HC136_0 := yA hl136_0
           clear hi136_0 hl136_0
           replace p136 := eq_true p136
           replace q136 := eq_true q136
           obtain ⟨Ao51, co51, eo51⟩ := Kd.R_slice HO135.out
           (first | subst eo51 | (injection eo51 with f1_ f2_ f3_; have f4_ := f1_.symm; have f5_ := f3_.symm; clear f1_ f2_ f3_; subst f4_; subst f5_))
           have hcutA := own_cut HO135.out HLEN2
           have hcutN : (rd_L4 l0_1 x4_1).length ≤ co51 := by simpa using hcutA
           refine start_ (n := 14) (S := fun w' => w'.cell? ⟨gb118, 0, none⟩ = some (.slice Ao22 (t115.length - 2) co22) ∧ w'.cell? ⟨gb118, 1, none⟩ = some (u119001) ∧ w'.cell? ⟨gb113, 0, none⟩ = some (.slice A0_0 l0_0.length c0_0) ∧ w'.cell? ⟨gb113, 1, none⟩ = some (.slice (some ad122) l0_1.length c0_1) ∧ w'.cell? (ad122.add (x4_1).toNat) = some (.slice A136_0 (rd_L4 l0_1 x4_1).length c136_0)) (ds := [13]) #[false, false, false, false, false, false, false, false, false, false, false, false, false, false] (by kernel_rfl) rfl rfl ⟨(yR BK118.out 0).trans rfl, (yR BK118.out 1).trans rfl, (yR BK113.out 0).trans rfl, (yR BK113.out 1).trans rfl, ((HB.out.cell (World.block_lt_of_cell? w _ hw136_0)).trans hw136_0)⟩ (fun hHeld => ?_); refine with_tabW payofflaw05_own.tab11 payofflaw05_own.bits11 (fun HT_ HW_ => ?_)
           generalize w47.drew = w49 at HO_119000 HO_119001 HO132 HO135 BK113 BK114 BK118 HB HR136_0 hx136_0 hHeld ⊢
           refine pure_ (i := 0) (N := some 47) (v := ?_) (a' := ?_) #[true, false, false, false, false, false, false, false, false, false, false, false, false, false] rfl rfl (any_of HT_.out (by kernel_rfl)) (fun _ _ _ h => h) (Or.inl ⟨by rfl, ?_⟩) ?_ ?_
           rotate_left
           ·intro w'
            go_simp
            with_reducible rfl
           rotate_left
           ·simp only [Act.put, lA, lB, lC, i64_w, i32_w]
            rfl
           refine pure_ (i := 2) (N := some 49) (v := ?_) (a' := ?_) #[true, false, true, false, false, false, false, false, false, false, false, false, false, false] rfl rfl (any_of HT_.out (by kernel_rfl)) (fun _ _ _ h => h) (Or.inl ⟨by rfl, ?_⟩) ?_ ?_
           rotate_left
           ·intro w'
            go_simp
            with_reducible rfl
           rotate_left
           ·simp only [Act.put, lA, lB, lC, i64_w, i32_w]
            rfl
           refine pure_ (i := 3) (N := some 50) (v := ?_) (a' := ?_) #[true, false, true, true, false, false, false, false, false, false, false, false, false, false] rfl rfl (any_of HT_.out (by kernel_rfl)) (fun _ _ _ h => h) (Or.inl ⟨by rfl, ?_⟩) ?_ ?_
           rotate_left
           ·intro w'
            go_simp
            with_reducible rfl
           rotate_left
           ·simp only [Act.put, lA, lB, lC, i64_w, i32_w]
            rfl
           refine pure_ (i := 5) (N := some 52) (v := ?_) (a' := ?_) #[true, false, true, true, false, true, false, false, false, false, false, false, false, false] rfl rfl (any_of HT_.out (by kernel_rfl)) (fun _ _ _ h => h) (Or.inl ⟨by rfl, ?_⟩) ?_ ?_
           rotate_left
           ·intro w'
            go_simp
            with_reducible rfl
           rotate_left
           ·simp only [Act.put, lA, lB, lC, i64_w, i32_w]
            rfl
           refine take_ (i := 1) (N := some 48) (v := ?_) (a' := ?_) #[true, true, true, true, false, true, false, false, false, false, false, false, false, false] rfl rfl (take_ofW HT_.out HW_.out (by kernel_rfl)) (fun _ _ _ h => h) (Or.inl ⟨by rfl, ?_⟩) hHeld ?_ ?_
           rotate_left
           ·rintro w' ⟨s0, s1, s2, s3, s4⟩
            go_simp
            with_reducible rfl
           rotate_left
           ·simp only [Act.put, lA, lB, lC, i64_w, i32_w]
            rfl
           refine take_ (i := 4) (N := some 51) (v := ?_) (a' := ?_) #[true, true, true, true, true, true, false, false, false, false, false, false, false, false] rfl rfl (take_ofW HT_.out HW_.out (by kernel_rfl)) (fun _ _ _ h => h) (Or.inl ⟨by rfl, ?_⟩) hHeld ?_ ?_
           rotate_left
           ·rintro w' ⟨s0, s1, s2, s3, s4⟩
            go_simp
            with_reducible rfl
           rotate_left
           ·simp only [Act.put, lA, lB, lC, i64_w, i32_w]
            rfl
           refine pure_ (i := 6) (N := some 53) (v := ?_) (a' := ?_) #[true, true, true, true, true, true, true, false, false, false, false, false, false, false] rfl rfl (any_of HT_.out (by kernel_rfl)) (fun _ _ _ h => h) (Or.inl ⟨by rfl, ?_⟩) ?_ ?_
           rotate_left
           ·intro w'
            go_simp
            with_reducible rfl
           rotate_left
           ·simp only [Act.put, lA, lB, lC, i64_w, i32_w]
            rfl
           refine take_ (i := 7) (N := some 54) (v := ?_) (a' := ?_) #[true, true, true, true, true, true, true, true, false, false, false, false, false, false] rfl rfl (take_ofW HT_.out HW_.out (by kernel_rfl)) (fun _ _ _ h => h) (Or.inl ⟨by rfl, ?_⟩) hHeld ?_ ?_
           rotate_left
           ·rintro w' ⟨s0, s1, s2, s3, s4⟩
            go_simp
            with_reducible rfl
           rotate_left
           ·simp only [Act.put, lA, lB, lC, i64_w, i32_w]
            rfl
           refine pure_ (i := 8) (N := some 55) (v := ?_) (a' := ?_) #[true, true, true, true, true, true, true, true, true, false, false, false, false, false] rfl rfl (any_of HT_.out (by kernel_rfl)) (fun _ _ _ h => h) (Or.inl ⟨by rfl, ?_⟩) ?_ ?_
           rotate_left
           ·intro w'
            go_simp
            with_reducible rfl
           rotate_left
           ·simp only [Act.put, lA, lB, lC, i64_w, i32_w]
            rfl
           refine pure_ (i := 9) (N := some 56) (v := ?_) (a' := ?_) #[true, true, true, true, true, true, true, true, true, true, false, false, false, false] rfl rfl (any_of HT_.out (by kernel_rfl)) (fun _ _ _ h => h) (Or.inl ⟨by rfl, ?_⟩) ?_ ?_
           rotate_left
           ·intro w'
            go_simp
            (try rw [if_pos hcutN])
            with_reducible rfl
           rotate_left
           ·simp only [Act.put, lA, lB, lC, i64_w, i32_w]
            rfl
           refine one_ (i := 10) (N := some 57) #[true, true, true, true, true, true, true, true, true, true, true, false, false, false] rfl rfl (one_of HT_.out (by kernel_rfl)) (by decide) (fun K hK => ?_)
           refine value_ (w1 := ?_) (v := ?_) (by rfl) rfl ?_ ?_
           rotate_left 2
           ·go_simp
            constructor
            ·rfl
            ·rfl
           refine hK.out _ _ ⟨(yR (yI BK118.out _) 0).trans rfl, (yR (yI BK118.out _) 1).trans rfl, (yR (yI BK113.out _) 0).trans rfl, (yR (yI BK113.out _) 1).trans rfl, (World.cell?_alloc_lt _ _ _ (World.block_lt_of_cell? _ _ (((HB.out.cell (World.block_lt_of_cell? w _ hw136_0)).trans hw136_0)))).trans (((HB.out.cell (World.block_lt_of_cell? w _ hw136_0)).trans hw136_0))⟩ (fun hHeld => ?_)
           clear hK K
           refine norm_ (a' := ?_) ?_ ?_
           rotate_left
           ·show Act.put _ (some 57) _ = _
            simp only [Act.put, lA, lB, lC, i64_w, i32_w]
            rfl
           refine one_ (i := 11) (N := some 58) #[true, true, true, true, true, true, true, true, true, true, true, true, false, false] rfl rfl (one_of HT_.out (by kernel_rfl)) (by decide) (fun K hK => ?_)
           refine Kd.S_append_step (cut2 52 k52) (w0 := w) w.heap.size (by rfl) (.tmp 48) (.tmp 57) 23 54 (.slice none 0 0) 24 rfl Tryd.underlying23 info54 rfl (by decide) (by omega) u119001 x119001_1 y133 [.slice Ao51 (rd_L4 l0_1 x4_1).length co51] (fun k_ => some k_ ≠ (.slice Ao48 y130.length co48 : Value).ownBlock) (fun k_ => some k_ = (.slice Ao51 y133.length co51 : Value).ownBlock) rfl rfl ?aP (fun k_ hk_ => ((Kd.R_mono (ok' := fun k_ => ((fun k_ => some k_ ≠ (.slice Ao48 y130.length co48 : Value).ownBlock)) k_ ∧ some k_ ≠ (u119001 : Value).ownBlock) (Kd.R_apart' (HO135.out) (Kd.S_typed HO_119001.out) (by decide)) (fun k_ hk => ⟨hk.1, hk.2⟩))).1 k_ hk_.symm) ?aF ?aO ?aB ?aS ?aL ?_
           (case aP => exact cut2_row HLEN2 (Kd.R_mono (Kd.R_tight rfl (Kd.R_mono (ok' := fun k_ => ((fun k_ => some k_ ≠ (.slice Ao48 y130.length co48 : Value).ownBlock)) k_ ∧ some k_ ≠ (u119001 : Value).ownBlock) (Kd.R_apart' (HO135.out) (Kd.S_typed HO_119001.out) (by decide)) (fun k_ hk => ⟨hk.1, hk.2⟩))) (fun _ h_ => h_)))
           (case aB => exact (by repeat (first | exact HB.out | apply yE | apply yD | refine yJ ?_ GE114.out | refine yJ ?_ GE118.out)))
           (case aF => exact (fun k_ hk => Kd.fresh' (Kd.R_lt (by first | exact HO132.out | exact Kd.R_drew HO132.out | exact Kd.R_alloc HO132.out _)) k_ hk))
           (case aO => exact (by (with_reducible repeat (first | apply Kd.S_alloc | apply Kd.S_drewN | apply Kd.S_drew)); exact Kd.S_mono HO_119001.out (fun k_ hk => ⟨hk.1, fun e_ => hk.2 e_⟩)))
           (case aS => exact (below_size (by repeat (first | exact HB.out | apply yE | apply yD | refine yJ ?_ GE114.out | refine yJ ?_ GE118.out))))
           (case aL => have := LMc37.out; omega)
           intro v138 w50 ho hb hg hat
           rw [← Ny137.out] at ho
           have n0_ := yA (Kd.R_over' (by first | exact HO_119000.out | exact Kd.R_drew HO_119000.out | exact Kd.R_alloc HO_119000.out _) (Kd.S_typed (by first | exact HO_119001.out | exact Kd.S_drew HO_119001.out | exact Kd.S_alloc HO_119001.out _)) (by decide) hg)
           have n1_ := yA (blk_grown (g := gb113) (o := .cells #[.slice A0_0 l0_0.length c0_0, .slice (some ad122) l0_1.length c0_1] 25 (0, 0)) (by first | exact BK113.out | exact yI BK113.out _) hg (Kd.S_ne HO_119001.out BK113.out (by decide)))
           have n2_ := yA (blk_grown (g := gb114) (o := .cells #[.slice none 0 0, .slice none 0 0] 25 (0, 0)) (by first | exact BK114.out | exact yI BK114.out _) hg (Kd.S_ne HO_119001.out BK114.out (by decide)))
           have n3_ := yA (blk_grown (g := gb118) (o := .cells #[.slice Ao22 (t115.length - 2) co22, u119001] 25 (0, 0)) (by first | exact BK118.out | exact yI BK118.out _) hg (Kd.S_ne HO_119001.out BK118.out (by decide)))
           have n4_ := yA (Kd.R_over' (by first | exact HO132.out | exact Kd.R_drew HO132.out | exact Kd.R_alloc HO132.out _) (Kd.S_typed (by first | exact HO_119001.out | exact Kd.S_drew HO_119001.out | exact Kd.S_alloc HO_119001.out _)) (by decide) hg)
           have n5_ := yA (hb)
           have n6_ := yA (ho)
           clear HO_119000
           clear BK113
           clear BK114
           clear BK118
           clear HO132
           clear HB
           clear HO_119001
           clear HO135
           have HO_119000 := n0_
           have BK113 := n1_
           have BK114 := n2_
           have BK118 := n3_
           have HO132 := n4_
           have HB := n5_
           have HO139 := n6_
           clear n0_ n1_ n2_ n3_ n4_ n5_ n6_
           clear ho hb hg hat
           obtain ⟨Ao52, co52, eo52⟩ := Kd.S_slice HO139.out
           (first | subst eo52 | (injection eo52 with f1_ f2_ f3_; have f4_ := f1_.symm; have f5_ := f3_.symm; clear f1_ f2_ f3_; subst f4_; subst f5_))
           refine hK.out _ _ ⟨(yR BK118.out 0).trans rfl, (yR BK118.out 1).trans rfl, (yR BK113.out 0).trans rfl, (yR BK113.out 1).trans rfl, ((HB.out.cell (World.block_lt_of_cell? w _ hw136_0)).trans hw136_0)⟩ (fun hHeld => ?_)
           clear hK K
           refine norm_ (a' := ?_) ?_ ?_
           rotate_left
           ·show Act.put _ (some 58) _ = _
            simp only [Act.put, lA, lB, lC, i64_w, i32_w]
            rfl
           refine pure_ (i := 12) (N := some 59) (v := ?_) (a' := ?_) #[true, true, true, true, true, true, true, true, true, true, true, true, true, false] rfl rfl (any_of HT_.out (by kernel_rfl)) (fun _ _ _ h => h) (Or.inl ⟨by rfl, ?_⟩) ?_ ?_
           rotate_left
           ·intro w'
            go_simp
            with_reducible rfl
           rotate_left
           ·simp only [Act.put, lA, lB, lC, i64_w, i32_w]
            rfl
           refine last_ (i := 13) (N := none) #[true, true, true, true, true, true, true, true, true, true, true, true, true, true] rfl rfl (one_of HT_.out (by kernel_rfl)) (by decide) (fun K hK => ?_)
           have hs53 : w50.cell? ⟨gb118, 1, none⟩ = some (u119001) := (yR BK118.out 1).trans rfl
           have hfs53 := yS BK118.out 1
           have hns53_0 := NB113_118.out
           have hns53_1 := NB114_118.out
           have hms53_0 := NB118_113.out
           have hms53_1 := NB118_114.out
           refine skip_ (w1 := ?_) (by rfl) rfl ?_ ?_
           rotate_left
           ·go_simp
            rfl
           refine hK.out _ _ ?_
           clear hK K
           refine done_ (done_of HT_.out (by kernel_rfl)) ?_
           try go_wp2
           go_roundg k1
           case measure => have := HK1.out; omega
           case rel => exact ⟨(wrap64 (x4_1 + 1)), (y137), (.slice Ao52 y137.length co52), (by first | rfl | (simp; done) | (simp [*]; done)), H', ⟨by have := HK1.out; omega⟩, ⟨by (with_reducible repeat (first | apply Kd.R_alloc | apply Kd.R_drewN | apply Kd.R_drew)); exact Kd.R_mono (Kd.R_far (p := ⟨gb118, 1, none⟩) (Kd.R_types HO_119000.out BK118.out (by decide)) (fun _ hk => hk.2) (.slice Ao52 y137.length co52)) (fun _ hk => trivial)⟩, ⟨by (with_reducible repeat (first | apply Kd.S_alloc | apply Kd.S_drewN | apply Kd.S_drew)); exact Kd.S_mono (Kd.S_far (p := ⟨gb118, 1, none⟩) (Kd.S_types HO139.out BK118.out (by decide)) (fun _ hk => hk.2) (.slice Ao52 y137.length co52)) (fun _ hk => trivial)⟩, ⟨by (with_reducible repeat (first | refine yG ?_ _ | refine yH ?_ | refine yI ?_ _)); refine blk_far ?_ NB113_118.out _; (with_reducible repeat (first | refine yG ?_ _ | refine yH ?_ | refine yI ?_ _)); exact BK113.out⟩, ⟨by (with_reducible repeat (first | refine yG ?_ _ | refine yH ?_ | refine yI ?_ _)); refine blk_far ?_ NB114_118.out _; (with_reducible repeat (first | refine yG ?_ _ | refine yH ?_ | refine yI ?_ _)); exact BK114.out⟩, ⟨by (with_reducible repeat (first | refine yG ?_ _ | refine yH ?_ | refine yI ?_ _)); refine blk_put (cs := #[.slice Ao22 (t115.length - 2) co22, u119001]) ?_ 1 _ rfl; (with_reducible repeat (first | refine yG ?_ _ | refine yH ?_ | refine yI ?_ _)); exact BK118.out⟩, ⟨by repeat (first | exact HB.out | apply yE | apply yD | refine yJ ?_ GE114.out | refine yJ ?_ GE118.out)⟩⟩
          ·rw [if_neg c37] at H
           exact absurd H (by simp)
         ·rw [if_neg c36] at H
          exact absurd H (by simp)
        ·rw [if_neg c35] at H
         exact absurd H (by simp)
       ·rw [if_neg c34] at H
        exact absurd H (by simp)
      ·rw [if_neg c33] at H
       exact absurd H (by simp)
     ·rw [if_neg c32] at H
      have c32b0 : decide (x4_1 < (l0_1.length : Int)) = false := yM c32
      clear c32
      simp only [Option.some.injEq, Prod.mk.injEq] at H
      obtain ⟨rfl, rfl⟩ := H
      have hnb54 := NB113_114.out
      have hnc54 := NB114_113.out
      have hnb55 := NB113_118.out
      have hnc55 := NB118_113.out
      have hcz56_0 : wr.cell? ⟨gb113, 0, none⟩ = some (.slice A0_0 l0_0.length c0_0) := (yR BK113.out 0).trans rfl
      have hcz56_1 : wr.cell? ⟨gb113, 1, none⟩ = some (.slice A0_1 l0_1.length c0_1) := (yR BK113.out 1).trans rfl
      have hfz56_0 := yS BK113.out 0
      have hfz56_1 := yS BK113.out 1
      have hnb57 := NB118_114.out
      have hnc57 := NB114_118.out
      have hcz58_0 : wr.cell? ⟨gb118, 0, none⟩ = some (.slice Ao22 (t115.length - 2) co22) := (yR BK118.out 0).trans rfl
      have hcz58_1 : wr.cell? ⟨gb118, 1, none⟩ = some (u119001) := (yR BK118.out 1).trans rfl
      have hfz58_0 := yS BK118.out 0
      have hfz58_1 := yS BK118.out 1
      have hcz59_0 : wr.cell? ⟨gb114, 0, none⟩ = some (.slice none 0 0) := (yR BK114.out 0).trans rfl
      have hcz59_1 : wr.cell? ⟨gb114, 1, none⟩ = some (.slice none 0 0) := (yR BK114.out 1).trans rfl
      have hfz59_0 := yS BK114.out 0
      have hfz59_1 := yS BK114.out 1
      obtain ⟨Ao60, co60, eo60⟩ := Kd.S_slice HO_119001.out
      subst eo60
      go_wp2
      refine bodyPost_ret (results_cell_row rfl _ _ gb114 25 #[.slice Ao22 (t115.length - 2) co22, .slice Ao60 x119001_1.length co60] (0, 0) _ rfl (by (with_reducible repeat (first | refine yG ?_ _ | refine yH ?_ | refine yI ?_ _)); refine blk_put (cs := #[.slice Ao22 (t115.length - 2) co22, .slice none 0 0]) ?_ 1 _ rfl; (with_reducible repeat (first | refine yG ?_ _ | refine yH ?_ | refine yI ?_ _)); refine blk_put (cs := #[.slice none 0 0, .slice none 0 0]) ?_ 0 _ rfl; (with_reducible repeat (first | refine yG ?_ _ | refine yH ?_ | refine yI ?_ _)); exact BK114.out) Tryd.underlying25 rfl (by kernel_rfl)) rfl ?_
      exact ⟨_, _, _, by first | rfl | (simp [errW_none, errW_some] <;> rfl) | (simp [*, errW_none, errW_some] <;> rfl), by (with_reducible repeat (first | apply Kd.R_alloc | apply Kd.R_drewN | apply Kd.R_drew)); exact Kd.R_mono (Kd.R_far (p := ⟨gb114, 1, none⟩) (Kd.R_far (p := ⟨gb114, 0, none⟩) (Kd.R_types HO_119000.out BK114.out (by decide)) (fun _ hk => hk.2) (.slice Ao22 (t115.length - 2) co22)) (fun _ hk => hk.2) (.slice Ao60 x119001_1.length co60)) (fun _ hk => trivial), by (with_reducible repeat (first | apply Kd.S_alloc | apply Kd.S_drewN | apply Kd.S_drew)); exact Kd.S_mono (Kd.S_far (p := ⟨gb114, 1, none⟩) (Kd.S_far (p := ⟨gb114, 0, none⟩) (Kd.S_types HO_119001.out BK114.out (by decide)) (fun _ hk => hk.2) (.slice Ao22 (t115.length - 2) co22)) (fun _ hk => hk.2) (.slice Ao60 x119001_1.length co60)) (fun _ hk => trivial), by repeat (first | exact HB.out | apply yE | apply yD | refine yJ ?_ GE114.out | refine yJ ?_ GE118.out)⟩
  ·rw [if_neg c16] at H
   exact absurd H (by simp)
end Go.Proofs.YtppojbafagneeaaDoor.PTab
