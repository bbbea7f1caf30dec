/- Own text, for this claim: the reference's Instr walked. Printed by wip/tools/mkrin.py. -/
import Derived.Test.YtjhbiennmambkaaDoorZAsmPI2
import Derived.Test.YtjhbiennmambkaaDoorZAsmRef
namespace Go.Proofs.YtjhbiennmambkaaDoor.Pure
open Go.RowKit Go.Proofs.YtjhbiennmambkaaDoorW.PrintWords Go.Proofs.YtjhbiennmambkaaDoorW.PrintLast Go.Proofs.YtjhbiennmambkaaDoorW.PrintMore Go.Proofs.YtjhbiennmambkaaDoor.PAsmInstrs Go.Proofs.YtjhbiennmambkaaDoor.PAsm
set_option linter.unusedVariables false
set_option linter.unusedSimpArgs false
theorem rval_any (i x y : Int) (w : World) (hG : GA w) : Calls Tryd.prog 33 #[.agg #[.int .i64 i, .int .i64 x, .int .i64 y]] w fun e w' => e = .returned (.int .i64 (valid i x y)) ∧ Below w.heap.size w w' := by
 obtain ⟨t, fr, hT⟩ := hG.tab
 exact rvalid_any i x y w t fr hT
theorem rnam_any (i : Int) (hi : 0 ≤ i ∧ i < 29) (w : World) (hG : GA w) : Calls Tryd.prog 34 #[.int .i64 i] w fun e w' => e = .returned (.tuple #[.string (nmW i), .int .i64 0]) ∧ Below w.heap.size w w' := by
 obtain ⟨t, fr, hT⟩ := hG.tab
 obtain ⟨j, rfl⟩ : ∃ j : Nat, i = j := ⟨i.toNat, by omega⟩
 refine (rname_any (j : Int) _ _ _ _ _ _ w (row_in t fr j (by omega) w hT)).mono ?_
 rintro e w' ⟨rfl, hb⟩
 exact ⟨by unfold nmW; rw [Int.toNat_natCast], hb⟩
theorem opn_bounds : ∀ i : Nat, i < 29 → (if 0 ≤ (bat i).1 then (1 : Int) else 0) + (if 0 ≤ (bat i).2 then 1 else 0) = (kat i).n := by
 intro i hi
 have : ∀ i : Nat, i < 29 → decide ((if 0 ≤ (bat i).1 then (1 : Int) else 0) + (if 0 ≤ (bat i).2 then 1 else 0) = (kat i).n) = true
  | 0, _ => by decide
  | 1, _ => by decide
  | 2, _ => by decide
  | 3, _ => by decide
  | 4, _ => by decide
  | 5, _ => by decide
  | 6, _ => by decide
  | 7, _ => by decide
  | 8, _ => by decide
  | 9, _ => by decide
  | 10, _ => by decide
  | 11, _ => by decide
  | 12, _ => by decide
  | 13, _ => by decide
  | 14, _ => by decide
  | 15, _ => by decide
  | 16, _ => by decide
  | 17, _ => by decide
  | 18, _ => by decide
  | 19, _ => by decide
  | 20, _ => by decide
  | 21, _ => by decide
  | 22, _ => by decide
  | 23, _ => by decide
  | 24, _ => by decide
  | 25, _ => by decide
  | 26, _ => by decide
  | 27, _ => by decide
  | 28, _ => by decide
  | n + 29, h => by omega
 exact yN (this i hi)
theorem ropn_any (i : Int) (hi : 0 ≤ i ∧ i < 29) (w : World) (hG : GA w) : Calls Tryd.prog 36 #[.int .i64 i] w fun e w' => e = .returned (.tuple #[.int .i64 (opn i), .int .i64 0]) ∧ Below w.heap.size w w' := by
 obtain ⟨t, fr, hT⟩ := hG.tab
 obtain ⟨j, rfl⟩ : ∃ j : Nat, i = j := ⟨i.toNat, by omega⟩
 refine (roperands_any (j : Int) _ _ _ _ _ _ w (row_in t fr j (by omega) w hT)).mono ?_
 rintro e w' ⟨rfl, hb⟩
 refine ⟨?_, hb⟩
 rw [if_pos rfl, opn_bounds j (by omega)]
 unfold opn
 rw [Int.toNat_natCast]
def rinT_T : Bool × List (List Nat × List Nat) := (true, [([], []), ([], []), ([1], [1]), ([], []), ([3], [3]), ([2, 4], [2, 4]), ([5], [5]), ([], []), ([7], [7]), ([8], [8]), ([6, 9], [6, 9]), ([0, 10, 9], [0, 10]), ([11, 11, 0, 1, 2, 3, 4, 5, 6, 7, 8, 9, 10, 11], [11]), ([12, 0, 1, 2, 3, 4, 5, 6, 7, 8, 9, 10, 11, 12], [])])
def rinT_B : List Nat := [0, 0, 2, 0, 8, 30, 62, 0, 128, 384, 1022, 2047, 4095, 8191]
theorem rinT_tab : rtab .any (opsOf Tryd.f16 13) = rinT_T := by kernel_rfl
theorem rinT_bits : waitsOk rinT_T.2 rinT_B = true := by kernel_rfl
set_option maxHeartbeats 8000000 in
set_option maxRecDepth 100000 in
theorem rin_err (A0 A1 A2 A7 : Option Addr) (c0 c1 c2 c7 n7 : Nat) (l0 l1 : List ByteArray) (l2 : List Int) (a3 a4 a5 a6 : Int) (op a b : Int) (w : World) (hG : GA w) (hv : valid op a b = 111) :
  Calls Tryd.prog 16 #[.agg #[.slice A0 l0.length c0, .slice A1 l1.length c1, .slice A2 l2.length c2, .int .i64 a3, .int .i64 a4, .int .i64 a5, .int .i64 a6, .slice A7 n7 c7], .agg #[.int .i64 op, .int .i64 a, .int .i64 b]] w fun e w' => e = .returned (.tuple #[.slice none 0 0, .int .i64 111]) ∧ Below w.heap.size w w' := by
 have hu26 := Tryd.underlying26
 have hu28 := Tryd.underlying28
 have HB := yA (Below.refl w.heap.size w)
 have HG := yA hG
 clear hG
 have HV := yA hv
 clear hv
 go_enter Tryd.func16, Tryd.ntmps16
 go_upto_region 1 with (first | ((with_reducible refine yP (N := 2) rfl ?_); refine yQ ?hg (N := 2) ?hd (cs := #[.slice A0 l0.length c0, .slice A1 l1.length c1, .slice A2 l2.length c2, .int .i64 a3, .int .i64 a4, .int .i64 a5, .int .i64 a6, .slice A7 n7 c7]) (t := 26) ?hr ?_; (case hd => rfl); (case hg => rfl); (case hr => first | (go_simp; done) | (go_simp; rfl)); intro gp hg wb2 hbox hb; replace HB := yA (yB HB.out hb); have BKP := yA hbox; clear hg hb hbox) | ((with_reducible refine yP (N := 3) rfl ?_); refine yQ ?hg (N := 3) ?hd (cs := #[.int .i64 op, .int .i64 a, .int .i64 b]) (t := 28) ?hr ?_; (case hd => rfl); (case hg => rfl); (case hr => first | (go_simp; done) | (go_simp; rfl)); intro gi hg wb3 hbox hb; replace BKP := yA (yC BKP.out hb); replace HB := yA (yB HB.out hb); have BKI := yA hbox; clear hg hb hbox))
 have hp0 := yR BKP.out 0
 have hp1 := yR BKP.out 1
 have hp2 := yR BKP.out 2
 have hp3 := yR BKP.out 3
 have hp4 := yR BKP.out 4
 have hp5 := yR BKP.out 5
 have hp6 := yR BKP.out 6
 have hp7 := yR BKP.out 7
 have hi0 := yR BKI.out 0
 have hi1 := yR BKI.out 1
 have hi2 := yR BKI.out 2
 go_wp2_with (first | (go_at_call 33; refine (rval_any op a b _ (GA.below HG.out HB.out)).mono ?_; rintro e wv ⟨rfl, hb⟩; replace HB := yA (yB HB.out hb); replace BKP := yA (yC BKP.out hb); replace BKI := yA (yC BKI.out hb); rw [HV.out]; have hp0 := yR BKP.out 0; have hp1 := yR BKP.out 1; have hp2 := yR BKP.out 2; have hp3 := yR BKP.out 3; have hp4 := yR BKP.out 4; have hp5 := yR BKP.out 5; have hp6 := yR BKP.out 6; have hp7 := yR BKP.out 7; have hi0 := yR BKI.out 0; have hi1 := yR BKI.out 1; have hi2 := yR BKI.out 2; clear hb))
 go_ret2
 exact ⟨rfl, HB.out⟩
set_option maxHeartbeats 8000000 in
set_option maxRecDepth 100000 in
theorem rin_range1 (A0 A1 A2 A7 : Option Addr) (c0 c1 c2 c7 n7 : Nat) (l0 l1 : List ByteArray) (l2 : List Int) (a3 a4 a5 a6 : Int) (op a b : Int) (w : World) (hG : GA w) (ho : op = 1) (hv : valid op a b = 0) (hc : (l2.length : Int) ≤ a) :
  Calls Tryd.prog 16 #[.agg #[.slice A0 l0.length c0, .slice A1 l1.length c1, .slice A2 l2.length c2, .int .i64 a3, .int .i64 a4, .int .i64 a5, .int .i64 a6, .slice A7 n7 c7], .agg #[.int .i64 op, .int .i64 a, .int .i64 b]] w fun e w' => e = .returned (.tuple #[.slice none 0 0, .int .i64 2]) ∧ Below w.heap.size w w' := by
 have hu26 := Tryd.underlying26
 have hu28 := Tryd.underlying28
 have HB := yA (Below.refl w.heap.size w)
 have HG := yA hG
 clear hG
 have HOP := yA (show 0 ≤ op ∧ op < 29 by omega)
 have o1 : (op == 1) = true := beq_iff_eq.2 ho
 have HV := yA hv
 have r2 : decide ((l2.length : Int) ≤ a) = true := yL hc
 clear ho hv hc
 go_enter Tryd.func16, Tryd.ntmps16
 go_upto_region 1 with (first | ((with_reducible refine yP (N := 2) rfl ?_); refine yQ ?hg (N := 2) ?hd (cs := #[.slice A0 l0.length c0, .slice A1 l1.length c1, .slice A2 l2.length c2, .int .i64 a3, .int .i64 a4, .int .i64 a5, .int .i64 a6, .slice A7 n7 c7]) (t := 26) ?hr ?_; (case hd => rfl); (case hg => rfl); (case hr => first | (go_simp; done) | (go_simp; rfl)); intro gp hg wb2 hbox hb; replace HB := yA (yB HB.out hb); have BKP := yA hbox; clear hg hb hbox) | ((with_reducible refine yP (N := 3) rfl ?_); refine yQ ?hg (N := 3) ?hd (cs := #[.int .i64 op, .int .i64 a, .int .i64 b]) (t := 28) ?hr ?_; (case hd => rfl); (case hg => rfl); (case hr => first | (go_simp; done) | (go_simp; rfl)); intro gi hg wb3 hbox hb; replace BKP := yA (yC BKP.out hb); replace HB := yA (yB HB.out hb); have BKI := yA hbox; clear hg hb hbox))
 have hp0 := yR BKP.out 0
 have hp1 := yR BKP.out 1
 have hp2 := yR BKP.out 2
 have hp3 := yR BKP.out 3
 have hp4 := yR BKP.out 4
 have hp5 := yR BKP.out 5
 have hp6 := yR BKP.out 6
 have hp7 := yR BKP.out 7
 have hi0 := yR BKI.out 0
 have hi1 := yR BKI.out 1
 have hi2 := yR BKI.out 2
 go_wp2_with (first | (go_at_call 33; refine (rval_any op a b _ (GA.below HG.out HB.out)).mono ?_; rintro e wv ⟨rfl, hb⟩; replace HB := yA (yB HB.out hb); replace BKP := yA (yC BKP.out hb); replace BKI := yA (yC BKI.out hb); rw [HV.out]; have hp0 := yR BKP.out 0; have hp1 := yR BKP.out 1; have hp2 := yR BKP.out 2; have hp3 := yR BKP.out 3; have hp4 := yR BKP.out 4; have hp5 := yR BKP.out 5; have hp6 := yR BKP.out 6; have hp7 := yR BKP.out 7; have hi0 := yR BKI.out 0; have hi1 := yR BKI.out 1; have hi2 := yR BKI.out 2; clear hb) | (go_at_call 34; refine (rnam_any op HOP.out _ (GA.below HG.out HB.out)).mono ?_; rintro e wn ⟨rfl, hb⟩; replace HB := yA (yB HB.out hb); replace BKP := yA (yC BKP.out hb); replace BKI := yA (yC BKI.out hb); have hp0 := yR BKP.out 0; have hp1 := yR BKP.out 1; have hp2 := yR BKP.out 2; have hp3 := yR BKP.out 3; have hp4 := yR BKP.out 4; have hp5 := yR BKP.out 5; have hp6 := yR BKP.out 6; have hp7 := yR BKP.out 7; have hi0 := yR BKI.out 0; have hi1 := yR BKI.out 1; have hi2 := yR BKI.out 2; clear hb) | ((with_reducible refine yP (N := 21) rfl ?_); refine Kd.R_lit Kd.string _ 9 ?hg (N := 21) ?hd (xs := [(nmW op)]) (inner := [.string (nmW op)]) (ok := fun _ => True) (okp := fun _ => True) ?hr ?hp (fun _ hk => hk) trivial (Below.refl _ _) (Nat.le_refl _) (by simp) ?_; (case hd => rfl); (case hg => rfl); (case hr => first | (go_simp; done) | (go_simp; rfl)); (case hp => exact (Reps.one (show Kd.M Kd.string _ _ _ (nmW op) [.string (nmW op)] from rfl) (Reps.none _ _))); intro v1 wr hr hb _ _; have HR1 := yA (Kd.R_lower hr HB.out.size); replace HB := yA (yB HB.out hb); replace BKP := yA (yC BKP.out hb); replace BKI := yA (yC BKI.out hb); have hp0 := yR BKP.out 0; have hp1 := yR BKP.out 1; have hp2 := yR BKP.out 2; have hp3 := yR BKP.out 3; have hp4 := yR BKP.out 4; have hp5 := yR BKP.out 5; have hp6 := yR BKP.out 6; have hp7 := yR BKP.out 7; have hi0 := yR BKI.out 0; have hi1 := yR BKI.out 1; have hi2 := yR BKI.out 2; clear hr hb))
 go_ret2
 exact ⟨rfl, HB.out⟩
set_option maxHeartbeats 8000000 in
set_option maxRecDepth 100000 in
theorem rin_range3 (A0 A1 A2 A7 : Option Addr) (c0 c1 c2 c7 n7 : Nat) (l0 l1 : List ByteArray) (l2 : List Int) (a3 a4 a5 a6 : Int) (op a b : Int) (w : World) (hG : GA w) (ho : op = 3) (hv : valid op a b = 0) (hc : (l0.length : Int) ≤ a) :
  Calls Tryd.prog 16 #[.agg #[.slice A0 l0.length c0, .slice A1 l1.length c1, .slice A2 l2.length c2, .int .i64 a3, .int .i64 a4, .int .i64 a5, .int .i64 a6, .slice A7 n7 c7], .agg #[.int .i64 op, .int .i64 a, .int .i64 b]] w fun e w' => e = .returned (.tuple #[.slice none 0 0, .int .i64 2]) ∧ Below w.heap.size w w' := by
 have hu26 := Tryd.underlying26
 have hu28 := Tryd.underlying28
 have HB := yA (Below.refl w.heap.size w)
 have HG := yA hG
 clear hG
 have HOP := yA (show 0 ≤ op ∧ op < 29 by omega)
 have o1 : (op == 1) = false := beq_eq_false_iff_ne.2 (by omega)
 have o3 : (op == 3) = true := beq_iff_eq.2 ho
 have HV := yA hv
 have r2 : decide ((l0.length : Int) ≤ a) = true := yL hc
 clear ho hv hc
 go_enter Tryd.func16, Tryd.ntmps16
 go_upto_region 1 with (first | ((with_reducible refine yP (N := 2) rfl ?_); refine yQ ?hg (N := 2) ?hd (cs := #[.slice A0 l0.length c0, .slice A1 l1.length c1, .slice A2 l2.length c2, .int .i64 a3, .int .i64 a4, .int .i64 a5, .int .i64 a6, .slice A7 n7 c7]) (t := 26) ?hr ?_; (case hd => rfl); (case hg => rfl); (case hr => first | (go_simp; done) | (go_simp; rfl)); intro gp hg wb2 hbox hb; replace HB := yA (yB HB.out hb); have BKP := yA hbox; clear hg hb hbox) | ((with_reducible refine yP (N := 3) rfl ?_); refine yQ ?hg (N := 3) ?hd (cs := #[.int .i64 op, .int .i64 a, .int .i64 b]) (t := 28) ?hr ?_; (case hd => rfl); (case hg => rfl); (case hr => first | (go_simp; done) | (go_simp; rfl)); intro gi hg wb3 hbox hb; replace BKP := yA (yC BKP.out hb); replace HB := yA (yB HB.out hb); have BKI := yA hbox; clear hg hb hbox))
 have hp0 := yR BKP.out 0
 have hp1 := yR BKP.out 1
 have hp2 := yR BKP.out 2
 have hp3 := yR BKP.out 3
 have hp4 := yR BKP.out 4
 have hp5 := yR BKP.out 5
 have hp6 := yR BKP.out 6
 have hp7 := yR BKP.out 7
 have hi0 := yR BKI.out 0
 have hi1 := yR BKI.out 1
 have hi2 := yR BKI.out 2
 go_wp2_with (first | (go_at_call 33; refine (rval_any op a b _ (GA.below HG.out HB.out)).mono ?_; rintro e wv ⟨rfl, hb⟩; replace HB := yA (yB HB.out hb); replace BKP := yA (yC BKP.out hb); replace BKI := yA (yC BKI.out hb); rw [HV.out]; have hp0 := yR BKP.out 0; have hp1 := yR BKP.out 1; have hp2 := yR BKP.out 2; have hp3 := yR BKP.out 3; have hp4 := yR BKP.out 4; have hp5 := yR BKP.out 5; have hp6 := yR BKP.out 6; have hp7 := yR BKP.out 7; have hi0 := yR BKI.out 0; have hi1 := yR BKI.out 1; have hi2 := yR BKI.out 2; clear hb) | (go_at_call 34; refine (rnam_any op HOP.out _ (GA.below HG.out HB.out)).mono ?_; rintro e wn ⟨rfl, hb⟩; replace HB := yA (yB HB.out hb); replace BKP := yA (yC BKP.out hb); replace BKI := yA (yC BKI.out hb); have hp0 := yR BKP.out 0; have hp1 := yR BKP.out 1; have hp2 := yR BKP.out 2; have hp3 := yR BKP.out 3; have hp4 := yR BKP.out 4; have hp5 := yR BKP.out 5; have hp6 := yR BKP.out 6; have hp7 := yR BKP.out 7; have hi0 := yR BKI.out 0; have hi1 := yR BKI.out 1; have hi2 := yR BKI.out 2; clear hb) | ((with_reducible refine yP (N := 21) rfl ?_); refine Kd.R_lit Kd.string _ 9 ?hg (N := 21) ?hd (xs := [(nmW op)]) (inner := [.string (nmW op)]) (ok := fun _ => True) (okp := fun _ => True) ?hr ?hp (fun _ hk => hk) trivial (Below.refl _ _) (Nat.le_refl _) (by simp) ?_; (case hd => rfl); (case hg => rfl); (case hr => first | (go_simp; done) | (go_simp; rfl)); (case hp => exact (Reps.one (show Kd.M Kd.string _ _ _ (nmW op) [.string (nmW op)] from rfl) (Reps.none _ _))); intro v1 wr hr hb _ _; have HR1 := yA (Kd.R_lower hr HB.out.size); replace HB := yA (yB HB.out hb); replace BKP := yA (yC BKP.out hb); replace BKI := yA (yC BKI.out hb); have hp0 := yR BKP.out 0; have hp1 := yR BKP.out 1; have hp2 := yR BKP.out 2; have hp3 := yR BKP.out 3; have hp4 := yR BKP.out 4; have hp5 := yR BKP.out 5; have hp6 := yR BKP.out 6; have hp7 := yR BKP.out 7; have hi0 := yR BKI.out 0; have hi1 := yR BKI.out 1; have hi2 := yR BKI.out 2; clear hr hb))
 go_ret2
 exact ⟨rfl, HB.out⟩
set_option maxHeartbeats 8000000 in
set_option maxRecDepth 100000 in
theorem rin_range28 (A0 A1 A2 A7 : Option Addr) (c0 c1 c2 c7 n7 : Nat) (l0 l1 : List ByteArray) (l2 : List Int) (a3 a4 a5 a6 : Int) (op a b : Int) (w : World) (hG : GA w) (ho : op = 28) (hv : valid op a b = 0) (hc : (l1.length : Int) ≤ a) :
  Calls Tryd.prog 16 #[.agg #[.slice A0 l0.length c0, .slice A1 l1.length c1, .slice A2 l2.length c2, .int .i64 a3, .int .i64 a4, .int .i64 a5, .int .i64 a6, .slice A7 n7 c7], .agg #[.int .i64 op, .int .i64 a, .int .i64 b]] w fun e w' => e = .returned (.tuple #[.slice none 0 0, .int .i64 2]) ∧ Below w.heap.size w w' := by
 have hu26 := Tryd.underlying26
 have hu28 := Tryd.underlying28
 have HB := yA (Below.refl w.heap.size w)
 have HG := yA hG
 clear hG
 have HOP := yA (show 0 ≤ op ∧ op < 29 by omega)
 have o1 : (op == 1) = false := beq_eq_false_iff_ne.2 (by omega)
 have o3 : (op == 3) = false := beq_eq_false_iff_ne.2 (by omega)
 have o18 : (op == 18) = false := beq_eq_false_iff_ne.2 (by omega)
 have o28 : (op == 28) = true := beq_iff_eq.2 ho
 have HV := yA hv
 have r2 : decide ((l1.length : Int) ≤ a) = true := yL hc
 clear ho hv hc
 go_enter Tryd.func16, Tryd.ntmps16
 go_upto_region 1 with (first | ((with_reducible refine yP (N := 2) rfl ?_); refine yQ ?hg (N := 2) ?hd (cs := #[.slice A0 l0.length c0, .slice A1 l1.length c1, .slice A2 l2.length c2, .int .i64 a3, .int .i64 a4, .int .i64 a5, .int .i64 a6, .slice A7 n7 c7]) (t := 26) ?hr ?_; (case hd => rfl); (case hg => rfl); (case hr => first | (go_simp; done) | (go_simp; rfl)); intro gp hg wb2 hbox hb; replace HB := yA (yB HB.out hb); have BKP := yA hbox; clear hg hb hbox) | ((with_reducible refine yP (N := 3) rfl ?_); refine yQ ?hg (N := 3) ?hd (cs := #[.int .i64 op, .int .i64 a, .int .i64 b]) (t := 28) ?hr ?_; (case hd => rfl); (case hg => rfl); (case hr => first | (go_simp; done) | (go_simp; rfl)); intro gi hg wb3 hbox hb; replace BKP := yA (yC BKP.out hb); replace HB := yA (yB HB.out hb); have BKI := yA hbox; clear hg hb hbox))
 have hp0 := yR BKP.out 0
 have hp1 := yR BKP.out 1
 have hp2 := yR BKP.out 2
 have hp3 := yR BKP.out 3
 have hp4 := yR BKP.out 4
 have hp5 := yR BKP.out 5
 have hp6 := yR BKP.out 6
 have hp7 := yR BKP.out 7
 have hi0 := yR BKI.out 0
 have hi1 := yR BKI.out 1
 have hi2 := yR BKI.out 2
 go_wp2_with (first | (go_at_call 33; refine (rval_any op a b _ (GA.below HG.out HB.out)).mono ?_; rintro e wv ⟨rfl, hb⟩; replace HB := yA (yB HB.out hb); replace BKP := yA (yC BKP.out hb); replace BKI := yA (yC BKI.out hb); rw [HV.out]; have hp0 := yR BKP.out 0; have hp1 := yR BKP.out 1; have hp2 := yR BKP.out 2; have hp3 := yR BKP.out 3; have hp4 := yR BKP.out 4; have hp5 := yR BKP.out 5; have hp6 := yR BKP.out 6; have hp7 := yR BKP.out 7; have hi0 := yR BKI.out 0; have hi1 := yR BKI.out 1; have hi2 := yR BKI.out 2; clear hb) | (go_at_call 34; refine (rnam_any op HOP.out _ (GA.below HG.out HB.out)).mono ?_; rintro e wn ⟨rfl, hb⟩; replace HB := yA (yB HB.out hb); replace BKP := yA (yC BKP.out hb); replace BKI := yA (yC BKI.out hb); have hp0 := yR BKP.out 0; have hp1 := yR BKP.out 1; have hp2 := yR BKP.out 2; have hp3 := yR BKP.out 3; have hp4 := yR BKP.out 4; have hp5 := yR BKP.out 5; have hp6 := yR BKP.out 6; have hp7 := yR BKP.out 7; have hi0 := yR BKI.out 0; have hi1 := yR BKI.out 1; have hi2 := yR BKI.out 2; clear hb) | ((with_reducible refine yP (N := 21) rfl ?_); refine Kd.R_lit Kd.string _ 9 ?hg (N := 21) ?hd (xs := [(nmW op)]) (inner := [.string (nmW op)]) (ok := fun _ => True) (okp := fun _ => True) ?hr ?hp (fun _ hk => hk) trivial (Below.refl _ _) (Nat.le_refl _) (by simp) ?_; (case hd => rfl); (case hg => rfl); (case hr => first | (go_simp; done) | (go_simp; rfl)); (case hp => exact (Reps.one (show Kd.M Kd.string _ _ _ (nmW op) [.string (nmW op)] from rfl) (Reps.none _ _))); intro v1 wr hr hb _ _; have HR1 := yA (Kd.R_lower hr HB.out.size); replace HB := yA (yB HB.out hb); replace BKP := yA (yC BKP.out hb); replace BKI := yA (yC BKI.out hb); have hp0 := yR BKP.out 0; have hp1 := yR BKP.out 1; have hp2 := yR BKP.out 2; have hp3 := yR BKP.out 3; have hp4 := yR BKP.out 4; have hp5 := yR BKP.out 5; have hp6 := yR BKP.out 6; have hp7 := yR BKP.out 7; have hi0 := yR BKI.out 0; have hi1 := yR BKI.out 1; have hi2 := yR BKI.out 2; clear hr hb))
 go_ret2
 exact ⟨rfl, HB.out⟩
set_option maxHeartbeats 8000000 in
set_option maxRecDepth 100000 in
theorem rin_const (A0 A1 A2 A7 : Option Addr) (c0 c1 c2 c7 n7 : Nat) (l0 l1 : List ByteArray) (l2 : List Int) (a3 a4 a5 a6 : Int) (op : Int) (a : Nat) (b : Int) (w : World) (hG : GA w) (ho : op = 1) (hv : valid op (a : Int) b = 0) (hC : (Kd.int .i64).C w A2 l2.length l2) (ha : a < l2.length) (hz : -9223372036854775808 ≤ rd l2 (a : Int) ∧ rd l2 (a : Int) ≤ 9223372036854775807) :
  Calls Tryd.prog 16 #[.agg #[.slice A0 l0.length c0, .slice A1 l1.length c1, .slice A2 l2.length c2, .int .i64 a3, .int .i64 a4, .int .i64 a5, .int .i64 a6, .slice A7 n7 c7], .agg #[.int .i64 op, .int .i64 (a : Int), .int .i64 b]] w fun e w' => ∃ v, e = .returned (.tuple #[v, .int .i64 0]) ∧ Kd.R Kd.string 9 w' w.heap.size (fun _ => True) v (nmW op :: [dec (rd l2 (a : Int))]) ∧ Below w.heap.size w w' := by
 have hu26 := Tryd.underlying26
 have hu28 := Tryd.underlying28
 have HB := yA (Below.refl w.heap.size w)
 have HG := yA hG
 clear hG
 have HOP := yA (show 0 ≤ op ∧ op < 29 by omega)
 have o1 : (op == 1) = true := beq_iff_eq.2 ho
 have HV := yA hv
 obtain ⟨ad, q, hx⟩ := Kd.at_int hC (a : Int) (by omega) (by omega)
 subst q
 rw [Int.toNat_natCast] at hx
 obtain ⟨nm, hnm⟩ : ∃ nm, rd l2 (a : Int) = nm := ⟨_, rfl⟩
 rw [hnm] at hx
 have HN := yA hnm
 have r0 : ((a : Int) < (l2.length : Int)) = True := eq_true (by omega)
 have r1 : (a < l2.length) = True := eq_true ha
 have r2 : decide ((l2.length : Int) ≤ (a : Int)) = false := yM (by omega)
 have r3 : ((l2.length : Int) ≤ (a : Int)) = False := eq_false (by omega)
 have r4 : (l2.length ≤ a) = False := eq_false (by omega)
 rw [hnm] at hz ⊢
 have V0 := yA hz.1
 have V1 := yA hz.2
 clear ho hv hC ha hz hnm
 go_enter Tryd.func16, Tryd.ntmps16
 go_upto_region 1 with (first | ((with_reducible refine yP (N := 2) rfl ?_); refine yQ ?hg (N := 2) ?hd (cs := #[.slice A0 l0.length c0, .slice A1 l1.length c1, .slice (some ad) l2.length c2, .int .i64 a3, .int .i64 a4, .int .i64 a5, .int .i64 a6, .slice A7 n7 c7]) (t := 26) ?hr ?_; (case hd => rfl); (case hg => rfl); (case hr => first | (go_simp; done) | (go_simp; rfl)); intro gp hg wb2 hbox hb; replace HB := yA (yB HB.out hb); have BKP := yA hbox; clear hg hb hbox) | ((with_reducible refine yP (N := 3) rfl ?_); refine yQ ?hg (N := 3) ?hd (cs := #[.int .i64 op, .int .i64 (a : Int), .int .i64 b]) (t := 28) ?hr ?_; (case hd => rfl); (case hg => rfl); (case hr => first | (go_simp; done) | (go_simp; rfl)); intro gi hg wb3 hbox hb; replace BKP := yA (yC BKP.out hb); replace HB := yA (yB HB.out hb); have BKI := yA hbox; clear hg hb hbox))
 have hp0 := yR BKP.out 0
 have hp1 := yR BKP.out 1
 have hp2 := yR BKP.out 2
 have hp3 := yR BKP.out 3
 have hp4 := yR BKP.out 4
 have hp5 := yR BKP.out 5
 have hp6 := yR BKP.out 6
 have hp7 := yR BKP.out 7
 have hi0 := yR BKI.out 0
 have hi1 := yR BKI.out 1
 have hi2 := yR BKI.out 2
 go_upto_region 9 with (first | (go_at_call 33; refine (rval_any op a b _ (GA.below HG.out HB.out)).mono ?_; rintro e wv ⟨rfl, hb⟩; replace HB := yA (yB HB.out hb); replace BKP := yA (yC BKP.out hb); replace BKI := yA (yC BKI.out hb); rw [HV.out]; have hp0 := yR BKP.out 0; have hp1 := yR BKP.out 1; have hp2 := yR BKP.out 2; have hp3 := yR BKP.out 3; have hp4 := yR BKP.out 4; have hp5 := yR BKP.out 5; have hp6 := yR BKP.out 6; have hp7 := yR BKP.out 7; have hi0 := yR BKI.out 0; have hi1 := yR BKI.out 1; have hi2 := yR BKI.out 2; clear hb) | (go_at_call 34; refine (rnam_any op HOP.out _ (GA.below HG.out HB.out)).mono ?_; rintro e wn ⟨rfl, hb⟩; replace HB := yA (yB HB.out hb); replace BKP := yA (yC BKP.out hb); replace BKI := yA (yC BKI.out hb); have hp0 := yR BKP.out 0; have hp1 := yR BKP.out 1; have hp2 := yR BKP.out 2; have hp3 := yR BKP.out 3; have hp4 := yR BKP.out 4; have hp5 := yR BKP.out 5; have hp6 := yR BKP.out 6; have hp7 := yR BKP.out 7; have hi0 := yR BKI.out 0; have hi1 := yR BKI.out 1; have hi2 := yR BKI.out 2; clear hb) | ((with_reducible refine yP (N := 21) rfl ?_); refine Kd.R_lit Kd.string _ 9 ?hg (N := 21) ?hd (xs := [(nmW op)]) (inner := [.string (nmW op)]) (ok := fun _ => True) (okp := fun _ => True) ?hr ?hp (fun _ hk => hk) trivial (Below.refl _ _) (Nat.le_refl _) (by simp) ?_; (case hd => rfl); (case hg => rfl); (case hr => first | (go_simp; done) | (go_simp; rfl)); (case hp => exact (Reps.one (show Kd.M Kd.string _ _ _ (nmW op) [.string (nmW op)] from rfl) (Reps.none _ _))); intro v1 wr hr hb _ _; have HR1 := yA (Kd.R_lower hr HB.out.size); replace HB := yA (yB HB.out hb); replace BKP := yA (yC BKP.out hb); replace BKI := yA (yC BKI.out hb); have hp0 := yR BKP.out 0; have hp1 := yR BKP.out 1; have hp2 := yR BKP.out 2; have hp3 := yR BKP.out 3; have hp4 := yR BKP.out 4; have hp5 := yR BKP.out 5; have hp6 := yR BKP.out 6; have hp7 := yR BKP.out 7; have hi0 := yR BKI.out 0; have hi1 := yR BKI.out 1; have hi2 := yR BKI.out 2; clear hr hb))
 have hup := HB.out
 replace hx := (hup.cell (World.block_lt_of_cell? w _ hx)).trans hx
 clear hup
 go_wp2_with (first | (go_at_call 35; refine (rdig_any nm V0.out V1.out _).mono ?_; rintro e wt ⟨rfl, hb⟩; replace HR1 := yA (Kd.R_below HR1.out hb); replace HB := yA (yB HB.out hb); replace BKP := yA (yC BKP.out hb); replace BKI := yA (yC BKI.out hb); have hp0 := yR BKP.out 0; have hp1 := yR BKP.out 1; have hp2 := yR BKP.out 2; have hp3 := yR BKP.out 3; have hp4 := yR BKP.out 4; have hp5 := yR BKP.out 5; have hp6 := yR BKP.out 6; have hp7 := yR BKP.out 7; have hi0 := yR BKI.out 0; have hi1 := yR BKI.out 1; have hi2 := yR BKI.out 2; clear hb) | ((with_reducible refine yP (N := 40) rfl ?_); refine Kd.R_lit Kd.string _ 9 ?hg (N := 40) ?hd (xs := [(dec nm)]) (inner := [.string (dec nm)]) (ok := fun _ => True) (okp := fun _ => True) ?hr ?hp (fun _ hk => hk) trivial (Below.refl _ _) (Nat.le_refl _) (by simp) ?_; (case hd => rfl); (case hg => rfl); (case hr => first | (go_simp; done) | (go_simp; rfl)); (case hp => exact (Reps.one (show Kd.M Kd.string _ _ _ (dec nm) [.string (dec nm)] from rfl) (Reps.none _ _))); intro v2 wr hr hb _ _; have HR2 := yA (Kd.R_lower hr HB.out.size); replace HB := yA (yB HB.out hb); replace BKP := yA (yC BKP.out hb); replace BKI := yA (yC BKI.out hb); replace HR1 := yA (Kd.R_below HR1.out hb); obtain ⟨A9, c9, e9⟩ := Kd.R_slice hr; subst e9; clear hr hb) | ((with_reducible refine gate_builtin (b := .append) (xs := #[.tmp 32, .tmp 40]) rfl ?_); at_builtin; refine Kd.R_append_rows Kd.string (w0 := w) w.heap.size rfl (.tmp 32) (.tmp 40) 22 9 (.string ⟨#[]⟩) 16 rfl Tryd.underlying22 info9 rfl (by decide) (by omega) v1 [nmW op] [dec nm] _ _ _ (fun _ => True) (fun _ => False) rfl rfl ?aO ?aR (fun _ _ h => h) (fun _ h => h.elim) ?aF ?aB ?aS ?aL ?_; (case aR => exact (Kd.R_reads' HR2.out).2.2); (case aB => exact HB.out); (case aF => exact (fun _ _ => trivial)); (case aO => exact HR1.out); (case aS => exact HB.out.size); (case aL => simp); intro v3 w3 ho hb _ _; have HR3 := yA ho; clear ho HB; have HB := yA hb; clear hb))
 go_ret2
 exact ⟨v3, rfl, HR3.out, HB.out⟩
set_option maxHeartbeats 8000000 in
set_option maxRecDepth 100000 in
theorem rin_flow (A0 A1 A2 A7 : Option Addr) (c0 c1 c2 c7 n7 : Nat) (l0 l1 : List ByteArray) (l2 : List Int) (a3 a4 a5 a6 : Int) (op : Int) (a : Nat) (b : Int) (w : World) (hG : GA w) (ho : op = 28) (hv : valid op (a : Int) b = 0) (hC : Kd.string.C w A1 l1.length l1) (ha : a < l1.length) :
  Calls Tryd.prog 16 #[.agg #[.slice A0 l0.length c0, .slice A1 l1.length c1, .slice A2 l2.length c2, .int .i64 a3, .int .i64 a4, .int .i64 a5, .int .i64 a6, .slice A7 n7 c7], .agg #[.int .i64 op, .int .i64 (a : Int), .int .i64 b]] w fun e w' => ∃ v, e = .returned (.tuple #[v, .int .i64 0]) ∧ Kd.R Kd.string 9 w' w.heap.size (fun _ => True) v (nmW op :: [rdOf ByteArray.empty l1 (a : Int)]) ∧ Below w.heap.size w w' := by
 have hu26 := Tryd.underlying26
 have hu28 := Tryd.underlying28
 have HB := yA (Below.refl w.heap.size w)
 have HG := yA hG
 clear hG
 have HOP := yA (show 0 ≤ op ∧ op < 29 by omega)
 have o1 : (op == 1) = false := beq_eq_false_iff_ne.2 (by omega)
 have o3 : (op == 3) = false := beq_eq_false_iff_ne.2 (by omega)
 have o18 : (op == 18) = false := beq_eq_false_iff_ne.2 (by omega)
 have o28 : (op == 28) = true := beq_iff_eq.2 ho
 have HV := yA hv
 obtain ⟨ad, q, hx⟩ := Kd.at_string hC (a : Int) (by omega) (by omega)
 subst q
 rw [Int.toNat_natCast] at hx
 obtain ⟨nm, hnm⟩ : ∃ nm, rdOf ByteArray.empty l1 (a : Int) = nm := ⟨_, rfl⟩
 rw [hnm] at hx
 have HN := yA hnm
 have r0 : ((a : Int) < (l1.length : Int)) = True := eq_true (by omega)
 have r1 : (a < l1.length) = True := eq_true ha
 have r2 : decide ((l1.length : Int) ≤ (a : Int)) = false := yM (by omega)
 have r3 : ((l1.length : Int) ≤ (a : Int)) = False := eq_false (by omega)
 have r4 : (l1.length ≤ a) = False := eq_false (by omega)
 rw [hnm]
 clear ho hv hC ha hnm
 go_enter Tryd.func16, Tryd.ntmps16
 go_upto_region 1 with (first | ((with_reducible refine yP (N := 2) rfl ?_); refine yQ ?hg (N := 2) ?hd (cs := #[.slice A0 l0.length c0, .slice (some ad) l1.length c1, .slice A2 l2.length c2, .int .i64 a3, .int .i64 a4, .int .i64 a5, .int .i64 a6, .slice A7 n7 c7]) (t := 26) ?hr ?_; (case hd => rfl); (case hg => rfl); (case hr => first | (go_simp; done) | (go_simp; rfl)); intro gp hg wb2 hbox hb; replace HB := yA (yB HB.out hb); have BKP := yA hbox; clear hg hb hbox) | ((with_reducible refine yP (N := 3) rfl ?_); refine yQ ?hg (N := 3) ?hd (cs := #[.int .i64 op, .int .i64 (a : Int), .int .i64 b]) (t := 28) ?hr ?_; (case hd => rfl); (case hg => rfl); (case hr => first | (go_simp; done) | (go_simp; rfl)); intro gi hg wb3 hbox hb; replace BKP := yA (yC BKP.out hb); replace HB := yA (yB HB.out hb); have BKI := yA hbox; clear hg hb hbox))
 have hp0 := yR BKP.out 0
 have hp1 := yR BKP.out 1
 have hp2 := yR BKP.out 2
 have hp3 := yR BKP.out 3
 have hp4 := yR BKP.out 4
 have hp5 := yR BKP.out 5
 have hp6 := yR BKP.out 6
 have hp7 := yR BKP.out 7
 have hi0 := yR BKI.out 0
 have hi1 := yR BKI.out 1
 have hi2 := yR BKI.out 2
 go_upto_region 19 with (first | (go_at_call 33; refine (rval_any op a b _ (GA.below HG.out HB.out)).mono ?_; rintro e wv ⟨rfl, hb⟩; replace HB := yA (yB HB.out hb); replace BKP := yA (yC BKP.out hb); replace BKI := yA (yC BKI.out hb); rw [HV.out]; have hp0 := yR BKP.out 0; have hp1 := yR BKP.out 1; have hp2 := yR BKP.out 2; have hp3 := yR BKP.out 3; have hp4 := yR BKP.out 4; have hp5 := yR BKP.out 5; have hp6 := yR BKP.out 6; have hp7 := yR BKP.out 7; have hi0 := yR BKI.out 0; have hi1 := yR BKI.out 1; have hi2 := yR BKI.out 2; clear hb) | (go_at_call 34; refine (rnam_any op HOP.out _ (GA.below HG.out HB.out)).mono ?_; rintro e wn ⟨rfl, hb⟩; replace HB := yA (yB HB.out hb); replace BKP := yA (yC BKP.out hb); replace BKI := yA (yC BKI.out hb); have hp0 := yR BKP.out 0; have hp1 := yR BKP.out 1; have hp2 := yR BKP.out 2; have hp3 := yR BKP.out 3; have hp4 := yR BKP.out 4; have hp5 := yR BKP.out 5; have hp6 := yR BKP.out 6; have hp7 := yR BKP.out 7; have hi0 := yR BKI.out 0; have hi1 := yR BKI.out 1; have hi2 := yR BKI.out 2; clear hb) | ((with_reducible refine yP (N := 21) rfl ?_); refine Kd.R_lit Kd.string _ 9 ?hg (N := 21) ?hd (xs := [(nmW op)]) (inner := [.string (nmW op)]) (ok := fun _ => True) (okp := fun _ => True) ?hr ?hp (fun _ hk => hk) trivial (Below.refl _ _) (Nat.le_refl _) (by simp) ?_; (case hd => rfl); (case hg => rfl); (case hr => first | (go_simp; done) | (go_simp; rfl)); (case hp => exact (Reps.one (show Kd.M Kd.string _ _ _ (nmW op) [.string (nmW op)] from rfl) (Reps.none _ _))); intro v1 wr hr hb _ _; have HR1 := yA (Kd.R_lower hr HB.out.size); replace HB := yA (yB HB.out hb); replace BKP := yA (yC BKP.out hb); replace BKI := yA (yC BKI.out hb); have hp0 := yR BKP.out 0; have hp1 := yR BKP.out 1; have hp2 := yR BKP.out 2; have hp3 := yR BKP.out 3; have hp4 := yR BKP.out 4; have hp5 := yR BKP.out 5; have hp6 := yR BKP.out 6; have hp7 := yR BKP.out 7; have hi0 := yR BKI.out 0; have hi1 := yR BKI.out 1; have hi2 := yR BKI.out 2; clear hr hb))
 have hup := HB.out
 replace hx := (hup.cell (World.block_lt_of_cell? w _ hx)).trans hx
 clear hup
 go_wp2_with (first | ((with_reducible refine yP (N := 86) rfl ?_); refine Kd.R_lit Kd.string _ 9 ?hg (N := 86) ?hd (xs := [nm]) (inner := [.string nm]) (ok := fun _ => True) (okp := fun _ => True) ?hr ?hp (fun _ hk => hk) trivial (Below.refl _ _) (Nat.le_refl _) (by simp) ?_; (case hd => rfl); (case hg => rfl); (case hr => first | (go_simp; done) | (go_simp; rfl)); (case hp => exact (Reps.one (show Kd.M Kd.string _ _ _ nm [.string nm] from rfl) (Reps.none _ _))); intro v2 wr hr hb _ _; have HR2 := yA (Kd.R_lower hr HB.out.size); replace HB := yA (yB HB.out hb); replace BKP := yA (yC BKP.out hb); replace BKI := yA (yC BKI.out hb); replace HR1 := yA (Kd.R_below HR1.out hb); obtain ⟨A9, c9, e9⟩ := Kd.R_slice hr; subst e9; clear hr hb) | ((with_reducible refine gate_builtin (b := .append) (xs := #[.tmp 79, .tmp 86]) rfl ?_); at_builtin; refine Kd.R_append_rows Kd.string (w0 := w) w.heap.size rfl (.tmp 79) (.tmp 86) 22 9 (.string ⟨#[]⟩) 16 rfl Tryd.underlying22 info9 rfl (by decide) (by omega) v1 [nmW op] [nm] _ _ _ (fun _ => True) (fun _ => False) rfl rfl ?aO ?aR (fun _ _ h => h) (fun _ h => h.elim) ?aF ?aB ?aS ?aL ?_; (case aR => exact (Kd.R_reads' HR2.out).2.2); (case aB => exact HB.out); (case aF => exact (fun _ _ => trivial)); (case aO => exact HR1.out); (case aS => exact HB.out.size); (case aL => simp); intro v3 w3 ho hb _ _; have HR3 := yA ho; clear ho HB; have HB := yA hb; clear hb))
 go_ret2
 exact ⟨v3, rfl, HR3.out, HB.out⟩
set_option maxHeartbeats 8000000 in
set_option maxRecDepth 100000 in
theorem rin_ratio (A0 A1 A2 A7 : Option Addr) (c0 c1 c2 c7 n7 : Nat) (l0 l1 : List ByteArray) (l2 : List Int) (a3 a4 a5 a6 : Int) (op : Int) (a : Nat) (b : Int) (w : World) (hG : GA w) (ho : op = 18) (hv : valid op (a : Int) b = 0) (ha : a < 5) :
  Calls Tryd.prog 16 #[.agg #[.slice A0 l0.length c0, .slice A1 l1.length c1, .slice A2 l2.length c2, .int .i64 a3, .int .i64 a4, .int .i64 a5, .int .i64 a6, .slice A7 n7 c7], .agg #[.int .i64 op, .int .i64 (a : Int), .int .i64 b]] w fun e w' => ∃ v, e = .returned (.tuple #[v, .int .i64 0]) ∧ Kd.R Kd.string 9 w' w.heap.size (fun _ => True) v (nmW op :: [modeW a]) ∧ Below w.heap.size w w' := by
 have hu26 := Tryd.underlying26
 have hu28 := Tryd.underlying28
 have HB := yA (Below.refl w.heap.size w)
 have HG := yA hG
 clear hG
 have HOP := yA (show 0 ≤ op ∧ op < 29 by omega)
 have o1 : (op == 1) = false := beq_eq_false_iff_ne.2 (by omega)
 have o3 : (op == 3) = false := beq_eq_false_iff_ne.2 (by omega)
 have o18 : (op == 18) = true := beq_iff_eq.2 ho
 have HV := yA hv
 have hx := HG.out.rmode a ha
 obtain ⟨nm, hnm⟩ : ∃ nm, modeW a = nm := ⟨_, rfl⟩
 rw [hnm] at hx ⊢
 have r0 : ((a : Int) < 5) = True := eq_true (by omega)
 have r1 : (a < 5) = True := eq_true ha
 clear ho hv ha hnm
 go_enter Tryd.func16, Tryd.ntmps16
 go_upto_region 1 with (first | ((with_reducible refine yP (N := 2) rfl ?_); refine yQ ?hg (N := 2) ?hd (cs := #[.slice A0 l0.length c0, .slice A1 l1.length c1, .slice A2 l2.length c2, .int .i64 a3, .int .i64 a4, .int .i64 a5, .int .i64 a6, .slice A7 n7 c7]) (t := 26) ?hr ?_; (case hd => rfl); (case hg => rfl); (case hr => first | (go_simp; done) | (go_simp; rfl)); intro gp hg wb2 hbox hb; replace HB := yA (yB HB.out hb); have BKP := yA hbox; clear hg hb hbox) | ((with_reducible refine yP (N := 3) rfl ?_); refine yQ ?hg (N := 3) ?hd (cs := #[.int .i64 op, .int .i64 (a : Int), .int .i64 b]) (t := 28) ?hr ?_; (case hd => rfl); (case hg => rfl); (case hr => first | (go_simp; done) | (go_simp; rfl)); intro gi hg wb3 hbox hb; replace BKP := yA (yC BKP.out hb); replace HB := yA (yB HB.out hb); have BKI := yA hbox; clear hg hb hbox))
 have hp0 := yR BKP.out 0
 have hp1 := yR BKP.out 1
 have hp2 := yR BKP.out 2
 have hp3 := yR BKP.out 3
 have hp4 := yR BKP.out 4
 have hp5 := yR BKP.out 5
 have hp6 := yR BKP.out 6
 have hp7 := yR BKP.out 7
 have hi0 := yR BKI.out 0
 have hi1 := yR BKI.out 1
 have hi2 := yR BKI.out 2
 go_upto_region 15 with (first | (go_at_call 33; refine (rval_any op a b _ (GA.below HG.out HB.out)).mono ?_; rintro e wv ⟨rfl, hb⟩; replace HB := yA (yB HB.out hb); replace BKP := yA (yC BKP.out hb); replace BKI := yA (yC BKI.out hb); rw [HV.out]; have hp0 := yR BKP.out 0; have hp1 := yR BKP.out 1; have hp2 := yR BKP.out 2; have hp3 := yR BKP.out 3; have hp4 := yR BKP.out 4; have hp5 := yR BKP.out 5; have hp6 := yR BKP.out 6; have hp7 := yR BKP.out 7; have hi0 := yR BKI.out 0; have hi1 := yR BKI.out 1; have hi2 := yR BKI.out 2; clear hb) | (go_at_call 34; refine (rnam_any op HOP.out _ (GA.below HG.out HB.out)).mono ?_; rintro e wn ⟨rfl, hb⟩; replace HB := yA (yB HB.out hb); replace BKP := yA (yC BKP.out hb); replace BKI := yA (yC BKI.out hb); have hp0 := yR BKP.out 0; have hp1 := yR BKP.out 1; have hp2 := yR BKP.out 2; have hp3 := yR BKP.out 3; have hp4 := yR BKP.out 4; have hp5 := yR BKP.out 5; have hp6 := yR BKP.out 6; have hp7 := yR BKP.out 7; have hi0 := yR BKI.out 0; have hi1 := yR BKI.out 1; have hi2 := yR BKI.out 2; clear hb) | ((with_reducible refine yP (N := 21) rfl ?_); refine Kd.R_lit Kd.string _ 9 ?hg (N := 21) ?hd (xs := [(nmW op)]) (inner := [.string (nmW op)]) (ok := fun _ => True) (okp := fun _ => True) ?hr ?hp (fun _ hk => hk) trivial (Below.refl _ _) (Nat.le_refl _) (by simp) ?_; (case hd => rfl); (case hg => rfl); (case hr => first | (go_simp; done) | (go_simp; rfl)); (case hp => exact (Reps.one (show Kd.M Kd.string _ _ _ (nmW op) [.string (nmW op)] from rfl) (Reps.none _ _))); intro v1 wr hr hb _ _; have HR1 := yA (Kd.R_lower hr HB.out.size); replace HB := yA (yB HB.out hb); replace BKP := yA (yC BKP.out hb); replace BKI := yA (yC BKI.out hb); have hp0 := yR BKP.out 0; have hp1 := yR BKP.out 1; have hp2 := yR BKP.out 2; have hp3 := yR BKP.out 3; have hp4 := yR BKP.out 4; have hp5 := yR BKP.out 5; have hp6 := yR BKP.out 6; have hp7 := yR BKP.out 7; have hi0 := yR BKI.out 0; have hi1 := yR BKI.out 1; have hi2 := yR BKI.out 2; clear hr hb))
 have hup := HB.out
 replace hx := (hup.cell (World.block_lt_of_cell? w _ hx)).trans hx
 clear hup
 go_wp2_with (first | ((with_reducible refine yP (N := 69) rfl ?_); refine Kd.R_lit Kd.string _ 9 ?hg (N := 69) ?hd (xs := [nm]) (inner := [.string nm]) (ok := fun _ => True) (okp := fun _ => True) ?hr ?hp (fun _ hk => hk) trivial (Below.refl _ _) (Nat.le_refl _) (by simp) ?_; (case hd => rfl); (case hg => rfl); (case hr => first | (go_simp; done) | (go_simp; rfl)); (case hp => exact (Reps.one (show Kd.M Kd.string _ _ _ nm [.string nm] from rfl) (Reps.none _ _))); intro v2 wr hr hb _ _; have HR2 := yA (Kd.R_lower hr HB.out.size); replace HB := yA (yB HB.out hb); replace BKP := yA (yC BKP.out hb); replace BKI := yA (yC BKI.out hb); replace HR1 := yA (Kd.R_below HR1.out hb); obtain ⟨A9, c9, e9⟩ := Kd.R_slice hr; subst e9; clear hr hb) | ((with_reducible refine gate_builtin (b := .append) (xs := #[.tmp 64, .tmp 69]) rfl ?_); at_builtin; refine Kd.R_append_rows Kd.string (w0 := w) w.heap.size rfl (.tmp 64) (.tmp 69) 22 9 (.string ⟨#[]⟩) 16 rfl Tryd.underlying22 info9 rfl (by decide) (by omega) v1 [nmW op] [nm] _ _ _ (fun _ => True) (fun _ => False) rfl rfl ?aO ?aR (fun _ _ h => h) (fun _ h => h.elim) ?aF ?aB ?aS ?aL ?_; (case aR => exact (Kd.R_reads' HR2.out).2.2); (case aB => exact HB.out); (case aF => exact (fun _ _ => trivial)); (case aO => exact HR1.out); (case aS => exact HB.out.size); (case aL => simp); intro v3 w3 ho hb _ _; have HR3 := yA ho; clear ho HB; have HB := yA hb; clear hb))
 go_ret2
 exact ⟨v3, rfl, HR3.out, HB.out⟩
set_option maxHeartbeats 8000000 in
set_option maxRecDepth 100000 in
theorem rin_none (A0 A1 A2 A7 : Option Addr) (c0 c1 c2 c7 n7 : Nat) (l0 l1 : List ByteArray) (l2 : List Int) (a3 a4 a5 a6 : Int) (op a b : Int) (w : World) (hG : GA w) (h1 : op ≠ 1) (h3 : op ≠ 3) (h28 : op ≠ 28) (h18 : op ≠ 18) (hop : 0 ≤ op ∧ op < 29) (hv : valid op a b = 0) (h0 : opn op = 0) :
  Calls Tryd.prog 16 #[.agg #[.slice A0 l0.length c0, .slice A1 l1.length c1, .slice A2 l2.length c2, .int .i64 a3, .int .i64 a4, .int .i64 a5, .int .i64 a6, .slice A7 n7 c7], .agg #[.int .i64 op, .int .i64 a, .int .i64 b]] w fun e w' => ∃ v, e = .returned (.tuple #[v, .int .i64 0]) ∧ Kd.R Kd.string 9 w' w.heap.size (fun _ => True) v [nmW op] ∧ Below w.heap.size w w' := by
 have hu26 := Tryd.underlying26
 have hu28 := Tryd.underlying28
 have HB := yA (Below.refl w.heap.size w)
 have HG := yA hG
 clear hG
 have o1 : (op == 1) = false := beq_eq_false_iff_ne.2 (by omega)
 have o3 : (op == 3) = false := beq_eq_false_iff_ne.2 (by omega)
 have o28 : (op == 28) = false := beq_eq_false_iff_ne.2 (by omega)
 have o18 : (op == 18) = false := beq_eq_false_iff_ne.2 (by omega)
 have HOP := yA hop
 have HV := yA hv
 have E0 := yA h0
 clear h1 h3 h28 h18 hop hv h0
 go_enter Tryd.func16, Tryd.ntmps16
 go_upto_region 1 with (first | ((with_reducible refine yP (N := 2) rfl ?_); refine yQ ?hg (N := 2) ?hd (cs := #[.slice A0 l0.length c0, .slice A1 l1.length c1, .slice A2 l2.length c2, .int .i64 a3, .int .i64 a4, .int .i64 a5, .int .i64 a6, .slice A7 n7 c7]) (t := 26) ?hr ?_; (case hd => rfl); (case hg => rfl); (case hr => first | (go_simp; done) | (go_simp; rfl)); intro gp hg wb2 hbox hb; replace HB := yA (yB HB.out hb); have BKP := yA hbox; clear hg hb hbox) | ((with_reducible refine yP (N := 3) rfl ?_); refine yQ ?hg (N := 3) ?hd (cs := #[.int .i64 op, .int .i64 a, .int .i64 b]) (t := 28) ?hr ?_; (case hd => rfl); (case hg => rfl); (case hr => first | (go_simp; done) | (go_simp; rfl)); intro gi hg wb3 hbox hb; replace BKP := yA (yC BKP.out hb); replace HB := yA (yB HB.out hb); have BKI := yA hbox; clear hg hb hbox))
 have hp0 := yR BKP.out 0
 have hp1 := yR BKP.out 1
 have hp2 := yR BKP.out 2
 have hp3 := yR BKP.out 3
 have hp4 := yR BKP.out 4
 have hp5 := yR BKP.out 5
 have hp6 := yR BKP.out 6
 have hp7 := yR BKP.out 7
 have hi0 := yR BKI.out 0
 have hi1 := yR BKI.out 1
 have hi2 := yR BKI.out 2
 go_wp2_with (first | (go_at_call 33; refine (rval_any op a b _ (GA.below HG.out HB.out)).mono ?_; rintro e wv ⟨rfl, hb⟩; replace HB := yA (yB HB.out hb); replace BKP := yA (yC BKP.out hb); replace BKI := yA (yC BKI.out hb); rw [HV.out]; have hp0 := yR BKP.out 0; have hp1 := yR BKP.out 1; have hp2 := yR BKP.out 2; have hp3 := yR BKP.out 3; have hp4 := yR BKP.out 4; have hp5 := yR BKP.out 5; have hp6 := yR BKP.out 6; have hp7 := yR BKP.out 7; have hi0 := yR BKI.out 0; have hi1 := yR BKI.out 1; have hi2 := yR BKI.out 2; clear hb) | (go_at_call 34; refine (rnam_any op HOP.out _ (GA.below HG.out HB.out)).mono ?_; rintro e wn ⟨rfl, hb⟩; replace HB := yA (yB HB.out hb); replace BKP := yA (yC BKP.out hb); replace BKI := yA (yC BKI.out hb); have hp0 := yR BKP.out 0; have hp1 := yR BKP.out 1; have hp2 := yR BKP.out 2; have hp3 := yR BKP.out 3; have hp4 := yR BKP.out 4; have hp5 := yR BKP.out 5; have hp6 := yR BKP.out 6; have hp7 := yR BKP.out 7; have hi0 := yR BKI.out 0; have hi1 := yR BKI.out 1; have hi2 := yR BKI.out 2; clear hb) | ((with_reducible refine yP (N := 21) rfl ?_); refine Kd.R_lit Kd.string _ 9 ?hg (N := 21) ?hd (xs := [(nmW op)]) (inner := [.string (nmW op)]) (ok := fun _ => True) (okp := fun _ => True) ?hr ?hp (fun _ hk => hk) trivial (Below.refl _ _) (Nat.le_refl _) (by simp) ?_; (case hd => rfl); (case hg => rfl); (case hr => first | (go_simp; done) | (go_simp; rfl)); (case hp => exact (Reps.one (show Kd.M Kd.string _ _ _ (nmW op) [.string (nmW op)] from rfl) (Reps.none _ _))); intro v1 wr hr hb _ _; have HR1 := yA (Kd.R_lower hr HB.out.size); replace HB := yA (yB HB.out hb); replace BKP := yA (yC BKP.out hb); replace BKI := yA (yC BKI.out hb); have hp0 := yR BKP.out 0; have hp1 := yR BKP.out 1; have hp2 := yR BKP.out 2; have hp3 := yR BKP.out 3; have hp4 := yR BKP.out 4; have hp5 := yR BKP.out 5; have hp6 := yR BKP.out 6; have hp7 := yR BKP.out 7; have hi0 := yR BKI.out 0; have hi1 := yR BKI.out 1; have hi2 := yR BKI.out 2; clear hr hb) | (go_at_call 36; refine (ropn_any op HOP.out _ (GA.below HG.out HB.out)).mono ?_; rintro e wn ⟨rfl, hb⟩; replace HR1 := yA (Kd.R_below HR1.out hb); replace HB := yA (yB HB.out hb); replace BKP := yA (yC BKP.out hb); replace BKI := yA (yC BKI.out hb); have hp0 := yR BKP.out 0; have hp1 := yR BKP.out 1; have hp2 := yR BKP.out 2; have hp3 := yR BKP.out 3; have hp4 := yR BKP.out 4; have hp5 := yR BKP.out 5; have hp6 := yR BKP.out 6; have hp7 := yR BKP.out 7; have hi0 := yR BKI.out 0; have hi1 := yR BKI.out 1; have hi2 := yR BKI.out 2; rw [E0.out]; clear hb))
 go_ret2
 exact ⟨v1, rfl, HR1.out, HB.out⟩
set_option maxHeartbeats 8000000 in
set_option maxRecDepth 100000 in
theorem rin_one (A0 A1 A2 A7 : Option Addr) (c0 c1 c2 c7 n7 : Nat) (l0 l1 : List ByteArray) (l2 : List Int) (a3 a4 a5 a6 : Int) (op a b : Int) (w : World) (hG : GA w) (h1 : op ≠ 1) (h3 : op ≠ 3) (h28 : op ≠ 28) (h18 : op ≠ 18) (hop : 0 ≤ op ∧ op < 29) (hv : valid op a b = 0) (h0 : 0 < opn op) (hz : -9223372036854775808 ≤ a ∧ a ≤ 9223372036854775807) :
  Calls Tryd.prog 16 #[.agg #[.slice A0 l0.length c0, .slice A1 l1.length c1, .slice A2 l2.length c2, .int .i64 a3, .int .i64 a4, .int .i64 a5, .int .i64 a6, .slice A7 n7 c7], .agg #[.int .i64 op, .int .i64 a, .int .i64 b]] w fun e w' => ∃ v, e = .returned (.tuple #[v, .int .i64 0]) ∧ Kd.R Kd.string 9 w' w.heap.size (fun _ => True) v (nmW op :: [dec a]) ∧ Below w.heap.size w w' := by
 have hu26 := Tryd.underlying26
 have hu28 := Tryd.underlying28
 have HB := yA (Below.refl w.heap.size w)
 have HG := yA hG
 clear hG
 have o1 : (op == 1) = false := beq_eq_false_iff_ne.2 (by omega)
 have o3 : (op == 3) = false := beq_eq_false_iff_ne.2 (by omega)
 have o28 : (op == 28) = false := beq_eq_false_iff_ne.2 (by omega)
 have o18 : (op == 18) = false := beq_eq_false_iff_ne.2 (by omega)
 have HOP := yA hop
 have HV := yA hv
 have E0 : decide (0 < opn op) = true := yL h0
 have E1 : (0 < opn op) = True := eq_true h0
 have V0 := yA hz.1
 have V1 := yA hz.2
 clear h1 h3 h28 h18 hop hv h0 hz
 go_enter Tryd.func16, Tryd.ntmps16
 go_upto_region 1 with (first | ((with_reducible refine yP (N := 2) rfl ?_); refine yQ ?hg (N := 2) ?hd (cs := #[.slice A0 l0.length c0, .slice A1 l1.length c1, .slice A2 l2.length c2, .int .i64 a3, .int .i64 a4, .int .i64 a5, .int .i64 a6, .slice A7 n7 c7]) (t := 26) ?hr ?_; (case hd => rfl); (case hg => rfl); (case hr => first | (go_simp; done) | (go_simp; rfl)); intro gp hg wb2 hbox hb; replace HB := yA (yB HB.out hb); have BKP := yA hbox; clear hg hb hbox) | ((with_reducible refine yP (N := 3) rfl ?_); refine yQ ?hg (N := 3) ?hd (cs := #[.int .i64 op, .int .i64 a, .int .i64 b]) (t := 28) ?hr ?_; (case hd => rfl); (case hg => rfl); (case hr => first | (go_simp; done) | (go_simp; rfl)); intro gi hg wb3 hbox hb; replace BKP := yA (yC BKP.out hb); replace HB := yA (yB HB.out hb); have BKI := yA hbox; clear hg hb hbox))
 have hp0 := yR BKP.out 0
 have hp1 := yR BKP.out 1
 have hp2 := yR BKP.out 2
 have hp3 := yR BKP.out 3
 have hp4 := yR BKP.out 4
 have hp5 := yR BKP.out 5
 have hp6 := yR BKP.out 6
 have hp7 := yR BKP.out 7
 have hi0 := yR BKI.out 0
 have hi1 := yR BKI.out 1
 have hi2 := yR BKI.out 2
 go_wp2_with (first | (go_at_call 33; refine (rval_any op a b _ (GA.below HG.out HB.out)).mono ?_; rintro e wv ⟨rfl, hb⟩; replace HB := yA (yB HB.out hb); replace BKP := yA (yC BKP.out hb); replace BKI := yA (yC BKI.out hb); rw [HV.out]; have hp0 := yR BKP.out 0; have hp1 := yR BKP.out 1; have hp2 := yR BKP.out 2; have hp3 := yR BKP.out 3; have hp4 := yR BKP.out 4; have hp5 := yR BKP.out 5; have hp6 := yR BKP.out 6; have hp7 := yR BKP.out 7; have hi0 := yR BKI.out 0; have hi1 := yR BKI.out 1; have hi2 := yR BKI.out 2; clear hb) | (go_at_call 34; refine (rnam_any op HOP.out _ (GA.below HG.out HB.out)).mono ?_; rintro e wn ⟨rfl, hb⟩; replace HB := yA (yB HB.out hb); replace BKP := yA (yC BKP.out hb); replace BKI := yA (yC BKI.out hb); have hp0 := yR BKP.out 0; have hp1 := yR BKP.out 1; have hp2 := yR BKP.out 2; have hp3 := yR BKP.out 3; have hp4 := yR BKP.out 4; have hp5 := yR BKP.out 5; have hp6 := yR BKP.out 6; have hp7 := yR BKP.out 7; have hi0 := yR BKI.out 0; have hi1 := yR BKI.out 1; have hi2 := yR BKI.out 2; clear hb) | ((with_reducible refine yP (N := 21) rfl ?_); refine Kd.R_lit Kd.string _ 9 ?hg (N := 21) ?hd (xs := [(nmW op)]) (inner := [.string (nmW op)]) (ok := fun _ => True) (okp := fun _ => True) ?hr ?hp (fun _ hk => hk) trivial (Below.refl _ _) (Nat.le_refl _) (by simp) ?_; (case hd => rfl); (case hg => rfl); (case hr => first | (go_simp; done) | (go_simp; rfl)); (case hp => exact (Reps.one (show Kd.M Kd.string _ _ _ (nmW op) [.string (nmW op)] from rfl) (Reps.none _ _))); intro v1 wr hr hb _ _; have HR1 := yA (Kd.R_lower hr HB.out.size); replace HB := yA (yB HB.out hb); replace BKP := yA (yC BKP.out hb); replace BKI := yA (yC BKI.out hb); have hp0 := yR BKP.out 0; have hp1 := yR BKP.out 1; have hp2 := yR BKP.out 2; have hp3 := yR BKP.out 3; have hp4 := yR BKP.out 4; have hp5 := yR BKP.out 5; have hp6 := yR BKP.out 6; have hp7 := yR BKP.out 7; have hi0 := yR BKI.out 0; have hi1 := yR BKI.out 1; have hi2 := yR BKI.out 2; clear hr hb) | (go_at_call 36; refine (ropn_any op HOP.out _ (GA.below HG.out HB.out)).mono ?_; rintro e wn ⟨rfl, hb⟩; replace HR1 := yA (Kd.R_below HR1.out hb); replace HB := yA (yB HB.out hb); replace BKP := yA (yC BKP.out hb); replace BKI := yA (yC BKI.out hb); have hp0 := yR BKP.out 0; have hp1 := yR BKP.out 1; have hp2 := yR BKP.out 2; have hp3 := yR BKP.out 3; have hp4 := yR BKP.out 4; have hp5 := yR BKP.out 5; have hp6 := yR BKP.out 6; have hp7 := yR BKP.out 7; have hi0 := yR BKI.out 0; have hi1 := yR BKI.out 1; have hi2 := yR BKI.out 2; clear hb) | (go_at_call 35; refine (rdig_any a V0.out V1.out _).mono ?_; rintro e wt ⟨rfl, hb⟩; replace HR1 := yA (Kd.R_below HR1.out hb); replace HB := yA (yB HB.out hb); replace BKP := yA (yC BKP.out hb); replace BKI := yA (yC BKI.out hb); have hp0 := yR BKP.out 0; have hp1 := yR BKP.out 1; have hp2 := yR BKP.out 2; have hp3 := yR BKP.out 3; have hp4 := yR BKP.out 4; have hp5 := yR BKP.out 5; have hp6 := yR BKP.out 6; have hp7 := yR BKP.out 7; have hi0 := yR BKI.out 0; have hi1 := yR BKI.out 1; have hi2 := yR BKI.out 2; clear hb) | ((with_reducible refine yP (N := 100) rfl ?_); refine Kd.R_lit Kd.string _ 9 ?hg (N := 100) ?hd (xs := [(dec a)]) (inner := [.string (dec a)]) (ok := fun _ => True) (okp := fun _ => True) ?hr ?hp (fun _ hk => hk) trivial (Below.refl _ _) (Nat.le_refl _) (by simp) ?_; (case hd => rfl); (case hg => rfl); (case hr => first | (go_simp; done) | (go_simp; rfl)); (case hp => exact (Reps.one (show Kd.M Kd.string _ _ _ (dec a) [.string (dec a)] from rfl) (Reps.none _ _))); intro v2 wr hr hb _ _; have HR2 := yA (Kd.R_lower hr HB.out.size); replace HB := yA (yB HB.out hb); replace BKP := yA (yC BKP.out hb); replace BKI := yA (yC BKI.out hb); replace HR1 := yA (Kd.R_below HR1.out hb); obtain ⟨A9, c9, e9⟩ := Kd.R_slice hr; subst e9; clear hr hb) | ((with_reducible refine gate_builtin (b := .append) (xs := #[.tmp 96, .tmp 100]) rfl ?_); at_builtin; refine Kd.R_append_rows Kd.string (w0 := w) w.heap.size rfl (.tmp 96) (.tmp 100) 22 9 (.string ⟨#[]⟩) 16 rfl Tryd.underlying22 info9 rfl (by decide) (by omega) v1 [nmW op] [dec a] _ _ _ (fun _ => True) (fun _ => False) rfl rfl ?aO ?aR (fun _ _ h => h) (fun _ h => h.elim) ?aF ?aB ?aS ?aL ?_; (case aR => exact (Kd.R_reads' HR2.out).2.2); (case aB => exact HB.out); (case aF => exact (fun _ _ => trivial)); (case aO => exact HR1.out); (case aS => exact HB.out.size); (case aL => simp); intro v3 w3 ho hb _ _; have HR3 := yA ho; clear ho HB; have HB := yA hb; clear hb))
 go_ret2
 exact ⟨v3, rfl, HR3.out, HB.out⟩
set_option maxHeartbeats 8000000 in
set_option maxRecDepth 100000 in
theorem rin_obs (A0 A1 A2 A7 : Option Addr) (c0 c1 c2 c7 n7 : Nat) (l0 l1 : List ByteArray) (l2 : List Int) (a3 a4 a5 a6 : Int) (op : Int) (a : Nat) (b : Int) (w : World) (hG : GA w) (ho : op = 3) (hv : valid op (a : Int) b = 0) (hC : Kd.string.C w A0 l0.length l0) (ha : a < l0.length) (hz : -9223372036854775808 ≤ b ∧ b ≤ 9223372036854775807) :
  Calls Tryd.prog 16 #[.agg #[.slice A0 l0.length c0, .slice A1 l1.length c1, .slice A2 l2.length c2, .int .i64 a3, .int .i64 a4, .int .i64 a5, .int .i64 a6, .slice A7 n7 c7], .agg #[.int .i64 op, .int .i64 (a : Int), .int .i64 b]] w fun e w' => ∃ v, e = .returned (.tuple #[v, .int .i64 0]) ∧ Kd.R Kd.string 9 w' w.heap.size (fun _ => True) v (nmW op :: [rdOf ByteArray.empty l0 (a : Int), dec b]) ∧ Below w.heap.size w w' := by
 have hu26 := Tryd.underlying26
 have hu28 := Tryd.underlying28
 have HB := yA (Below.refl w.heap.size w)
 have HG := yA hG
 clear hG
 have HOP := yA (show 0 ≤ op ∧ op < 29 by omega)
 have o1 : (op == 1) = false := beq_eq_false_iff_ne.2 (by omega)
 have o3 : (op == 3) = true := beq_iff_eq.2 ho
 have HV := yA hv
 obtain ⟨ad, q, hx⟩ := Kd.at_string hC (a : Int) (by omega) (by omega)
 subst q
 rw [Int.toNat_natCast] at hx
 obtain ⟨nm, hnm⟩ : ∃ nm, rdOf ByteArray.empty l0 (a : Int) = nm := ⟨_, rfl⟩
 rw [hnm] at hx
 have HN := yA hnm
 have r0 : ((a : Int) < (l0.length : Int)) = True := eq_true (by omega)
 have r1 : (a < l0.length) = True := eq_true ha
 have r2 : decide ((l0.length : Int) ≤ (a : Int)) = false := yM (by omega)
 have r3 : ((l0.length : Int) ≤ (a : Int)) = False := eq_false (by omega)
 have r4 : (l0.length ≤ a) = False := eq_false (by omega)
 rw [hnm]
 have V0 := yA hz.1
 have V1 := yA hz.2
 have hx0 := hx
 clear ho hv hC ha hz hnm
 go_enter Tryd.func16, Tryd.ntmps16
 go_upto_region 1 with (first | ((with_reducible refine yP (N := 2) rfl ?_); refine yQ ?hg (N := 2) ?hd (cs := #[.slice (some ad) l0.length c0, .slice A1 l1.length c1, .slice A2 l2.length c2, .int .i64 a3, .int .i64 a4, .int .i64 a5, .int .i64 a6, .slice A7 n7 c7]) (t := 26) ?hr ?_; (case hd => rfl); (case hg => rfl); (case hr => first | (go_simp; done) | (go_simp; rfl)); intro gp hg wb2 hbox hb; replace HB := yA (yB HB.out hb); have BKP := yA hbox; clear hg hb hbox) | ((with_reducible refine yP (N := 3) rfl ?_); refine yQ ?hg (N := 3) ?hd (cs := #[.int .i64 op, .int .i64 (a : Int), .int .i64 b]) (t := 28) ?hr ?_; (case hd => rfl); (case hg => rfl); (case hr => first | (go_simp; done) | (go_simp; rfl)); intro gi hg wb3 hbox hb; replace BKP := yA (yC BKP.out hb); replace HB := yA (yB HB.out hb); have BKI := yA hbox; clear hg hb hbox))
 have hp0 := yR BKP.out 0
 have hp1 := yR BKP.out 1
 have hp2 := yR BKP.out 2
 have hp3 := yR BKP.out 3
 have hp4 := yR BKP.out 4
 have hp5 := yR BKP.out 5
 have hp6 := yR BKP.out 6
 have hp7 := yR BKP.out 7
 have hi0 := yR BKI.out 0
 have hi1 := yR BKI.out 1
 have hi2 := yR BKI.out 2
 go_upto_region 13 with (first | (go_at_call 33; refine (rval_any op a b _ (GA.below HG.out HB.out)).mono ?_; rintro e wv ⟨rfl, hb⟩; replace HB := yA (yB HB.out hb); replace BKP := yA (yC BKP.out hb); replace BKI := yA (yC BKI.out hb); rw [HV.out]; have hp0 := yR BKP.out 0; have hp1 := yR BKP.out 1; have hp2 := yR BKP.out 2; have hp3 := yR BKP.out 3; have hp4 := yR BKP.out 4; have hp5 := yR BKP.out 5; have hp6 := yR BKP.out 6; have hp7 := yR BKP.out 7; have hi0 := yR BKI.out 0; have hi1 := yR BKI.out 1; have hi2 := yR BKI.out 2; clear hb) | (go_at_call 34; refine (rnam_any op HOP.out _ (GA.below HG.out HB.out)).mono ?_; rintro e wn ⟨rfl, hb⟩; replace HB := yA (yB HB.out hb); replace BKP := yA (yC BKP.out hb); replace BKI := yA (yC BKI.out hb); have hp0 := yR BKP.out 0; have hp1 := yR BKP.out 1; have hp2 := yR BKP.out 2; have hp3 := yR BKP.out 3; have hp4 := yR BKP.out 4; have hp5 := yR BKP.out 5; have hp6 := yR BKP.out 6; have hp7 := yR BKP.out 7; have hi0 := yR BKI.out 0; have hi1 := yR BKI.out 1; have hi2 := yR BKI.out 2; clear hb) | ((with_reducible refine yP (N := 21) rfl ?_); refine Kd.R_lit Kd.string _ 9 ?hg (N := 21) ?hd (xs := [(nmW op)]) (inner := [.string (nmW op)]) (ok := fun _ => True) (okp := fun _ => True) ?hr ?hp (fun _ hk => hk) trivial (Below.refl _ _) (Nat.le_refl _) (by simp) ?_; (case hd => rfl); (case hg => rfl); (case hr => first | (go_simp; done) | (go_simp; rfl)); (case hp => exact (Reps.one (show Kd.M Kd.string _ _ _ (nmW op) [.string (nmW op)] from rfl) (Reps.none _ _))); intro v1 wr hr hb _ _; have HR1 := yA (Kd.R_lower hr HB.out.size); replace HB := yA (yB HB.out hb); replace BKP := yA (yC BKP.out hb); replace BKI := yA (yC BKI.out hb); have hp0 := yR BKP.out 0; have hp1 := yR BKP.out 1; have hp2 := yR BKP.out 2; have hp3 := yR BKP.out 3; have hp4 := yR BKP.out 4; have hp5 := yR BKP.out 5; have hp6 := yR BKP.out 6; have hp7 := yR BKP.out 7; have hi0 := yR BKI.out 0; have hi1 := yR BKI.out 1; have hi2 := yR BKI.out 2; clear hr hb))
 have hup := HB.out
 replace hx := (hup.cell (World.block_lt_of_cell? w _ hx)).trans hx
 clear hup
 refine start_ (n := 14) (S := fun w' => w'.cell? ⟨gp, 0, none⟩ = some (.slice (some ad) l0.length c0) ∧ w'.cell? ⟨gi, 1, none⟩ = some (.int .i64 (a : Int)) ∧ w'.cell? ⟨gi, 2, none⟩ = some (.int .i64 b) ∧ w'.cell? (ad.add a) = some (.string nm)) (ds := []) #[false, false, false, false, false, false, false, false, false, false, false, false, false, false] (by kernel_rfl) rfl rfl ⟨(yR BKP.out 0).trans rfl, (yR BKI.out 1).trans rfl, (yR BKI.out 2).trans rfl, hx⟩ (fun hHeld => ?_); refine with_tabW rinT_tab rinT_bits (fun HT_ HW_ => ?_)
 replace HB := yA (yD HB.out)
 replace BKP := yA (yH BKP.out)
 replace BKI := yA (yH BKI.out)
 replace HR1 := yA (Kd.R_drew HR1.out)
 replace hx : (World.drew _).cell? (ad.add a) = some (.string nm) := hx
 generalize World.drew _ = wd at HB BKP BKI HR1 hx hHeld ⊢
 refine pure_ (i := 0) (N := some 50) (v := ?_) (a' := ?_) #[true, false, false, false, false, false, false, false, false, false, false, false, false, false] rfl rfl (any_of HT_.out (by kernel_rfl)) (fun _ _ _ h => h) (Or.inl ⟨by rfl, ?_⟩) ?_ ?_
 rotate_left
 ·intro w'
  go_simp
  with_reducible rfl
 rotate_left
 ·simp only [Act.put, lA, lB, lC, i64_w, i32_w]
  rfl
 refine pure_ (i := 1) (N := some 51) (v := ?_) (a' := ?_) #[true, true, false, false, false, false, false, false, false, false, false, false, false, false] rfl rfl (any_of HT_.out (by kernel_rfl)) (fun _ _ _ h => h) (Or.inl ⟨by rfl, ?_⟩) ?_ ?_
 rotate_left
 ·intro w'
  go_simp
  with_reducible rfl
 rotate_left
 ·simp only [Act.put, lA, lB, lC, i64_w, i32_w]
  rfl
 refine pure_ (i := 3) (N := some 53) (v := ?_) (a' := ?_) #[true, true, false, true, false, false, false, false, false, false, false, false, false, false] rfl rfl (any_of HT_.out (by kernel_rfl)) (fun _ _ _ h => h) (Or.inl ⟨by rfl, ?_⟩) ?_ ?_
 rotate_left
 ·intro w'
  go_simp
  with_reducible rfl
 rotate_left
 ·simp only [Act.put, lA, lB, lC, i64_w, i32_w]
  rfl
 refine pure_ (i := 7) (N := some 57) (v := ?_) (a' := ?_) #[true, true, false, true, false, false, false, true, false, false, false, false, false, false] rfl rfl (any_of HT_.out (by kernel_rfl)) (fun _ _ _ h => h) (Or.inl ⟨by rfl, ?_⟩) ?_ ?_
 rotate_left
 ·intro w'
  go_simp
  with_reducible rfl
 rotate_left
 ·simp only [Act.put, lA, lB, lC, i64_w, i32_w]
  rfl
 refine take_ (i := 2) (N := some 52) (v := ?_) (a' := ?_) #[true, true, true, true, false, false, false, true, false, false, false, false, false, false] rfl rfl (take_ofW HT_.out HW_.out (by kernel_rfl)) (fun _ _ _ h => h) (Or.inl ⟨by rfl, ?_⟩) hHeld ?_ ?_
 rotate_left
 ·rintro w' ⟨s0, s1, s2, s3⟩
  go_simp
  with_reducible rfl
 rotate_left
 ·simp only [Act.put, lA, lB, lC, i64_w, i32_w]
  rfl
 refine take_ (i := 4) (N := some 54) (v := ?_) (a' := ?_) #[true, true, true, true, true, false, false, true, false, false, false, false, false, false] rfl rfl (take_ofW HT_.out HW_.out (by kernel_rfl)) (fun _ _ _ h => h) (Or.inl ⟨by rfl, ?_⟩) hHeld ?_ ?_
 rotate_left
 ·rintro w' ⟨s0, s1, s2, s3⟩
  go_simp
  with_reducible rfl
 rotate_left
 ·simp only [Act.put, lA, lB, lC, i64_w, i32_w]
  rfl
 refine take_ (i := 8) (N := some 58) (v := ?_) (a' := ?_) #[true, true, true, true, true, false, false, true, true, false, false, false, false, false] rfl rfl (take_ofW HT_.out HW_.out (by kernel_rfl)) (fun _ _ _ h => h) (Or.inl ⟨by rfl, ?_⟩) hHeld ?_ ?_
 rotate_left
 ·rintro w' ⟨s0, s1, s2, s3⟩
  go_simp
  with_reducible rfl
 rotate_left
 ·simp only [Act.put, lA, lB, lC, i64_w, i32_w]
  rfl
 refine pure_ (i := 5) (N := some 55) (v := ?_) (a' := ?_) #[true, true, true, true, true, true, false, true, true, false, false, false, false, false] rfl rfl (any_of HT_.out (by kernel_rfl)) (fun _ _ _ h => h) (Or.inl ⟨by rfl, ?_⟩) ?_ ?_
 rotate_left
 ·intro w'
  go_simp
  with_reducible rfl
 rotate_left
 ·simp only [Act.put, lA, lB, lC, i64_w, i32_w]
  rfl
 refine take_ (i := 6) (N := some 56) (v := ?_) (a' := ?_) #[true, true, true, true, true, true, true, true, true, false, false, false, false, false] rfl rfl (take_ofW HT_.out HW_.out (by kernel_rfl)) (fun _ _ _ h => h) (Or.inl ⟨by rfl, ?_⟩) hHeld ?_ ?_
 rotate_left
 ·rintro w' ⟨s0, s1, s2, s3⟩
  go_simp
  with_reducible rfl
 rotate_left
 ·simp only [Act.put, lA, lB, lC, i64_w, i32_w]
  rfl
 refine one_ (i := 9) (N := some 59) #[true, true, true, true, true, true, true, true, true, true, false, false, false, false] rfl rfl (one_of HT_.out (by kernel_rfl)) (by decide) (fun K hK => ?_)
 refine goes_ Tryd.func35 (by kernel_rfl) rfl #[.int .i64 b] (by rfl) rfl rfl (by (try simp only [List.map_toArray, List.map_cons, List.map_nil]); first | done | rfl) ?_
 refine (rdig_any b V0.out V1.out _).mono ?_
 rintro e wt ⟨rfl, hb⟩
 refine ⟨_, rfl, ?_⟩
 replace HB := yA (yB HB.out hb)
 replace BKP := yA (yC BKP.out hb)
 replace BKI := yA (yC BKI.out hb)
 replace HR1 := yA (Kd.R_below HR1.out hb)
 replace hx := (hb.cell (World.block_lt_of_cell? _ _ hx)).trans hx
 clear hb
 refine hK.out _ _ ⟨(yR BKP.out 0).trans rfl, (yR BKI.out 1).trans rfl, (yR BKI.out 2).trans rfl, hx⟩ (fun hHeld => ?_)
 clear hK K
 refine norm_ (a' := ?_) ?_ ?_
 rotate_left
 ·show Act.put _ (some 59) _ = _
  simp only [Act.put, lA, lB, lC, i64_w, i32_w]
  rfl
 refine one_ (i := 10) (N := some 60) #[true, true, true, true, true, true, true, true, true, true, true, false, false, false] rfl rfl (one_of HT_.out (by kernel_rfl)) (by decide) (fun K hK => ?_)
 refine Kd.R_lit_step Kd.string _ 9 (by rfl) (N := 60) rfl (xs := [nm, dec b]) (inner := [.string nm, .string (dec b)]) (ok := fun _ => True) (okp := fun _ => True) ?hr (Reps.one (show Kd.M Kd.string _ _ _ nm [.string nm] from rfl) (Reps.one (show Kd.M Kd.string _ _ _ (dec b) [.string (dec b)] from rfl) (Reps.none _ _))) (fun _ hk => hk) trivial (Below.refl _ _) (Nat.le_refl _) (by simp) ?_
 (case hr => first | (go_simp; done) | (go_simp; rfl))
 intro v2 wr hr hb _ _
 have HR2 := yA (Kd.R_lower hr HB.out.size)
 replace HB := yA (yB HB.out hb)
 replace BKP := yA (yC BKP.out hb)
 replace BKI := yA (yC BKI.out hb)
 replace HR1 := yA (Kd.R_below HR1.out hb)
 replace hx := (hb.cell (World.block_lt_of_cell? _ _ hx)).trans hx
 obtain ⟨A9, c9, e9⟩ := Kd.R_slice hr
 subst e9
 clear hr hb
 refine hK.out _ _ ⟨(yR BKP.out 0).trans rfl, (yR BKI.out 1).trans rfl, (yR BKI.out 2).trans rfl, hx⟩ (fun hHeld => ?_)
 clear hK K
 refine norm_ (a' := ?_) ?_ ?_
 rotate_left
 ·show Act.put _ (some 60) _ = _
  simp only [Act.put, lA, lB, lC, i64_w, i32_w]
  rfl
 refine one_ (i := 11) (N := some 61) #[true, true, true, true, true, true, true, true, true, true, true, true, false, false] rfl rfl (one_of HT_.out (by kernel_rfl)) (by decide) (fun K hK => ?_)
 refine Kd.R_append_rows_step Kd.string (w0 := w) w.heap.size (by rfl) (.tmp 50) (.tmp 60) 22 9 (.string ⟨#[]⟩) 16 rfl Tryd.underlying22 info9 rfl (by decide) (by omega) v1 [nmW op] [nm, dec b] _ _ _ (fun _ => True) (fun _ => False) rfl rfl ?aO ?aR (fun _ _ h => h) (fun _ h => h.elim) ?aF ?aB ?aS ?aL ?_
 (case aR => exact (Kd.R_reads' HR2.out).2.2)
 (case aB => exact HB.out)
 (case aF => exact (fun _ _ => trivial))
 (case aO => exact HR1.out)
 (case aS => exact HB.out.size)
 (case aL => simp)
 intro v3 w3 ho hb hg hat
 have HR3 := yA ho
 replace BKP := yA (blk_grown BKP.out hg (Kd.R_ne HR1.out BKP.out (by decide)))
 replace BKI := yA (blk_grown BKI.out hg (Kd.R_ne HR1.out BKI.out (by decide)))
 replace hx : w3.cell? (ad.add a) = some (.string nm) := (hb.cell (World.block_lt_of_cell? w _ hx0)).trans hx0
 clear ho HB
 have HB := yA hb
 clear hb hg hat HR1
 refine hK.out _ _ ⟨(yR BKP.out 0).trans rfl, (yR BKI.out 1).trans rfl, (yR BKI.out 2).trans rfl, hx⟩ (fun hHeld => ?_)
 clear hK K
 refine norm_ (a' := ?_) ?_ ?_
 rotate_left
 ·show Act.put _ (some 61) _ = _
  simp only [Act.put, lA, lB, lC, i64_w, i32_w]
  rfl
 refine pure_ (i := 12) (N := some 4) (v := ?_) (a' := ?_) #[true, true, true, true, true, true, true, true, true, true, true, true, true, false] rfl rfl (any_of HT_.out (by kernel_rfl)) (fun _ _ _ h => h) (Or.inl ⟨by rfl, ?_⟩) ?_ ?_
 rotate_left
 ·intro w'
  go_simp
  with_reducible rfl
 rotate_left
 ·simp only [Act.put, lA, lB, lC, i64_w, i32_w]
  rfl
 refine pure_ (i := 13) (N := some 5) (v := ?_) (a' := ?_) #[true, true, true, true, true, true, true, true, true, true, true, true, true, true] rfl rfl (any_of HT_.out (by kernel_rfl)) (fun _ _ _ h => h) (Or.inl ⟨by rfl, ?_⟩) ?_ ?_
 rotate_left
 ·intro w'
  go_simp
  with_reducible rfl
 rotate_left
 ·simp only [Act.put, lA, lB, lC, i64_w, i32_w]
  rfl
 refine done_ (done_of HT_.out (by kernel_rfl)) ?_
 try go_wp2
 go_ret2
 exact ⟨v3, rfl, HR3.out, HB.out⟩
end Go.Proofs.YtjhbiennmambkaaDoor.Pure
