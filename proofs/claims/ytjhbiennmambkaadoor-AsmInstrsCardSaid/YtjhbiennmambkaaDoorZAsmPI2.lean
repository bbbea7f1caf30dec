/- Own text, for this claim: asm.PrintInstr walked. Printed by wip/tools/mkpi.py. -/
import Derived.Test.YtjhbiennmambkaaDoorZAsmPI
namespace Go.Proofs.YtjhbiennmambkaaDoor.Pure
open Go.RowKit Go.Maps Go.WideMaps Go.WideElems Go.Proofs.YtjhbiennmambkaaDoorW.PrintWords Go.Proofs.YtjhbiennmambkaaDoorW.PrintLast Go.Proofs.YtjhbiennmambkaaDoorW.PrintMore Go.Proofs.YtjhbiennmambkaaDoor.PAsmInstrs
set_option linter.unusedVariables false
set_option linter.unusedSimpArgs false
theorem wfn (n : Nat) (h : n ≤ 9223372036854775807) : (Lit.int .i64 (n : Int)).wf = true := by
 simp only [Lit.wf, IntKind.min, IntKind.max, IntKind.signed, IntKind.bits, Bool.and_eq_true, decide_eq_true_eq, if_true]; omega
theorem lit_i64' {c c' : Int} (h : (DataW.lit (Lit.int IntKind.i64 c) : DataW Unit) = .lit (.int .i64 c')) : c = c' := by
 simpa only [DataW.lit.injEq, Lit.int.injEq, true_and] using h
theorem val_any (i x y : Int) (w : World) (hG : GA w) : Calls Tryd.prog 12 #[.agg #[.int .i64 i, .int .i64 x, .int .i64 y]] w fun e w' => e = .returned (.int .i64 (valid i x y)) ∧ Below w.heap.size w w' := by
 obtain ⟨t, fr, hK⟩ := hG.kin
 exact valid_any i x y w t fr hK
def nmW (i : Int) : ByteArray := ⟨(kat i.toNat).nm.toArray⟩
theorem nam_any (i : Int) (hi : 0 ≤ i ∧ i < 29) (w : World) (hG : GA w) : Calls Tryd.prog 13 #[.int .i64 i] w fun e w' => e = .returned (.tuple #[.string (nmW i), .int .i64 0]) ∧ Below w.heap.size w w' := by
 obtain ⟨t, fr, hK⟩ := hG.kin
 obtain ⟨j, rfl⟩ : ∃ j : Nat, i = j := ⟨i.toNat, by omega⟩
 refine (name_in t fr j (by omega) w hK).mono ?_
 rintro e w' ⟨rfl, rfl⟩
 exact ⟨by unfold nmW; rw [Int.toNat_natCast], Below.refl _ _⟩
def joinW (xs : List ByteArray) : ByteArray := ⟨(Lib.join (xs.map (·.data.toList)) [32]).toArray⟩
theorem join_any {W : World} {base : Nat} {ok : Nat → Prop} {v : Value} {xs : List ByteArray} (h : Kd.R Kd.string 9 W base ok v xs) (hne : xs ≠ []) (hlen : (Lib.join (xs.map (·.data.toList)) [32]).length ≤ 140737488355328) (hn : xs.length ≤ 140737488355328) :
  Calls Tryd.prog 14 #[v, .string (⟨#[32]⟩ : ByteArray)] W fun e w' => e = .returned (.string (joinW xs)) ∧ Below W.heap.size W w' := by
 have hpos : 0 < xs.length := List.length_pos_iff.2 hne
 have h2 := h
 obtain ⟨h0, inner, hown, hr⟩ := h
 rcases hown.2 with ⟨rfl, hx⟩ | ⟨g, cap, cur, rfl, hbg, hg, hnc, hcm, hcs, htake⟩
 ·omega
 ·have hC := (Kd.R_reads' h2).2.2
  refine (Shelf.Tryd.strings_Join g 0 cap xs ⟨#[32]⟩ W (fun j x hj => ?_) (Array.getElem?_eq_some_iff.1 hg).1 hn hnc hlen).mono fun e w' he => he
  have hjl : j < xs.length := (List.getElem?_eq_some_iff.1 hj).1
  obtain ⟨ad, e1, hx⟩ := Kd.at_string hC (j : Int) (by omega) (by omega)
  cases e1
  rw [Int.toNat_natCast] at hx
  rw [add_plain] at hx
  rw [Nat.zero_add, hx]
  congr 2
  unfold rdOf
  rw [Int.toNat_natCast, List.getD_eq_getElem?_getD, hj]
  rfl
set_option maxHeartbeats 8000000 in
set_option maxRecDepth 100000 in
theorem pi_err (A0 A1 A2 A7 : Option Addr) (c0 c1 c2 c7 n7 : Nat) (l0 l1 : List ByteArray) (l2 : List Int) (a3 a4 a5 a6 : Int) (op a b : Int) (w : World) (hG : GA w) (hw : (Lit.int .i64 op).wf = true) (L0 : l0.length ≤ 9223372036854775807) (L1 : l1.length ≤ 9223372036854775807) (L2 : l2.length ≤ 9223372036854775807) (hv : valid op a b = 111) :
  Calls Tryd.prog 6 #[.agg #[.slice A0 l0.length c0, .slice A1 l1.length c1, .slice A2 l2.length c2, .int .i64 a3, .int .i64 a4, .int .i64 a5, .int .i64 a6, .slice A7 n7 c7], .agg #[.int .i64 op, .int .i64 a, .int .i64 b]] w fun e w' => e = .returned (.tuple #[.string (⟨#[]⟩ : ByteArray), .int .i64 111]) ∧ Below w.heap.size w w' := by
 have hu26 := Tryd.underlying26
 have hu28 := Tryd.underlying28
 have KL : Keyed Tryd.prog 3 := int_keyed Tryd.underlying3
 have hz0 : ∀ w : World, (zeroValue 3).run Tryd.prog w = .ok (.int .i64 0) w := fun _ => by kernel_rfl
 have HK := yA (keyOf_int_mk Tryd.underlying3 hw)
 have HB := yA (Below.refl w.heap.size w)
 have HG := yA hG
 replace L0 := yA L0
 replace L1 := yA L1
 replace L2 := yA L2
 have Ll0 := L0
 have Ll1 := L1
 have Ll2 := L2
 clear hG hw
 have HV := yA hv
 clear hv
 go_enter Tryd.func6, Tryd.ntmps6
 go_upto_region 1 with (first | ((with_reducible refine yP (N := 2) rfl ?_); refine yQ ?hg (N := 2) ?hd (cs := #[.slice A0 l0.length c0, .slice A1 l1.length c1, .slice A2 l2.length c2, .int .i64 a3, .int .i64 a4, .int .i64 a5, .int .i64 a6, .slice A7 n7 c7]) (t := 26) ?hr ?_; (case hd => rfl); (case hg => rfl); (case hr => first | (go_simp; done) | (go_simp; rfl)); intro gp hg wb2 hbox hb; replace HB := yA (yB HB.out hb); have BKP := yA hbox; clear hg hb hbox) | ((with_reducible refine yP (N := 3) rfl ?_); refine yQ ?hg (N := 3) ?hd (cs := #[.int .i64 op, .int .i64 a, .int .i64 b]) (t := 28) ?hr ?_; (case hd => rfl); (case hg => rfl); (case hr => first | (go_simp; done) | (go_simp; rfl)); intro gi hg wb3 hbox hb; replace BKP := yA (yC BKP.out hb); replace HB := yA (yB HB.out hb); have BKI := yA hbox; clear hg hb hbox))
 have hp0 := yR BKP.out 0
 have hp1 := yR BKP.out 1
 have hp2 := yR BKP.out 2
 have hp3 := yR BKP.out 3
 have hp4 := yR BKP.out 4
 have hp5 := yR BKP.out 5
 have hp6 := yR BKP.out 6
 have hp7 := yR BKP.out 7
 have hi0 := yR BKI.out 0
 have hi1 := yR BKI.out 1
 have hi2 := yR BKI.out 2
 go_wp2_with (first | (go_at_call 12; refine (val_any op a b _ (GA.below HG.out HB.out)).mono ?_; rintro e wv ⟨rfl, hb⟩; replace HB := yA (yB HB.out hb); replace BKP := yA (yC BKP.out hb); replace BKI := yA (yC BKI.out hb); rw [HV.out]; have hp0 := yR BKP.out 0; have hp1 := yR BKP.out 1; have hp2 := yR BKP.out 2; have hp3 := yR BKP.out 3; have hp4 := yR BKP.out 4; have hp5 := yR BKP.out 5; have hp6 := yR BKP.out 6; have hp7 := yR BKP.out 7; have hi0 := yR BKI.out 0; have hi1 := yR BKI.out 1; have hi2 := yR BKI.out 2; clear hb))
 go_ret2
 exact ⟨rfl, HB.out⟩
set_option maxHeartbeats 8000000 in
set_option maxRecDepth 100000 in
theorem pi_range (A0 A1 A2 A7 : Option Addr) (c0 c1 c2 c7 n7 : Nat) (l0 l1 : List ByteArray) (l2 : List Int) (a3 a4 a5 a6 : Int) (op a b : Int) (w : World) (hG : GA w) (hw : (Lit.int .i64 op).wf = true) (L0 : l0.length ≤ 9223372036854775807) (L1 : l1.length ≤ 9223372036854775807) (L2 : l2.length ≤ 9223372036854775807) (C : Int) (hv : valid op a b = 0) (hH : has (mapD l2.length l0.length l1.length) (.int .i64 op) = true) (hA : (mapD l2.length l0.length l1.length).atKey (.int .i64 op) (.lit (.int .i64 0)) = .lit (.int .i64 C)) (hc : C ≤ a) :
  Calls Tryd.prog 6 #[.agg #[.slice A0 l0.length c0, .slice A1 l1.length c1, .slice A2 l2.length c2, .int .i64 a3, .int .i64 a4, .int .i64 a5, .int .i64 a6, .slice A7 n7 c7], .agg #[.int .i64 op, .int .i64 a, .int .i64 b]] w fun e w' => e = .returned (.tuple #[.string (⟨#[]⟩ : ByteArray), .int .i64 2]) ∧ Below w.heap.size w w' := by
 have hu26 := Tryd.underlying26
 have hu28 := Tryd.underlying28
 have KL : Keyed Tryd.prog 3 := int_keyed Tryd.underlying3
 have hz0 : ∀ w : World, (zeroValue 3).run Tryd.prog w = .ok (.int .i64 0) w := fun _ => by kernel_rfl
 have HK := yA (keyOf_int_mk Tryd.underlying3 hw)
 have HB := yA (Below.refl w.heap.size w)
 have HG := yA hG
 replace L0 := yA L0
 replace L1 := yA L1
 replace L2 := yA L2
 have Ll0 := L0
 have Ll1 := L1
 have Ll2 := L2
 clear hG hw
 have HV := yA hv
 have HH := yA hH
 have HAT := yA hA
 have g1 : decide (C ≤ a) = true := yL hc
 have g2 : decide (a ≥ C) = true := yL hc
 clear hv hH hA hc
 go_enter Tryd.func6, Tryd.ntmps6
 go_upto_region 1 with (first | ((with_reducible refine yP (N := 2) rfl ?_); refine yQ ?hg (N := 2) ?hd (cs := #[.slice A0 l0.length c0, .slice A1 l1.length c1, .slice A2 l2.length c2, .int .i64 a3, .int .i64 a4, .int .i64 a5, .int .i64 a6, .slice A7 n7 c7]) (t := 26) ?hr ?_; (case hd => rfl); (case hg => rfl); (case hr => first | (go_simp; done) | (go_simp; rfl)); intro gp hg wb2 hbox hb; replace HB := yA (yB HB.out hb); have BKP := yA hbox; clear hg hb hbox) | ((with_reducible refine yP (N := 3) rfl ?_); refine yQ ?hg (N := 3) ?hd (cs := #[.int .i64 op, .int .i64 a, .int .i64 b]) (t := 28) ?hr ?_; (case hd => rfl); (case hg => rfl); (case hr => first | (go_simp; done) | (go_simp; rfl)); intro gi hg wb3 hbox hb; replace BKP := yA (yC BKP.out hb); replace HB := yA (yB HB.out hb); have BKI := yA hbox; clear hg hb hbox))
 have hp0 := yR BKP.out 0
 have hp1 := yR BKP.out 1
 have hp2 := yR BKP.out 2
 have hp3 := yR BKP.out 3
 have hp4 := yR BKP.out 4
 have hp5 := yR BKP.out 5
 have hp6 := yR BKP.out 6
 have hp7 := yR BKP.out 7
 have hi0 := yR BKI.out 0
 have hi1 := yR BKI.out 1
 have hi2 := yR BKI.out 2
 go_wp2_with (first | (go_at_call 12; refine (val_any op a b _ (GA.below HG.out HB.out)).mono ?_; rintro e wv ⟨rfl, hb⟩; replace HB := yA (yB HB.out hb); replace BKP := yA (yC BKP.out hb); replace BKI := yA (yC BKI.out hb); rw [HV.out]; have hp0 := yR BKP.out 0; have hp1 := yR BKP.out 1; have hp2 := yR BKP.out 2; have hp3 := yR BKP.out 3; have hp4 := yR BKP.out 4; have hp5 := yR BKP.out 5; have hp6 := yR BKP.out 6; have hp7 := yR BKP.out 7; have hi0 := yR BKI.out 0; have hi1 := yR BKI.out 1; have hi2 := yR BKI.out 2; clear hb) | ((with_reducible refine yP (N := 14) rfl ?_); go_must (refine wpList_makeMap_k _ rfl 41 3 3 rfl ?_; intro bm w1 hbm ho hb; have NP := yA (show some gp ≠ some bm from fun h => by have := blk_lt BKP.out; cases h; omega); have NI := yA (show some gi ≠ some bm from fun h => by have := blk_lt BKI.out; cases h; omega); have GM := yA (Nat.le_trans HB.out.size hbm); have HO := yA ho; replace HB := yA (yB HB.out hb); replace BKP := yA (yC BKP.out hb); replace BKI := yA (yC BKI.out hb); have hp0 := yR BKP.out 0; have hp1 := yR BKP.out 1; have hp2 := yR BKP.out 2; have hp3 := yR BKP.out 3; have hp4 := yR BKP.out 4; have hp5 := yR BKP.out 5; have hp6 := yR BKP.out 6; have hp7 := yR BKP.out 7; have hi0 := yR BKI.out 0; have hi1 := yR BKI.out 1; have hi2 := yR BKI.out 2; clear hb ho hbm)) | ((with_reducible refine gate_insert (t := 41) (x := .const (.int .i64 1)) rfl ?_); go_must (refine wpList_insert_own (H := Unit) _ rfl (.tmp 14) _ _ 41 rfl 3 3 KL Tryd.underlying41 (plainElem Tryd.prog 3) bm _ _ rfl HO.out (by simp [maxLen]) _ _ _ rfl rfl (keyOf_int_mk Tryd.underlying3 (by rfl)) _ _ (plainElem_int Tryd.underlying3 (wfn l2.length L2.out)) ?_; intro w1 ho hg; replace BKP := yA (blk_grown BKP.out hg NP.out); replace BKI := yA (blk_grown BKI.out hg NI.out); replace HB := yA (pw_below_grown HB.out (some bm) HB.out.size hg (fun k hk => by cases hk; exact GM.out)); replace HO := yA ho; have hp0 := yR BKP.out 0; have hp1 := yR BKP.out 1; have hp2 := yR BKP.out 2; have hp3 := yR BKP.out 3; have hp4 := yR BKP.out 4; have hp5 := yR BKP.out 5; have hp6 := yR BKP.out 6; have hp7 := yR BKP.out 7; have hi0 := yR BKI.out 0; have hi1 := yR BKI.out 1; have hi2 := yR BKI.out 2; clear ho hg)) | ((with_reducible refine gate_insert (t := 41) (x := .const (.int .i64 3)) rfl ?_); go_must (refine wpList_insert_own (H := Unit) _ rfl (.tmp 14) _ _ 41 rfl 3 3 KL Tryd.underlying41 (plainElem Tryd.prog 3) bm _ _ rfl HO.out (by simp [maxLen]) _ _ _ rfl rfl (keyOf_int_mk Tryd.underlying3 (by rfl)) _ _ (plainElem_int Tryd.underlying3 (wfn l0.length L0.out)) ?_; intro w1 ho hg; replace BKP := yA (blk_grown BKP.out hg NP.out); replace BKI := yA (blk_grown BKI.out hg NI.out); replace HB := yA (pw_below_grown HB.out (some bm) HB.out.size hg (fun k hk => by cases hk; exact GM.out)); replace HO := yA ho; have hp0 := yR BKP.out 0; have hp1 := yR BKP.out 1; have hp2 := yR BKP.out 2; have hp3 := yR BKP.out 3; have hp4 := yR BKP.out 4; have hp5 := yR BKP.out 5; have hp6 := yR BKP.out 6; have hp7 := yR BKP.out 7; have hi0 := yR BKI.out 0; have hi1 := yR BKI.out 1; have hi2 := yR BKI.out 2; clear ho hg)) | ((with_reducible refine gate_insert (t := 41) (x := .const (.int .i64 28)) rfl ?_); go_must (refine wpList_insert_own (H := Unit) _ rfl (.tmp 14) _ _ 41 rfl 3 3 KL Tryd.underlying41 (plainElem Tryd.prog 3) bm _ _ rfl HO.out (by simp [maxLen]) _ _ _ rfl rfl (keyOf_int_mk Tryd.underlying3 (by rfl)) _ _ (plainElem_int Tryd.underlying3 (wfn l1.length L1.out)) ?_; intro w1 ho hg; replace BKP := yA (blk_grown BKP.out hg NP.out); replace BKI := yA (blk_grown BKI.out hg NI.out); replace HB := yA (pw_below_grown HB.out (some bm) HB.out.size hg (fun k hk => by cases hk; exact GM.out)); replace HO := yA ho; have hp0 := yR BKP.out 0; have hp1 := yR BKP.out 1; have hp2 := yR BKP.out 2; have hp3 := yR BKP.out 3; have hp4 := yR BKP.out 4; have hp5 := yR BKP.out 5; have hp6 := yR BKP.out 6; have hp7 := yR BKP.out 7; have hi0 := yR BKI.out 0; have hi1 := yR BKI.out 1; have hi2 := yR BKI.out 2; clear ho hg)) | (at_lookup; go_must (refine wpList_lookup_own_ok_int _ rfl _ _ 41 rfl 3 3 .i64 KL Tryd.underlying41 Tryd.underlying3 (hz0 _) _ _ (mapD l2.length l0.length l1.length) rfl HO.out _ _ rfl HK.out ?_; intro c_ hat hwc; obtain rfl : C = c_ := lit_i64' (HAT.out.symm.trans hat); rw [HH.out]; clear hat hwc)))
 go_ret2
 exact ⟨rfl, HB.out⟩
set_option maxHeartbeats 8000000 in
set_option maxRecDepth 100000 in
theorem pi_okn (A0 A1 A2 A7 : Option Addr) (c0 c1 c2 c7 n7 : Nat) (l0 l1 : List ByteArray) (l2 : List Int) (a3 a4 a5 a6 : Int) (op a b : Int) (w : World) (hG : GA w) (hw : (Lit.int .i64 op).wf = true) (L0 : l0.length ≤ 9223372036854775807) (L1 : l1.length ≤ 9223372036854775807) (L2 : l2.length ≤ 9223372036854775807) (C : Int) (hop : 0 ≤ op ∧ op < 29) (hv : valid op a b = 0) (hH : has (mapD l2.length l0.length l1.length) (.int .i64 op) = true) (hA : (mapD l2.length l0.length l1.length).atKey (.int .i64 op) (.lit (.int .i64 0)) = .lit (.int .i64 C)) (hc : a < C) (ws : List ByteArray) (hl : ws.length ≤ 2) (hJ : (Lib.join ((nmW op :: ws).map (·.data.toList)) [32]).length ≤ 140737488355328) (hO : ∀ W, Below w.heap.size w W → Calls Tryd.prog 15 #[.agg #[.slice A0 l0.length c0, .slice A1 l1.length c1, .slice A2 l2.length c2, .int .i64 a3, .int .i64 a4, .int .i64 a5, .int .i64 a6, .slice A7 n7 c7], .agg #[.int .i64 op, .int .i64 a, .int .i64 b]] W fun e w' => ∃ v, e = .returned v ∧ Kd.R Kd.string 9 w' W.heap.size (fun _ => True) v ws ∧ Below W.heap.size W w') :
  Calls Tryd.prog 6 #[.agg #[.slice A0 l0.length c0, .slice A1 l1.length c1, .slice A2 l2.length c2, .int .i64 a3, .int .i64 a4, .int .i64 a5, .int .i64 a6, .slice A7 n7 c7], .agg #[.int .i64 op, .int .i64 a, .int .i64 b]] w fun e w' => e = .returned (.tuple #[.string (joinW (nmW op :: ws)), .int .i64 0]) ∧ Below w.heap.size w w' := by
 have hu26 := Tryd.underlying26
 have hu28 := Tryd.underlying28
 have KL : Keyed Tryd.prog 3 := int_keyed Tryd.underlying3
 have hz0 : ∀ w : World, (zeroValue 3).run Tryd.prog w = .ok (.int .i64 0) w := fun _ => by kernel_rfl
 have HK := yA (keyOf_int_mk Tryd.underlying3 hw)
 have HB := yA (Below.refl w.heap.size w)
 have HG := yA hG
 replace L0 := yA L0
 replace L1 := yA L1
 replace L2 := yA L2
 have Ll0 := L0
 have Ll1 := L1
 have Ll2 := L2
 clear hG hw
 have HV := yA hv
 have HH := yA hH
 have HAT := yA hA
 have HOP := yA hop
 have HOO := yA hO
 have HL := yA hl
 have HJ := yA hJ
 have g1 : decide (C ≤ a) = false := yM (by omega)
 have g2 : decide (a ≥ C) = false := yM (by omega)
 clear hv hH hA hc hop hO hl hJ
 go_enter Tryd.func6, Tryd.ntmps6
 go_upto_region 1 with (first | ((with_reducible refine yP (N := 2) rfl ?_); refine yQ ?hg (N := 2) ?hd (cs := #[.slice A0 l0.length c0, .slice A1 l1.length c1, .slice A2 l2.length c2, .int .i64 a3, .int .i64 a4, .int .i64 a5, .int .i64 a6, .slice A7 n7 c7]) (t := 26) ?hr ?_; (case hd => rfl); (case hg => rfl); (case hr => first | (go_simp; done) | (go_simp; rfl)); intro gp hg wb2 hbox hb; replace HB := yA (yB HB.out hb); have BKP := yA hbox; clear hg hb hbox) | ((with_reducible refine yP (N := 3) rfl ?_); refine yQ ?hg (N := 3) ?hd (cs := #[.int .i64 op, .int .i64 a, .int .i64 b]) (t := 28) ?hr ?_; (case hd => rfl); (case hg => rfl); (case hr => first | (go_simp; done) | (go_simp; rfl)); intro gi hg wb3 hbox hb; replace BKP := yA (yC BKP.out hb); replace HB := yA (yB HB.out hb); have BKI := yA hbox; clear hg hb hbox))
 have hp0 := yR BKP.out 0
 have hp1 := yR BKP.out 1
 have hp2 := yR BKP.out 2
 have hp3 := yR BKP.out 3
 have hp4 := yR BKP.out 4
 have hp5 := yR BKP.out 5
 have hp6 := yR BKP.out 6
 have hp7 := yR BKP.out 7
 have hi0 := yR BKI.out 0
 have hi1 := yR BKI.out 1
 have hi2 := yR BKI.out 2
 go_wp2_with (first | (go_at_call 12; refine (val_any op a b _ (GA.below HG.out HB.out)).mono ?_; rintro e wv ⟨rfl, hb⟩; replace HB := yA (yB HB.out hb); replace BKP := yA (yC BKP.out hb); replace BKI := yA (yC BKI.out hb); rw [HV.out]; have hp0 := yR BKP.out 0; have hp1 := yR BKP.out 1; have hp2 := yR BKP.out 2; have hp3 := yR BKP.out 3; have hp4 := yR BKP.out 4; have hp5 := yR BKP.out 5; have hp6 := yR BKP.out 6; have hp7 := yR BKP.out 7; have hi0 := yR BKI.out 0; have hi1 := yR BKI.out 1; have hi2 := yR BKI.out 2; clear hb) | ((with_reducible refine yP (N := 14) rfl ?_); go_must (refine wpList_makeMap_k _ rfl 41 3 3 rfl ?_; intro bm w1 hbm ho hb; have NP := yA (show some gp ≠ some bm from fun h => by have := blk_lt BKP.out; cases h; omega); have NI := yA (show some gi ≠ some bm from fun h => by have := blk_lt BKI.out; cases h; omega); have GM := yA (Nat.le_trans HB.out.size hbm); have HO := yA ho; replace HB := yA (yB HB.out hb); replace BKP := yA (yC BKP.out hb); replace BKI := yA (yC BKI.out hb); have hp0 := yR BKP.out 0; have hp1 := yR BKP.out 1; have hp2 := yR BKP.out 2; have hp3 := yR BKP.out 3; have hp4 := yR BKP.out 4; have hp5 := yR BKP.out 5; have hp6 := yR BKP.out 6; have hp7 := yR BKP.out 7; have hi0 := yR BKI.out 0; have hi1 := yR BKI.out 1; have hi2 := yR BKI.out 2; clear hb ho hbm)) | ((with_reducible refine gate_insert (t := 41) (x := .const (.int .i64 1)) rfl ?_); go_must (refine wpList_insert_own (H := Unit) _ rfl (.tmp 14) _ _ 41 rfl 3 3 KL Tryd.underlying41 (plainElem Tryd.prog 3) bm _ _ rfl HO.out (by simp [maxLen]) _ _ _ rfl rfl (keyOf_int_mk Tryd.underlying3 (by rfl)) _ _ (plainElem_int Tryd.underlying3 (wfn l2.length L2.out)) ?_; intro w1 ho hg; replace BKP := yA (blk_grown BKP.out hg NP.out); replace BKI := yA (blk_grown BKI.out hg NI.out); replace HB := yA (pw_below_grown HB.out (some bm) HB.out.size hg (fun k hk => by cases hk; exact GM.out)); replace HO := yA ho; have hp0 := yR BKP.out 0; have hp1 := yR BKP.out 1; have hp2 := yR BKP.out 2; have hp3 := yR BKP.out 3; have hp4 := yR BKP.out 4; have hp5 := yR BKP.out 5; have hp6 := yR BKP.out 6; have hp7 := yR BKP.out 7; have hi0 := yR BKI.out 0; have hi1 := yR BKI.out 1; have hi2 := yR BKI.out 2; clear ho hg)) | ((with_reducible refine gate_insert (t := 41) (x := .const (.int .i64 3)) rfl ?_); go_must (refine wpList_insert_own (H := Unit) _ rfl (.tmp 14) _ _ 41 rfl 3 3 KL Tryd.underlying41 (plainElem Tryd.prog 3) bm _ _ rfl HO.out (by simp [maxLen]) _ _ _ rfl rfl (keyOf_int_mk Tryd.underlying3 (by rfl)) _ _ (plainElem_int Tryd.underlying3 (wfn l0.length L0.out)) ?_; intro w1 ho hg; replace BKP := yA (blk_grown BKP.out hg NP.out); replace BKI := yA (blk_grown BKI.out hg NI.out); replace HB := yA (pw_below_grown HB.out (some bm) HB.out.size hg (fun k hk => by cases hk; exact GM.out)); replace HO := yA ho; have hp0 := yR BKP.out 0; have hp1 := yR BKP.out 1; have hp2 := yR BKP.out 2; have hp3 := yR BKP.out 3; have hp4 := yR BKP.out 4; have hp5 := yR BKP.out 5; have hp6 := yR BKP.out 6; have hp7 := yR BKP.out 7; have hi0 := yR BKI.out 0; have hi1 := yR BKI.out 1; have hi2 := yR BKI.out 2; clear ho hg)) | ((with_reducible refine gate_insert (t := 41) (x := .const (.int .i64 28)) rfl ?_); go_must (refine wpList_insert_own (H := Unit) _ rfl (.tmp 14) _ _ 41 rfl 3 3 KL Tryd.underlying41 (plainElem Tryd.prog 3) bm _ _ rfl HO.out (by simp [maxLen]) _ _ _ rfl rfl (keyOf_int_mk Tryd.underlying3 (by rfl)) _ _ (plainElem_int Tryd.underlying3 (wfn l1.length L1.out)) ?_; intro w1 ho hg; replace BKP := yA (blk_grown BKP.out hg NP.out); replace BKI := yA (blk_grown BKI.out hg NI.out); replace HB := yA (pw_below_grown HB.out (some bm) HB.out.size hg (fun k hk => by cases hk; exact GM.out)); replace HO := yA ho; have hp0 := yR BKP.out 0; have hp1 := yR BKP.out 1; have hp2 := yR BKP.out 2; have hp3 := yR BKP.out 3; have hp4 := yR BKP.out 4; have hp5 := yR BKP.out 5; have hp6 := yR BKP.out 6; have hp7 := yR BKP.out 7; have hi0 := yR BKI.out 0; have hi1 := yR BKI.out 1; have hi2 := yR BKI.out 2; clear ho hg)) | (at_lookup; go_must (refine wpList_lookup_own_ok_int _ rfl _ _ 41 rfl 3 3 .i64 KL Tryd.underlying41 Tryd.underlying3 (hz0 _) _ _ (mapD l2.length l0.length l1.length) rfl HO.out _ _ rfl HK.out ?_; intro c_ hat hwc; obtain rfl : C = c_ := lit_i64' (HAT.out.symm.trans hat); rw [HH.out]; clear hat hwc)) | (go_at_call 13; refine (nam_any op HOP.out _ (GA.below HG.out HB.out)).mono ?_; rintro e wn ⟨rfl, hb⟩; replace HB := yA (yB HB.out hb); replace BKP := yA (yC BKP.out hb); replace BKI := yA (yC BKI.out hb); have hp0 := yR BKP.out 0; have hp1 := yR BKP.out 1; have hp2 := yR BKP.out 2; have hp3 := yR BKP.out 3; have hp4 := yR BKP.out 4; have hp5 := yR BKP.out 5; have hp6 := yR BKP.out 6; have hp7 := yR BKP.out 7; have hi0 := yR BKI.out 0; have hi1 := yR BKI.out 1; have hi2 := yR BKI.out 2; clear hb) | ((with_reducible refine yP (N := 46) rfl ?_); refine Kd.R_lit Kd.string _ 9 ?hg (N := 46) ?hd (xs := [(nmW op)]) (inner := [.string (nmW op)]) (ok := fun _ => True) (okp := fun _ => True) ?hr ?hp (fun _ hk => hk) trivial (Below.refl _ _) (Nat.le_refl _) (by simp) ?_; (case hd => rfl); (case hg => rfl); (case hr => first | (go_simp; done) | (go_simp; rfl)); (case hp => exact (Reps.one (show Kd.M Kd.string _ _ _ (nmW op) [.string (nmW op)] from rfl) (Reps.none _ _))); intro v1 wr hr hb _ _; have HR1 := yA (Kd.R_lower hr HB.out.size); replace HB := yA (yB HB.out hb); replace BKP := yA (yC BKP.out hb); replace BKI := yA (yC BKI.out hb); have hp0 := yR BKP.out 0; have hp1 := yR BKP.out 1; have hp2 := yR BKP.out 2; have hp3 := yR BKP.out 3; have hp4 := yR BKP.out 4; have hp5 := yR BKP.out 5; have hp6 := yR BKP.out 6; have hp7 := yR BKP.out 7; have hi0 := yR BKI.out 0; have hi1 := yR BKI.out 1; have hi2 := yR BKI.out 2; clear hr hb) | (go_at_call 15; refine (HOO.out _ HB.out).mono ?_; rintro e wo ⟨v2, rfl, hr2, hb⟩; obtain ⟨A9, c9, rfl⟩ := Kd.R_slice hr2; have HR2 := yA (Kd.R_lower hr2 HB.out.size); replace HR1 := yA (Kd.R_below HR1.out hb); replace HB := yA (yB HB.out hb); replace BKP := yA (yC BKP.out hb); replace BKI := yA (yC BKI.out hb); clear hb hr2) | ((with_reducible refine gate_builtin (b := .append) (xs := #[.tmp 46, .tmp 49]) rfl ?_); at_builtin; refine Kd.R_append_rows Kd.string (w0 := w) w.heap.size rfl (.tmp 46) (.tmp 49) 22 9 (.string ⟨#[]⟩) 16 rfl Tryd.underlying22 info9 rfl (by decide) (by omega) v1 [nmW op] ws _ _ _ (fun _ => True) (fun _ => False) rfl rfl ?aO ?aR (fun _ _ h => h) (fun _ h => h.elim) ?aF ?aB ?aS ?aL ?_; (case aR => exact (Kd.R_reads' HR2.out).2.2); (case aB => exact HB.out); (case aF => exact (fun _ _ => trivial)); (case aO => exact HR1.out); (case aS => exact HB.out.size); (case aL => have := HL.out; simp; omega); intro v3 w3 ho hb _ _; have HR3 := yA ho; clear ho HB; have HB := yA hb; clear hb) | (go_at_call 14; refine (join_any HR3.out (by simp) HJ.out (by have := HL.out; simp; omega)).mono ?_; rintro e wj ⟨rfl, hb⟩; replace HB := yA (yB HB.out hb); clear hb))
 go_ret2
 exact ⟨rfl, HB.out⟩
set_option maxHeartbeats 8000000 in
set_option maxRecDepth 100000 in
theorem pi_oko (A0 A1 A2 A7 : Option Addr) (c0 c1 c2 c7 n7 : Nat) (l0 l1 : List ByteArray) (l2 : List Int) (a3 a4 a5 a6 : Int) (op a b : Int) (w : World) (hG : GA w) (hw : (Lit.int .i64 op).wf = true) (L0 : l0.length ≤ 9223372036854775807) (L1 : l1.length ≤ 9223372036854775807) (L2 : l2.length ≤ 9223372036854775807) (C : Int) (hop : 0 ≤ op ∧ op < 29) (hv : valid op a b = 0) (hH : has (mapD l2.length l0.length l1.length) (.int .i64 op) = false) (hA : (mapD l2.length l0.length l1.length).atKey (.int .i64 op) (.lit (.int .i64 0)) = .lit (.int .i64 C))  (ws : List ByteArray) (hl : ws.length ≤ 2) (hJ : (Lib.join ((nmW op :: ws).map (·.data.toList)) [32]).length ≤ 140737488355328) (hO : ∀ W, Below w.heap.size w W → Calls Tryd.prog 15 #[.agg #[.slice A0 l0.length c0, .slice A1 l1.length c1, .slice A2 l2.length c2, .int .i64 a3, .int .i64 a4, .int .i64 a5, .int .i64 a6, .slice A7 n7 c7], .agg #[.int .i64 op, .int .i64 a, .int .i64 b]] W fun e w' => ∃ v, e = .returned v ∧ Kd.R Kd.string 9 w' W.heap.size (fun _ => True) v ws ∧ Below W.heap.size W w') :
  Calls Tryd.prog 6 #[.agg #[.slice A0 l0.length c0, .slice A1 l1.length c1, .slice A2 l2.length c2, .int .i64 a3, .int .i64 a4, .int .i64 a5, .int .i64 a6, .slice A7 n7 c7], .agg #[.int .i64 op, .int .i64 a, .int .i64 b]] w fun e w' => e = .returned (.tuple #[.string (joinW (nmW op :: ws)), .int .i64 0]) ∧ Below w.heap.size w w' := by
 have hu26 := Tryd.underlying26
 have hu28 := Tryd.underlying28
 have KL : Keyed Tryd.prog 3 := int_keyed Tryd.underlying3
 have hz0 : ∀ w : World, (zeroValue 3).run Tryd.prog w = .ok (.int .i64 0) w := fun _ => by kernel_rfl
 have HK := yA (keyOf_int_mk Tryd.underlying3 hw)
 have HB := yA (Below.refl w.heap.size w)
 have HG := yA hG
 replace L0 := yA L0
 replace L1 := yA L1
 replace L2 := yA L2
 have Ll0 := L0
 have Ll1 := L1
 have Ll2 := L2
 clear hG hw
 have HV := yA hv
 have HH := yA hH
 have HAT := yA hA
 have HOP := yA hop
 have HOO := yA hO
 have HL := yA hl
 have HJ := yA hJ
 clear hv hH hA hop hO hl hJ
 go_enter Tryd.func6, Tryd.ntmps6
 go_upto_region 1 with (first | ((with_reducible refine yP (N := 2) rfl ?_); refine yQ ?hg (N := 2) ?hd (cs := #[.slice A0 l0.length c0, .slice A1 l1.length c1, .slice A2 l2.length c2, .int .i64 a3, .int .i64 a4, .int .i64 a5, .int .i64 a6, .slice A7 n7 c7]) (t := 26) ?hr ?_; (case hd => rfl); (case hg => rfl); (case hr => first | (go_simp; done) | (go_simp; rfl)); intro gp hg wb2 hbox hb; replace HB := yA (yB HB.out hb); have BKP := yA hbox; clear hg hb hbox) | ((with_reducible refine yP (N := 3) rfl ?_); refine yQ ?hg (N := 3) ?hd (cs := #[.int .i64 op, .int .i64 a, .int .i64 b]) (t := 28) ?hr ?_; (case hd => rfl); (case hg => rfl); (case hr => first | (go_simp; done) | (go_simp; rfl)); intro gi hg wb3 hbox hb; replace BKP := yA (yC BKP.out hb); replace HB := yA (yB HB.out hb); have BKI := yA hbox; clear hg hb hbox))
 have hp0 := yR BKP.out 0
 have hp1 := yR BKP.out 1
 have hp2 := yR BKP.out 2
 have hp3 := yR BKP.out 3
 have hp4 := yR BKP.out 4
 have hp5 := yR BKP.out 5
 have hp6 := yR BKP.out 6
 have hp7 := yR BKP.out 7
 have hi0 := yR BKI.out 0
 have hi1 := yR BKI.out 1
 have hi2 := yR BKI.out 2
 go_wp2_with (first | (go_at_call 12; refine (val_any op a b _ (GA.below HG.out HB.out)).mono ?_; rintro e wv ⟨rfl, hb⟩; replace HB := yA (yB HB.out hb); replace BKP := yA (yC BKP.out hb); replace BKI := yA (yC BKI.out hb); rw [HV.out]; have hp0 := yR BKP.out 0; have hp1 := yR BKP.out 1; have hp2 := yR BKP.out 2; have hp3 := yR BKP.out 3; have hp4 := yR BKP.out 4; have hp5 := yR BKP.out 5; have hp6 := yR BKP.out 6; have hp7 := yR BKP.out 7; have hi0 := yR BKI.out 0; have hi1 := yR BKI.out 1; have hi2 := yR BKI.out 2; clear hb) | ((with_reducible refine yP (N := 14) rfl ?_); go_must (refine wpList_makeMap_k _ rfl 41 3 3 rfl ?_; intro bm w1 hbm ho hb; have NP := yA (show some gp ≠ some bm from fun h => by have := blk_lt BKP.out; cases h; omega); have NI := yA (show some gi ≠ some bm from fun h => by have := blk_lt BKI.out; cases h; omega); have GM := yA (Nat.le_trans HB.out.size hbm); have HO := yA ho; replace HB := yA (yB HB.out hb); replace BKP := yA (yC BKP.out hb); replace BKI := yA (yC BKI.out hb); have hp0 := yR BKP.out 0; have hp1 := yR BKP.out 1; have hp2 := yR BKP.out 2; have hp3 := yR BKP.out 3; have hp4 := yR BKP.out 4; have hp5 := yR BKP.out 5; have hp6 := yR BKP.out 6; have hp7 := yR BKP.out 7; have hi0 := yR BKI.out 0; have hi1 := yR BKI.out 1; have hi2 := yR BKI.out 2; clear hb ho hbm)) | ((with_reducible refine gate_insert (t := 41) (x := .const (.int .i64 1)) rfl ?_); go_must (refine wpList_insert_own (H := Unit) _ rfl (.tmp 14) _ _ 41 rfl 3 3 KL Tryd.underlying41 (plainElem Tryd.prog 3) bm _ _ rfl HO.out (by simp [maxLen]) _ _ _ rfl rfl (keyOf_int_mk Tryd.underlying3 (by rfl)) _ _ (plainElem_int Tryd.underlying3 (wfn l2.length L2.out)) ?_; intro w1 ho hg; replace BKP := yA (blk_grown BKP.out hg NP.out); replace BKI := yA (blk_grown BKI.out hg NI.out); replace HB := yA (pw_below_grown HB.out (some bm) HB.out.size hg (fun k hk => by cases hk; exact GM.out)); replace HO := yA ho; have hp0 := yR BKP.out 0; have hp1 := yR BKP.out 1; have hp2 := yR BKP.out 2; have hp3 := yR BKP.out 3; have hp4 := yR BKP.out 4; have hp5 := yR BKP.out 5; have hp6 := yR BKP.out 6; have hp7 := yR BKP.out 7; have hi0 := yR BKI.out 0; have hi1 := yR BKI.out 1; have hi2 := yR BKI.out 2; clear ho hg)) | ((with_reducible refine gate_insert (t := 41) (x := .const (.int .i64 3)) rfl ?_); go_must (refine wpList_insert_own (H := Unit) _ rfl (.tmp 14) _ _ 41 rfl 3 3 KL Tryd.underlying41 (plainElem Tryd.prog 3) bm _ _ rfl HO.out (by simp [maxLen]) _ _ _ rfl rfl (keyOf_int_mk Tryd.underlying3 (by rfl)) _ _ (plainElem_int Tryd.underlying3 (wfn l0.length L0.out)) ?_; intro w1 ho hg; replace BKP := yA (blk_grown BKP.out hg NP.out); replace BKI := yA (blk_grown BKI.out hg NI.out); replace HB := yA (pw_below_grown HB.out (some bm) HB.out.size hg (fun k hk => by cases hk; exact GM.out)); replace HO := yA ho; have hp0 := yR BKP.out 0; have hp1 := yR BKP.out 1; have hp2 := yR BKP.out 2; have hp3 := yR BKP.out 3; have hp4 := yR BKP.out 4; have hp5 := yR BKP.out 5; have hp6 := yR BKP.out 6; have hp7 := yR BKP.out 7; have hi0 := yR BKI.out 0; have hi1 := yR BKI.out 1; have hi2 := yR BKI.out 2; clear ho hg)) | ((with_reducible refine gate_insert (t := 41) (x := .const (.int .i64 28)) rfl ?_); go_must (refine wpList_insert_own (H := Unit) _ rfl (.tmp 14) _ _ 41 rfl 3 3 KL Tryd.underlying41 (plainElem Tryd.prog 3) bm _ _ rfl HO.out (by simp [maxLen]) _ _ _ rfl rfl (keyOf_int_mk Tryd.underlying3 (by rfl)) _ _ (plainElem_int Tryd.underlying3 (wfn l1.length L1.out)) ?_; intro w1 ho hg; replace BKP := yA (blk_grown BKP.out hg NP.out); replace BKI := yA (blk_grown BKI.out hg NI.out); replace HB := yA (pw_below_grown HB.out (some bm) HB.out.size hg (fun k hk => by cases hk; exact GM.out)); replace HO := yA ho; have hp0 := yR BKP.out 0; have hp1 := yR BKP.out 1; have hp2 := yR BKP.out 2; have hp3 := yR BKP.out 3; have hp4 := yR BKP.out 4; have hp5 := yR BKP.out 5; have hp6 := yR BKP.out 6; have hp7 := yR BKP.out 7; have hi0 := yR BKI.out 0; have hi1 := yR BKI.out 1; have hi2 := yR BKI.out 2; clear ho hg)) | (at_lookup; go_must (refine wpList_lookup_own_ok_int _ rfl _ _ 41 rfl 3 3 .i64 KL Tryd.underlying41 Tryd.underlying3 (hz0 _) _ _ (mapD l2.length l0.length l1.length) rfl HO.out _ _ rfl HK.out ?_; intro c_ hat hwc; obtain rfl : C = c_ := lit_i64' (HAT.out.symm.trans hat); rw [HH.out]; clear hat hwc)) | (go_at_call 13; refine (nam_any op HOP.out _ (GA.below HG.out HB.out)).mono ?_; rintro e wn ⟨rfl, hb⟩; replace HB := yA (yB HB.out hb); replace BKP := yA (yC BKP.out hb); replace BKI := yA (yC BKI.out hb); have hp0 := yR BKP.out 0; have hp1 := yR BKP.out 1; have hp2 := yR BKP.out 2; have hp3 := yR BKP.out 3; have hp4 := yR BKP.out 4; have hp5 := yR BKP.out 5; have hp6 := yR BKP.out 6; have hp7 := yR BKP.out 7; have hi0 := yR BKI.out 0; have hi1 := yR BKI.out 1; have hi2 := yR BKI.out 2; clear hb) | ((with_reducible refine yP (N := 46) rfl ?_); refine Kd.R_lit Kd.string _ 9 ?hg (N := 46) ?hd (xs := [(nmW op)]) (inner := [.string (nmW op)]) (ok := fun _ => True) (okp := fun _ => True) ?hr ?hp (fun _ hk => hk) trivial (Below.refl _ _) (Nat.le_refl _) (by simp) ?_; (case hd => rfl); (case hg => rfl); (case hr => first | (go_simp; done) | (go_simp; rfl)); (case hp => exact (Reps.one (show Kd.M Kd.string _ _ _ (nmW op) [.string (nmW op)] from rfl) (Reps.none _ _))); intro v1 wr hr hb _ _; have HR1 := yA (Kd.R_lower hr HB.out.size); replace HB := yA (yB HB.out hb); replace BKP := yA (yC BKP.out hb); replace BKI := yA (yC BKI.out hb); have hp0 := yR BKP.out 0; have hp1 := yR BKP.out 1; have hp2 := yR BKP.out 2; have hp3 := yR BKP.out 3; have hp4 := yR BKP.out 4; have hp5 := yR BKP.out 5; have hp6 := yR BKP.out 6; have hp7 := yR BKP.out 7; have hi0 := yR BKI.out 0; have hi1 := yR BKI.out 1; have hi2 := yR BKI.out 2; clear hr hb) | (go_at_call 15; refine (HOO.out _ HB.out).mono ?_; rintro e wo ⟨v2, rfl, hr2, hb⟩; obtain ⟨A9, c9, rfl⟩ := Kd.R_slice hr2; have HR2 := yA (Kd.R_lower hr2 HB.out.size); replace HR1 := yA (Kd.R_below HR1.out hb); replace HB := yA (yB HB.out hb); replace BKP := yA (yC BKP.out hb); replace BKI := yA (yC BKI.out hb); clear hb hr2) | ((with_reducible refine gate_builtin (b := .append) (xs := #[.tmp 46, .tmp 49]) rfl ?_); at_builtin; refine Kd.R_append_rows Kd.string (w0 := w) w.heap.size rfl (.tmp 46) (.tmp 49) 22 9 (.string ⟨#[]⟩) 16 rfl Tryd.underlying22 info9 rfl (by decide) (by omega) v1 [nmW op] ws _ _ _ (fun _ => True) (fun _ => False) rfl rfl ?aO ?aR (fun _ _ h => h) (fun _ h => h.elim) ?aF ?aB ?aS ?aL ?_; (case aR => exact (Kd.R_reads' HR2.out).2.2); (case aB => exact HB.out); (case aF => exact (fun _ _ => trivial)); (case aO => exact HR1.out); (case aS => exact HB.out.size); (case aL => have := HL.out; simp; omega); intro v3 w3 ho hb _ _; have HR3 := yA ho; clear ho HB; have HB := yA hb; clear hb) | (go_at_call 14; refine (join_any HR3.out (by simp) HJ.out (by have := HL.out; simp; omega)).mono ?_; rintro e wj ⟨rfl, hb⟩; replace HB := yA (yB HB.out hb); clear hb))
 go_ret2
 exact ⟨rfl, HB.out⟩
end Go.Proofs.YtjhbiennmambkaaDoor.Pure
