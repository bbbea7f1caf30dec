/- Own text, for this claim: the reference's law LexScans, after the text that the kit's printer writes. -/
import Derived.Test.YtkfdninngcakpaaDoorZQLexra
import Derived.Test.YtkfdninngcakpaaDoorZQLexrs
import Derived.Test.YtkfdninngcakpaaDoorZQLexx4
import Derived.WalkMore
import Derived.Deep.DeepMust
import Derived.Outline
import Derived.Deep.RegionWith
namespace Go.Proofs.YtkfdninngcakpaaDoor.PLex
open Go.RowKit Go.Proofs.YtkfdninngcakpaaDoorW.PrintWords Go.Proofs.YtkfdninngcakpaaDoorW.PrintLast Go.Proofs.YtkfdninngcakpaaDoorW.PrintMore
attribute [local go_sem] max2_int min2_int max_two min_two max_three min_three max_four min_four
set_option linter.unusedVariables false
set_option linter.unusedSimpArgs false
attribute [local go_sem high] eqA32
mutual
def payofflaw06_LexScans.j0 : Nat → ByteArray → List (S32) → List (S32) → List (S32) → List (S32) → List (S32) → Int → Bool → Option (Bool)
 | 0, _, _, _, _, _, _, _, _ => none
 | k + 1, x0, x3, x6, x9, x12, x15, x17, x78 => if x78 = true then (none) else (payofflaw06_LexScans.l0 k x0 x3 x6 x9 x12 x15 x17 0)
def payofflaw06_LexScans.l0 : Nat → ByteArray → List (S32) → List (S32) → List (S32) → List (S32) → List (S32) → Int → Int → Option (Bool)
 | 0, _, _, _, _, _, _, _, _ => none
 | k + 1, x0, x3, x6, x9, x12, x15, x17, x18 => if x18 < (x3.length : Int) then (if 0 ≤ x18 then (payofflaw06_LexScans.l0 k x0 (x3.set (x18 : Int).toNat (⟨99, (⟨#[]⟩ : ByteArray), 0, 0, (⟨0, 0, 0⟩ : S28), (⟨0, 0⟩ : S30)⟩ : S32)) x6 x9 x12 x15 x17 (wrap64 (x18 + 1))) else (none)) else ((some (([] : List (S32)) : List (S32))).bind fun y282 => (if y282.length + x3.length < 1759218604441 then (payofflaw06_LexScans.l1 k x0 x3 x6 x9 x12 x15 x17 (y282 ++ x3) 0) else (none)))
def payofflaw06_LexScans.l1 : Nat → ByteArray → List (S32) → List (S32) → List (S32) → List (S32) → List (S32) → Int → List (S32) → Int → Option (Bool)
 | 0, _, _, _, _, _, _, _, _, _ => none
 | k + 1, x0, x3, x6, x9, x12, x15, x17, x19, x20 => if x20 < 70 then (if x19.length < 1759218604441 then (payofflaw06_LexScans.l1 k x0 x3 x6 x9 x12 x15 x17 (x19 ++ [(⟨98, (⟨#[]⟩ : ByteArray), 0, 0, (⟨0, 0, 0⟩ : S28), (⟨0, 0⟩ : S30)⟩ : S32)]) (wrap64 (x20 + 1))) else (none)) else ((payofflaw06_sameTokens.f k x12 x15).bind fun t291 => (if t291 = true then ((payofflaw06_sameTokens.f k x6 x9).bind fun t292 => (payofflaw06_LexScans.j3 k x0 x3 x15 x17 x19 (!t292))) else (payofflaw06_LexScans.j3 k x0 x3 x15 x17 x19 true)))
def payofflaw06_LexScans.j3 : Nat → ByteArray → List (S32) → List (S32) → Int → List (S32) → Bool → Option (Bool)
 | 0, _, _, _, _, _, _ => none
 | k + 1, x0, x3, x15, x17, x19, x107 => if x107 = true then (none) else ((lex_Scan.f k x0).bind fun bt293 => (payofflaw06_LexScans.l2 k x3 x15 x17 x19 bt293.1 bt293.2.2 0))
def payofflaw06_LexScans.l2 : Nat → List (S32) → List (S32) → Int → List (S32) → List (S32) → Int → Int → Option (Bool)
 | 0, _, _, _, _, _, _, _ => none
 | k + 1, x3, x15, x17, x19, x21, x23, x24 => if x24 < (x19.length : Int) then (if x24 < (x3.length : Int) then (if 0 ≤ x24 then (if ((rd_T32 x3 x24).f0) = 99 then (if ((rd_T32 x19 x24).f0) = 99 then (if x24 ≥ (x3.length : Int) then (if ((rd_T32 x19 x24).f0) = 98 then (payofflaw06_LexScans.l2 k x3 x15 x17 x19 x21 x23 (wrap64 (x24 + 1))) else (none)) else (payofflaw06_LexScans.l2 k x3 x15 x17 x19 x21 x23 (wrap64 (x24 + 1)))) else (none)) else (none)) else (none)) else (if x24 ≥ (x3.length : Int) then (if 0 ≤ x24 then (if ((rd_T32 x19 x24).f0) = 98 then (payofflaw06_LexScans.l2 k x3 x15 x17 x19 x21 x23 (wrap64 (x24 + 1))) else (none)) else (none)) else (payofflaw06_LexScans.l2 k x3 x15 x17 x19 x21 x23 (wrap64 (x24 + 1))))) else (if x23 = x17 then ((payofflaw06_sameTokens.f k x21 x15).bind fun t302 => (some t302)) else (none))
end
def payofflaw06_LexScans.f (k : Nat) (a0 : ByteArray) : Option (Bool) := (lex_Scan.f k a0).bind fun bt253 => ((lex_Scan.f k (⟨#[97, 32, 45, 32, 49]⟩ : ByteArray)).bind fun bt258 => ((payoffref06_Scan.f k (⟨#[97, 32, 45, 32, 49]⟩ : ByteArray)).bind fun bt263 => ((lex_Scan.f k a0).bind fun bt268 => ((payoffref06_Scan.f k a0).bind fun bt273 => (if bt253.2.2 = bt273.2.2 then (if bt253.2.1 = bt273.2.1 then ((payofflaw06_sameTokens.f k bt253.1 bt273.1).bind fun t278 => (if t278 = true then ((payofflaw06_sameTokens.f k bt268.1 bt273.1).bind fun t279 => (if t279 = true then ((payofflaw06_sameTokens.f k bt258.1 bt263.1).bind fun t280 => (payofflaw06_LexScans.j0 k a0 bt253.1 bt258.1 bt263.1 bt268.1 bt273.1 bt273.2.2 (!t280))) else (payofflaw06_LexScans.j0 k a0 bt253.1 bt258.1 bt263.1 bt268.1 bt273.1 bt273.2.2 true))) else (payofflaw06_LexScans.j0 k a0 bt253.1 bt258.1 bt263.1 bt268.1 bt273.1 bt273.2.2 true))) else (payofflaw06_LexScans.j0 k a0 bt253.1 bt258.1 bt263.1 bt268.1 bt273.1 bt273.2.2 true)) else (payofflaw06_LexScans.j0 k a0 bt253.1 bt258.1 bt263.1 bt268.1 bt273.1 bt273.2.2 true))))))
set_option maxHeartbeats 8000000 in
set_option maxRecDepth 100000 in
theorem payofflaw06_LexScans.calls (k : Nat) (a0 : ByteArray) (r : Bool) (w : World) (h : payofflaw06_LexScans.f k a0 = some r) (hG : Pure.Gl w) :
  Calls Tryd.prog 3 #[.string a0] w fun e w' => e = .returned (.bool r) ∧ Below w.heap.size w w' := by
 have HG := yA hG
 clear hG
 have hu32 := Tryd.underlying32
 have HB := yA (Below.refl w.heap.size w)
 have H : ((lex_Scan.f k a0).bind fun bt253 => ((lex_Scan.f k (⟨#[97, 32, 45, 32, 49]⟩ : ByteArray)).bind fun bt258 => ((payoffref06_Scan.f k (⟨#[97, 32, 45, 32, 49]⟩ : ByteArray)).bind fun bt263 => ((lex_Scan.f k a0).bind fun bt268 => ((payoffref06_Scan.f k a0).bind fun bt273 => (if bt253.2.2 = bt273.2.2 then (if bt253.2.1 = bt273.2.1 then ((payofflaw06_sameTokens.f k bt253.1 bt273.1).bind fun t278 => (if t278 = true then ((payofflaw06_sameTokens.f k bt268.1 bt273.1).bind fun t279 => (if t279 = true then ((payofflaw06_sameTokens.f k bt258.1 bt263.1).bind fun t280 => (payofflaw06_LexScans.j0 k a0 bt253.1 bt258.1 bt263.1 bt268.1 bt273.1 bt273.2.2 (!t280))) else (payofflaw06_LexScans.j0 k a0 bt253.1 bt258.1 bt263.1 bt268.1 bt273.1 bt273.2.2 true))) else (payofflaw06_LexScans.j0 k a0 bt253.1 bt258.1 bt263.1 bt268.1 bt273.1 bt273.2.2 true))) else (payofflaw06_LexScans.j0 k a0 bt253.1 bt258.1 bt263.1 bt268.1 bt273.1 bt273.2.2 true)) else (payofflaw06_LexScans.j0 k a0 bt253.1 bt258.1 bt263.1 bt268.1 bt273.1 bt273.2.2 true))))))) = some r := h
 clear h
 replace H := Option.bind_eq_some_iff.mp H
 obtain ⟨⟨t253, t254, t255⟩, A20, H⟩ := H
 replace H : ((lex_Scan.f k (⟨#[97, 32, 45, 32, 49]⟩ : ByteArray)).bind fun bt258 => ((payoffref06_Scan.f k (⟨#[97, 32, 45, 32, 49]⟩ : ByteArray)).bind fun bt263 => ((lex_Scan.f k a0).bind fun bt268 => ((payoffref06_Scan.f k a0).bind fun bt273 => (if t255 = bt273.2.2 then (if t254 = bt273.2.1 then ((payofflaw06_sameTokens.f k t253 bt273.1).bind fun t278 => (if t278 = true then ((payofflaw06_sameTokens.f k bt268.1 bt273.1).bind fun t279 => (if t279 = true then ((payofflaw06_sameTokens.f k bt258.1 bt263.1).bind fun t280 => (payofflaw06_LexScans.j0 k a0 t253 bt258.1 bt263.1 bt268.1 bt273.1 bt273.2.2 (!t280))) else (payofflaw06_LexScans.j0 k a0 t253 bt258.1 bt263.1 bt268.1 bt273.1 bt273.2.2 true))) else (payofflaw06_LexScans.j0 k a0 t253 bt258.1 bt263.1 bt268.1 bt273.1 bt273.2.2 true))) else (payofflaw06_LexScans.j0 k a0 t253 bt258.1 bt263.1 bt268.1 bt273.1 bt273.2.2 true)) else (payofflaw06_LexScans.j0 k a0 t253 bt258.1 bt263.1 bt268.1 bt273.1 bt273.2.2 true)))))) = some r := H
 have A2 := yA A20
 clear A20
 replace H := Option.bind_eq_some_iff.mp H
 obtain ⟨⟨t258, t259, t260⟩, A30, H⟩ := H
 replace H : ((payoffref06_Scan.f k (⟨#[97, 32, 45, 32, 49]⟩ : ByteArray)).bind fun bt263 => ((lex_Scan.f k a0).bind fun bt268 => ((payoffref06_Scan.f k a0).bind fun bt273 => (if t255 = bt273.2.2 then (if t254 = bt273.2.1 then ((payofflaw06_sameTokens.f k t253 bt273.1).bind fun t278 => (if t278 = true then ((payofflaw06_sameTokens.f k bt268.1 bt273.1).bind fun t279 => (if t279 = true then ((payofflaw06_sameTokens.f k t258 bt263.1).bind fun t280 => (payofflaw06_LexScans.j0 k a0 t253 t258 bt263.1 bt268.1 bt273.1 bt273.2.2 (!t280))) else (payofflaw06_LexScans.j0 k a0 t253 t258 bt263.1 bt268.1 bt273.1 bt273.2.2 true))) else (payofflaw06_LexScans.j0 k a0 t253 t258 bt263.1 bt268.1 bt273.1 bt273.2.2 true))) else (payofflaw06_LexScans.j0 k a0 t253 t258 bt263.1 bt268.1 bt273.1 bt273.2.2 true)) else (payofflaw06_LexScans.j0 k a0 t253 t258 bt263.1 bt268.1 bt273.1 bt273.2.2 true))))) = some r := H
 have A3 := yA A30
 clear A30
 replace H := Option.bind_eq_some_iff.mp H
 obtain ⟨⟨t263, t264, t265⟩, A40, H⟩ := H
 replace H : ((lex_Scan.f k a0).bind fun bt268 => ((payoffref06_Scan.f k a0).bind fun bt273 => (if t255 = bt273.2.2 then (if t254 = bt273.2.1 then ((payofflaw06_sameTokens.f k t253 bt273.1).bind fun t278 => (if t278 = true then ((payofflaw06_sameTokens.f k bt268.1 bt273.1).bind fun t279 => (if t279 = true then ((payofflaw06_sameTokens.f k t258 t263).bind fun t280 => (payofflaw06_LexScans.j0 k a0 t253 t258 t263 bt268.1 bt273.1 bt273.2.2 (!t280))) else (payofflaw06_LexScans.j0 k a0 t253 t258 t263 bt268.1 bt273.1 bt273.2.2 true))) else (payofflaw06_LexScans.j0 k a0 t253 t258 t263 bt268.1 bt273.1 bt273.2.2 true))) else (payofflaw06_LexScans.j0 k a0 t253 t258 t263 bt268.1 bt273.1 bt273.2.2 true)) else (payofflaw06_LexScans.j0 k a0 t253 t258 t263 bt268.1 bt273.1 bt273.2.2 true)))) = some r := H
 have A4 := yA A40
 clear A40
 replace H := Option.bind_eq_some_iff.mp H
 obtain ⟨⟨t268, t269, t270⟩, A50, H⟩ := H
 replace H : ((payoffref06_Scan.f k a0).bind fun bt273 => (if t255 = bt273.2.2 then (if t254 = bt273.2.1 then ((payofflaw06_sameTokens.f k t253 bt273.1).bind fun t278 => (if t278 = true then ((payofflaw06_sameTokens.f k t268 bt273.1).bind fun t279 => (if t279 = true then ((payofflaw06_sameTokens.f k t258 t263).bind fun t280 => (payofflaw06_LexScans.j0 k a0 t253 t258 t263 t268 bt273.1 bt273.2.2 (!t280))) else (payofflaw06_LexScans.j0 k a0 t253 t258 t263 t268 bt273.1 bt273.2.2 true))) else (payofflaw06_LexScans.j0 k a0 t253 t258 t263 t268 bt273.1 bt273.2.2 true))) else (payofflaw06_LexScans.j0 k a0 t253 t258 t263 t268 bt273.1 bt273.2.2 true)) else (payofflaw06_LexScans.j0 k a0 t253 t258 t263 t268 bt273.1 bt273.2.2 true))) = some r := H
 have A5 := yA A50
 clear A50
 replace H := Option.bind_eq_some_iff.mp H
 obtain ⟨⟨t273, t274, t275⟩, A60, H⟩ := H
 replace H : (if t255 = t275 then (if t254 = t274 then ((payofflaw06_sameTokens.f k t253 t273).bind fun t278 => (if t278 = true then ((payofflaw06_sameTokens.f k t268 t273).bind fun t279 => (if t279 = true then ((payofflaw06_sameTokens.f k t258 t263).bind fun t280 => (payofflaw06_LexScans.j0 k a0 t253 t258 t263 t268 t273 t275 (!t280))) else (payofflaw06_LexScans.j0 k a0 t253 t258 t263 t268 t273 t275 true))) else (payofflaw06_LexScans.j0 k a0 t253 t258 t263 t268 t273 t275 true))) else (payofflaw06_LexScans.j0 k a0 t253 t258 t263 t268 t273 t275 true)) else (payofflaw06_LexScans.j0 k a0 t253 t258 t263 t268 t273 t275 true)) = some r := H
 have A6 := yA A60
 clear A60
 have HC7 := yA H
 clear H
 go_enter Tryd.func3, Tryd.ntmps3
 go_upto_region 6 with (first | ((with_reducible refine yO (f := 10) rfl ?_); refine goesL_ (some 27) rfl rfl Tryd.func10 (by kernel_rfl) rfl #[.string a0] rfl (by (try simp only [List.map_toArray, List.map_cons, List.map_nil]); first | done | rfl | (simp only [List.length_drop, List.length_take]; rfl)) ?_; (with_reducible refine (lex_Scan.calls k a0 t253 t254 t255 _ A2.out (Pure.Gl.below HG.out (by repeat (first | (with_reducible first | exact HB.out | apply yE | apply yF | apply yD | (refine yJ ?_ (by first | exact trivial )) ) | exact HB.out)))).mono ?_); rintro e w8 ⟨v256, rfl, ho0, hb⟩; refine ⟨_, rfl, ?_⟩; have n0_ := yA (Kd.R_lower ho0 (below_size (by repeat (first | (with_reducible first | exact HB.out | apply yE | apply yF | apply yD) | exact HB.out)))); have n1_ := yA (yB (by repeat (first | (with_reducible first | exact HB.out | apply yE | apply yF | apply yD) | exact HB.out)) hb); clear HB; have HO257 := n0_; have HB := n1_; clear n0_ n1_; (try clear hb); (try clear hb2); (try clear hk); (try clear hi); (try clear ho0)) | ((with_reducible refine yO (f := 10) rfl ?_); refine goesL_ (some 32) rfl rfl Tryd.func10 (by kernel_rfl) rfl #[.string (⟨#[97, 32, 45, 32, 49]⟩ : ByteArray)] rfl (by (try simp only [List.map_toArray, List.map_cons, List.map_nil]); first | done | rfl | (simp only [List.length_drop, List.length_take]; rfl)) ?_; (with_reducible refine (lex_Scan.calls k (⟨#[97, 32, 45, 32, 49]⟩ : ByteArray) t258 t259 t260 _ A3.out (Pure.Gl.below HG.out (by repeat (first | (with_reducible first | exact HB.out | apply yE | apply yF | apply yD | (refine yJ ?_ (by first | exact trivial )) ) | exact HB.out)))).mono ?_); rintro e w9 ⟨v261, rfl, ho0, hb⟩; refine ⟨_, rfl, ?_⟩; have n0_ := yA (Kd.R_elder' (by (with_reducible repeat (first | apply Kd.R_alloc | apply Kd.R_drewN | apply Kd.R_drew)); exact HO257.out) (Kd.R_base ho0) hb); have n1_ := yA (Kd.R_lower (Kd.R_new' ho0 (Kd.R_lt (by (with_reducible repeat (first | apply Kd.R_alloc | apply Kd.R_drewN | apply Kd.R_drew)); exact HO257.out))) (below_size (by repeat (first | (with_reducible first | exact HB.out | apply yE | apply yF | apply yD) | exact HB.out)))); have n2_ := yA (yB (by repeat (first | (with_reducible first | exact HB.out | apply yE | apply yF | apply yD) | exact HB.out)) hb); clear HO257; clear HB; have HO257 := n0_; have HO262 := n1_; have HB := n2_; clear n0_ n1_ n2_; (try clear hb); (try clear hb2); (try clear hk); (try clear hi); (try clear ho0)) | ((with_reducible refine yO (f := 11) rfl ?_); refine goesL_ (some 37) rfl rfl Tryd.func11 (by kernel_rfl) rfl #[.string (⟨#[97, 32, 45, 32, 49]⟩ : ByteArray)] rfl (by (try simp only [List.map_toArray, List.map_cons, List.map_nil]); first | done | rfl | (simp only [List.length_drop, List.length_take]; rfl)) ?_; (with_reducible refine (payoffref06_Scan.calls k (⟨#[97, 32, 45, 32, 49]⟩ : ByteArray) t263 t264 t265 _ A4.out).mono ?_); rintro e w10 ⟨v266, rfl, ho0, hb⟩; refine ⟨_, rfl, ?_⟩; have n0_ := yA (Kd.R_elder' (by (with_reducible repeat (first | apply Kd.R_alloc | apply Kd.R_drewN | apply Kd.R_drew)); exact HO257.out) (Kd.R_base ho0) hb); have n1_ := yA (Kd.R_elder' (by (with_reducible repeat (first | apply Kd.R_alloc | apply Kd.R_drewN | apply Kd.R_drew)); exact HO262.out) (Kd.R_base ho0) hb); have n2_ := yA (Kd.R_lower (Kd.R_new' (Kd.R_new' ho0 (Kd.R_lt (by (with_reducible repeat (first | apply Kd.R_alloc | apply Kd.R_drewN | apply Kd.R_drew)); exact HO257.out))) (Kd.R_lt (by (with_reducible repeat (first | apply Kd.R_alloc | apply Kd.R_drewN | apply Kd.R_drew)); exact HO262.out))) (below_size (by repeat (first | (with_reducible first | exact HB.out | apply yE | apply yF | apply yD) | exact HB.out)))); have n3_ := yA (yB (by repeat (first | (with_reducible first | exact HB.out | apply yE | apply yF | apply yD) | exact HB.out)) hb); clear HO257; clear HO262; clear HB; have HO257 := n0_; have HO262 := n1_; have HO267 := n2_; have HB := n3_; clear n0_ n1_ n2_ n3_; (try clear hb); (try clear hb2); (try clear hk); (try clear hi); (try clear ho0)) | ((with_reducible refine yO (f := 10) rfl ?_); refine goesL_ (some 43) rfl rfl Tryd.func10 (by kernel_rfl) rfl #[.string a0] rfl (by (try simp only [List.map_toArray, List.map_cons, List.map_nil]); first | done | rfl | (simp only [List.length_drop, List.length_take]; rfl)) ?_; (with_reducible refine (lex_Scan.calls k a0 t268 t269 t270 _ A5.out (Pure.Gl.below HG.out (by repeat (first | (with_reducible first | exact HB.out | apply yE | apply yF | apply yD | (refine yJ ?_ (by first | exact trivial )) ) | exact HB.out)))).mono ?_); rintro e w11 ⟨v271, rfl, ho0, hb⟩; refine ⟨_, rfl, ?_⟩; have n0_ := yA (Kd.R_elder' (by (with_reducible repeat (first | apply Kd.R_alloc | apply Kd.R_drewN | apply Kd.R_drew)); exact HO257.out) (Kd.R_base ho0) hb); have n1_ := yA (Kd.R_elder' (by (with_reducible repeat (first | apply Kd.R_alloc | apply Kd.R_drewN | apply Kd.R_drew)); exact HO262.out) (Kd.R_base ho0) hb); have n2_ := yA (Kd.R_elder' (by (with_reducible repeat (first | apply Kd.R_alloc | apply Kd.R_drewN | apply Kd.R_drew)); exact HO267.out) (Kd.R_base ho0) hb); have n3_ := yA (Kd.R_lower (Kd.R_new' (Kd.R_new' (Kd.R_new' ho0 (Kd.R_lt (by (with_reducible repeat (first | apply Kd.R_alloc | apply Kd.R_drewN | apply Kd.R_drew)); exact HO257.out))) (Kd.R_lt (by (with_reducible repeat (first | apply Kd.R_alloc | apply Kd.R_drewN | apply Kd.R_drew)); exact HO262.out))) (Kd.R_lt (by (with_reducible repeat (first | apply Kd.R_alloc | apply Kd.R_drewN | apply Kd.R_drew)); exact HO267.out))) (below_size (by repeat (first | (with_reducible first | exact HB.out | apply yE | apply yF | apply yD) | exact HB.out)))); have n4_ := yA (yB (by repeat (first | (with_reducible first | exact HB.out | apply yE | apply yF | apply yD) | exact HB.out)) hb); clear HO257; clear HO262; clear HO267; clear HB; have HO257 := n0_; have HO262 := n1_; have HO267 := n2_; have HO272 := n3_; have HB := n4_; clear n0_ n1_ n2_ n3_ n4_; (try clear hb); (try clear hb2); (try clear hk); (try clear hi); (try clear ho0)) | ((with_reducible refine yO (f := 11) rfl ?_); refine goesL_ (some 49) rfl rfl Tryd.func11 (by kernel_rfl) rfl #[.string a0] rfl (by (try simp only [List.map_toArray, List.map_cons, List.map_nil]); first | done | rfl | (simp only [List.length_drop, List.length_take]; rfl)) ?_; (with_reducible refine (payoffref06_Scan.calls k a0 t273 t274 t275 _ A6.out).mono ?_); rintro e w12 ⟨v276, rfl, ho0, hb⟩; refine ⟨_, rfl, ?_⟩; have n0_ := yA (Kd.R_elder' (by (with_reducible repeat (first | apply Kd.R_alloc | apply Kd.R_drewN | apply Kd.R_drew)); exact HO257.out) (Kd.R_base ho0) hb); have n1_ := yA (Kd.R_elder' (by (with_reducible repeat (first | apply Kd.R_alloc | apply Kd.R_drewN | apply Kd.R_drew)); exact HO262.out) (Kd.R_base ho0) hb); have n2_ := yA (Kd.R_elder' (by (with_reducible repeat (first | apply Kd.R_alloc | apply Kd.R_drewN | apply Kd.R_drew)); exact HO267.out) (Kd.R_base ho0) hb); have n3_ := yA (Kd.R_elder' (by (with_reducible repeat (first | apply Kd.R_alloc | apply Kd.R_drewN | apply Kd.R_drew)); exact HO272.out) (Kd.R_base ho0) hb); have n4_ := yA (Kd.R_lower (Kd.R_new' (Kd.R_new' (Kd.R_new' (Kd.R_new' ho0 (Kd.R_lt (by (with_reducible repeat (first | apply Kd.R_alloc | apply Kd.R_drewN | apply Kd.R_drew)); exact HO257.out))) (Kd.R_lt (by (with_reducible repeat (first | apply Kd.R_alloc | apply Kd.R_drewN | apply Kd.R_drew)); exact HO262.out))) (Kd.R_lt (by (with_reducible repeat (first | apply Kd.R_alloc | apply Kd.R_drewN | apply Kd.R_drew)); exact HO267.out))) (Kd.R_lt (by (with_reducible repeat (first | apply Kd.R_alloc | apply Kd.R_drewN | apply Kd.R_drew)); exact HO272.out))) (below_size (by repeat (first | (with_reducible first | exact HB.out | apply yE | apply yF | apply yD) | exact HB.out)))); have n5_ := yA (yB (by repeat (first | (with_reducible first | exact HB.out | apply yE | apply yF | apply yD) | exact HB.out)) hb); clear HO257; clear HO262; clear HO267; clear HO272; clear HB; have HO257 := n0_; have HO262 := n1_; have HO267 := n2_; have HO272 := n3_; have HO277 := n4_; have HB := n5_; clear n0_ n1_ n2_ n3_ n4_ n5_; (try clear hb); (try clear hb2); (try clear hk); (try clear hi); (try clear ho0)))
 (try simp only [Act.put, lA, lB, lC])
 go_cut [78] (fun v78 wc => ∃ (kq : Nat) (x78_6 : Bool), v78 = .bool x78_6 ∧ Aside0 (payofflaw06_LexScans.j0 kq a0 t253 t258 t263 t268 t273 t275 x78_6 = some r) ∧ Aside0 (kq ≤ k) ∧ Aside0 (Kd.R k32 32 wc w.heap.size (fun k_ => some k_ ≠ (v261 : Value).ownBlock ∧ some k_ ≠ (v266 : Value).ownBlock ∧ some k_ ≠ (v271 : Value).ownBlock ∧ some k_ ≠ (v276 : Value).ownBlock) v256 t253) ∧ Aside0 (Kd.R k32 32 wc w.heap.size (fun k_ => some k_ ≠ (v256 : Value).ownBlock ∧ some k_ ≠ (v266 : Value).ownBlock ∧ some k_ ≠ (v271 : Value).ownBlock ∧ some k_ ≠ (v276 : Value).ownBlock) v261 t258) ∧ Aside0 (Kd.R k32 32 wc w.heap.size (fun k_ => some k_ ≠ (v256 : Value).ownBlock ∧ some k_ ≠ (v261 : Value).ownBlock ∧ some k_ ≠ (v271 : Value).ownBlock ∧ some k_ ≠ (v276 : Value).ownBlock) v266 t263) ∧ Aside0 (Kd.R k32 32 wc w.heap.size (fun k_ => some k_ ≠ (v256 : Value).ownBlock ∧ some k_ ≠ (v261 : Value).ownBlock ∧ some k_ ≠ (v266 : Value).ownBlock ∧ some k_ ≠ (v276 : Value).ownBlock) v271 t268) ∧ Aside0 (Kd.R k32 32 wc w.heap.size (fun k_ => some k_ ≠ (v256 : Value).ownBlock ∧ some k_ ≠ (v261 : Value).ownBlock ∧ some k_ ≠ (v266 : Value).ownBlock ∧ some k_ ≠ (v271 : Value).ownBlock) v276 t273) ∧ Aside0 (Below w.heap.size w wc))
 case first =>
  have H := HC7.out
  clear HC7
  by_cases c13 : t255 = t275
  ·rw [if_pos c13] at H
   have c13b0 : (t255 == t275) = true := beq_iff_eq.mpr c13
   have c13b1 : (t255 != t275) = false := bne_eq_false_iff_eq.mpr c13
   clear c13
   (first | rw [c13b0] | (simp only [i64_w, i32_w]; rw [c13b0]) | skip)
   by_cases c14 : t254 = t274
   ·rw [if_pos c14] at H
    have c14b0 : (t254 == t274) = true := beq_iff_eq.mpr c14
    have c14b1 : (t254 != t274) = false := bne_eq_false_iff_eq.mpr c14
    clear c14
    replace H := Option.bind_eq_some_iff.mp H
    obtain ⟨t278, A150, H⟩ := H
    replace H : (if t278 = true then ((payofflaw06_sameTokens.f k t268 t273).bind fun t279 => (if t279 = true then ((payofflaw06_sameTokens.f k t258 t263).bind fun t280 => (payofflaw06_LexScans.j0 k a0 t253 t258 t263 t268 t273 t275 (!t280))) else (payofflaw06_LexScans.j0 k a0 t253 t258 t263 t268 t273 t275 true))) else (payofflaw06_LexScans.j0 k a0 t253 t258 t263 t268 t273 t275 true)) = some r := H
    have A15 := yA A150
    clear A150
    by_cases c16 : t278 = true
    ·subst c16
     have H1 : ((payofflaw06_sameTokens.f k t268 t273).bind fun t279 => (if t279 = true then ((payofflaw06_sameTokens.f k t258 t263).bind fun t280 => (payofflaw06_LexScans.j0 k a0 t253 t258 t263 t268 t273 t275 (!t280))) else (payofflaw06_LexScans.j0 k a0 t253 t258 t263 t268 t273 t275 true))) = some r := by rw [if_pos rfl] at H; exact H
     clear H
     have H := H1
     clear H1
     replace H := Option.bind_eq_some_iff.mp H
     obtain ⟨t279, A170, H⟩ := H
     replace H : (if t279 = true then ((payofflaw06_sameTokens.f k t258 t263).bind fun t280 => (payofflaw06_LexScans.j0 k a0 t253 t258 t263 t268 t273 t275 (!t280))) else (payofflaw06_LexScans.j0 k a0 t253 t258 t263 t268 t273 t275 true)) = some r := H
     have A17 := yA A170
     clear A170
     by_cases c18 : t279 = true
     ·subst c18
      have H1 : ((payofflaw06_sameTokens.f k t258 t263).bind fun t280 => (payofflaw06_LexScans.j0 k a0 t253 t258 t263 t268 t273 t275 (!t280))) = some r := by rw [if_pos rfl] at H; exact H
      clear H
      have H := H1
      clear H1
      replace H := Option.bind_eq_some_iff.mp H
      obtain ⟨t280, A190, H⟩ := H
      replace H : (payofflaw06_LexScans.j0 k a0 t253 t258 t263 t268 t273 t275 (!t280)) = some r := H
      have A19 := yA A190
      clear A190
      have H' := yA H
      clear H
      obtain ⟨Ao20, co20, eo20⟩ := Kd.R_slice HO257.out
      subst eo20
      obtain ⟨Ao21, co21, eo21⟩ := Kd.R_slice HO277.out
      subst eo21
      go_wp2_with (first | (go_at_call 12; (with_reducible refine (payofflaw06_sameTokens.calls k _ _ t253 _ _ t273 true _ ?side1 ?side2 ?side3 ?side4 A15.out).mono ?_); (case side1 => repeat (first | exact (Kd.R_reads' HO257.out).2.2 | (with_reducible refine Kd.C_alloc ?_ _) | (with_reducible refine Kd.C_drewN ?_ _) | (with_reducible refine Kd.C_drew ?_))); (case side2 => exact (Kd.R_reads' HO257.out).2.1); (case side3 => repeat (first | exact (Kd.R_reads' HO277.out).2.2 | (with_reducible refine Kd.C_alloc ?_ _) | (with_reducible refine Kd.C_drewN ?_ _) | (with_reducible refine Kd.C_drew ?_))); (case side4 => exact (Kd.R_reads' HO277.out).2.1); rintro e w' ⟨rfl, ⟨nd, rfl⟩⟩; obtain ⟨Ao22, co22, eo22⟩ := Kd.R_slice HO272.out; subst eo22) | (go_at_call 12; (with_reducible refine (payofflaw06_sameTokens.calls k _ _ t268 _ _ t273 true _ ?side1 ?side2 ?side3 ?side4 A17.out).mono ?_); (case side1 => repeat (first | exact (Kd.R_reads' HO272.out).2.2 | (with_reducible refine Kd.C_alloc ?_ _) | (with_reducible refine Kd.C_drewN ?_ _) | (with_reducible refine Kd.C_drew ?_))); (case side2 => exact (Kd.R_reads' HO272.out).2.1); (case side3 => repeat (first | exact (Kd.R_reads' HO277.out).2.2 | (with_reducible refine Kd.C_alloc ?_ _) | (with_reducible refine Kd.C_drewN ?_ _) | (with_reducible refine Kd.C_drew ?_))); (case side4 => exact (Kd.R_reads' HO277.out).2.1); rintro e w' ⟨rfl, ⟨nd, rfl⟩⟩; obtain ⟨Ao23, co23, eo23⟩ := Kd.R_slice HO262.out; subst eo23; obtain ⟨Ao24, co24, eo24⟩ := Kd.R_slice HO267.out; subst eo24) | (go_at_call 12; (with_reducible refine (payofflaw06_sameTokens.calls k _ _ t258 _ _ t263 t280 _ ?side1 ?side2 ?side3 ?side4 A19.out).mono ?_); (case side1 => repeat (first | exact (Kd.R_reads' HO262.out).2.2 | (with_reducible refine Kd.C_alloc ?_ _) | (with_reducible refine Kd.C_drewN ?_ _) | (with_reducible refine Kd.C_drew ?_))); (case side2 => exact (Kd.R_reads' HO262.out).2.1); (case side3 => repeat (first | exact (Kd.R_reads' HO267.out).2.2 | (with_reducible refine Kd.C_alloc ?_ _) | (with_reducible refine Kd.C_drewN ?_ _) | (with_reducible refine Kd.C_drew ?_))); (case side4 => exact (Kd.R_reads' HO267.out).2.1); rintro e w' ⟨rfl, ⟨nd, rfl⟩⟩))
      go_meet
      case rel => exact ⟨_, (!t280), (by first | rfl | (simp; done) | (simp [*]; done)), H', ⟨by first | omega | exact Nat.le_refl _⟩, ⟨by (with_reducible repeat (first | apply Kd.R_alloc | apply Kd.R_drewN | apply Kd.R_drew)); exact Kd.R_mono HO257.out (fun _ hk => ⟨hk.1.1.1.2, ⟨hk.1.1.2, ⟨hk.1.2, hk.2⟩⟩⟩)⟩, ⟨by (with_reducible repeat (first | apply Kd.R_alloc | apply Kd.R_drewN | apply Kd.R_drew)); exact Kd.R_mono HO262.out (fun _ hk => ⟨hk.1.1.1.2, ⟨hk.1.1.2, ⟨hk.1.2, hk.2⟩⟩⟩)⟩, ⟨by (with_reducible repeat (first | apply Kd.R_alloc | apply Kd.R_drewN | apply Kd.R_drew)); exact Kd.R_mono HO267.out (fun _ hk => ⟨hk.1.1.1.2, ⟨hk.1.1.2, ⟨hk.1.2, hk.2⟩⟩⟩)⟩, ⟨by (with_reducible repeat (first | apply Kd.R_alloc | apply Kd.R_drewN | apply Kd.R_drew)); exact Kd.R_mono HO272.out (fun _ hk => ⟨hk.1.1.1.2, ⟨hk.1.1.2, ⟨hk.1.2, hk.2⟩⟩⟩)⟩, ⟨by (with_reducible repeat (first | apply Kd.R_alloc | apply Kd.R_drewN | apply Kd.R_drew)); exact Kd.R_mono HO277.out (fun _ hk => ⟨hk.1.1.1.2, ⟨hk.1.1.2, ⟨hk.1.2, hk.2⟩⟩⟩)⟩, ⟨by repeat (first | (with_reducible first | exact HB.out | apply yE | apply yF | apply yD) | exact HB.out)⟩⟩
     ·replace c18 := Bool.eq_false_iff.mpr c18
      subst c18
      have H1 : (payofflaw06_LexScans.j0 k a0 t253 t258 t263 t268 t273 t275 true) = some r := by rw [if_neg (show ¬ (false = true) by decide)] at H; exact H
      clear H
      have H := H1
      clear H1
      have H' := yA H
      clear H
      obtain ⟨Ao25, co25, eo25⟩ := Kd.R_slice HO257.out
      subst eo25
      obtain ⟨Ao26, co26, eo26⟩ := Kd.R_slice HO277.out
      subst eo26
      go_wp2_with (first | (go_at_call 12; (with_reducible refine (payofflaw06_sameTokens.calls k _ _ t253 _ _ t273 true _ ?side1 ?side2 ?side3 ?side4 A15.out).mono ?_); (case side1 => repeat (first | exact (Kd.R_reads' HO257.out).2.2 | (with_reducible refine Kd.C_alloc ?_ _) | (with_reducible refine Kd.C_drewN ?_ _) | (with_reducible refine Kd.C_drew ?_))); (case side2 => exact (Kd.R_reads' HO257.out).2.1); (case side3 => repeat (first | exact (Kd.R_reads' HO277.out).2.2 | (with_reducible refine Kd.C_alloc ?_ _) | (with_reducible refine Kd.C_drewN ?_ _) | (with_reducible refine Kd.C_drew ?_))); (case side4 => exact (Kd.R_reads' HO277.out).2.1); rintro e w' ⟨rfl, ⟨nd, rfl⟩⟩; obtain ⟨Ao27, co27, eo27⟩ := Kd.R_slice HO272.out; subst eo27) | (go_at_call 12; (with_reducible refine (payofflaw06_sameTokens.calls k _ _ t268 _ _ t273 false _ ?side1 ?side2 ?side3 ?side4 A17.out).mono ?_); (case side1 => repeat (first | exact (Kd.R_reads' HO272.out).2.2 | (with_reducible refine Kd.C_alloc ?_ _) | (with_reducible refine Kd.C_drewN ?_ _) | (with_reducible refine Kd.C_drew ?_))); (case side2 => exact (Kd.R_reads' HO272.out).2.1); (case side3 => repeat (first | exact (Kd.R_reads' HO277.out).2.2 | (with_reducible refine Kd.C_alloc ?_ _) | (with_reducible refine Kd.C_drewN ?_ _) | (with_reducible refine Kd.C_drew ?_))); (case side4 => exact (Kd.R_reads' HO277.out).2.1); rintro e w' ⟨rfl, ⟨nd, rfl⟩⟩))
      go_meet
      case rel => exact ⟨_, (true), (by first | rfl | (simp; done) | (simp [*]; done)), H', ⟨by first | omega | exact Nat.le_refl _⟩, ⟨by (with_reducible repeat (first | apply Kd.R_alloc | apply Kd.R_drewN | apply Kd.R_drew)); exact Kd.R_mono HO257.out (fun _ hk => ⟨hk.1.1.1.2, ⟨hk.1.1.2, ⟨hk.1.2, hk.2⟩⟩⟩)⟩, ⟨by (with_reducible repeat (first | apply Kd.R_alloc | apply Kd.R_drewN | apply Kd.R_drew)); exact Kd.R_mono HO262.out (fun _ hk => ⟨hk.1.1.1.2, ⟨hk.1.1.2, ⟨hk.1.2, hk.2⟩⟩⟩)⟩, ⟨by (with_reducible repeat (first | apply Kd.R_alloc | apply Kd.R_drewN | apply Kd.R_drew)); exact Kd.R_mono HO267.out (fun _ hk => ⟨hk.1.1.1.2, ⟨hk.1.1.2, ⟨hk.1.2, hk.2⟩⟩⟩)⟩, ⟨by (with_reducible repeat (first | apply Kd.R_alloc | apply Kd.R_drewN | apply Kd.R_drew)); exact Kd.R_mono HO272.out (fun _ hk => ⟨hk.1.1.1.2, ⟨hk.1.1.2, ⟨hk.1.2, hk.2⟩⟩⟩)⟩, ⟨by (with_reducible repeat (first | apply Kd.R_alloc | apply Kd.R_drewN | apply Kd.R_drew)); exact Kd.R_mono HO277.out (fun _ hk => ⟨hk.1.1.1.2, ⟨hk.1.1.2, ⟨hk.1.2, hk.2⟩⟩⟩)⟩, ⟨by repeat (first | (with_reducible first | exact HB.out | apply yE | apply yF | apply yD) | exact HB.out)⟩⟩
    ·replace c16 := Bool.eq_false_iff.mpr c16
     subst c16
     have H1 : (payofflaw06_LexScans.j0 k a0 t253 t258 t263 t268 t273 t275 true) = some r := by rw [if_neg (show ¬ (false = true) by decide)] at H; exact H
     clear H
     have H := H1
     clear H1
     have H' := yA H
     clear H
     obtain ⟨Ao28, co28, eo28⟩ := Kd.R_slice HO257.out
     subst eo28
     obtain ⟨Ao29, co29, eo29⟩ := Kd.R_slice HO277.out
     subst eo29
     go_wp2_with (first | (go_at_call 12; (with_reducible refine (payofflaw06_sameTokens.calls k _ _ t253 _ _ t273 false _ ?side1 ?side2 ?side3 ?side4 A15.out).mono ?_); (case side1 => repeat (first | exact (Kd.R_reads' HO257.out).2.2 | (with_reducible refine Kd.C_alloc ?_ _) | (with_reducible refine Kd.C_drewN ?_ _) | (with_reducible refine Kd.C_drew ?_))); (case side2 => exact (Kd.R_reads' HO257.out).2.1); (case side3 => repeat (first | exact (Kd.R_reads' HO277.out).2.2 | (with_reducible refine Kd.C_alloc ?_ _) | (with_reducible refine Kd.C_drewN ?_ _) | (with_reducible refine Kd.C_drew ?_))); (case side4 => exact (Kd.R_reads' HO277.out).2.1); rintro e w' ⟨rfl, ⟨nd, rfl⟩⟩))
     go_meet
     case rel => exact ⟨_, (true), (by first | rfl | (simp; done) | (simp [*]; done)), H', ⟨by first | omega | exact Nat.le_refl _⟩, ⟨by (with_reducible repeat (first | apply Kd.R_alloc | apply Kd.R_drewN | apply Kd.R_drew)); exact Kd.R_mono HO257.out (fun _ hk => ⟨hk.1.1.1.2, ⟨hk.1.1.2, ⟨hk.1.2, hk.2⟩⟩⟩)⟩, ⟨by (with_reducible repeat (first | apply Kd.R_alloc | apply Kd.R_drewN | apply Kd.R_drew)); exact Kd.R_mono HO262.out (fun _ hk => ⟨hk.1.1.1.2, ⟨hk.1.1.2, ⟨hk.1.2, hk.2⟩⟩⟩)⟩, ⟨by (with_reducible repeat (first | apply Kd.R_alloc | apply Kd.R_drewN | apply Kd.R_drew)); exact Kd.R_mono HO267.out (fun _ hk => ⟨hk.1.1.1.2, ⟨hk.1.1.2, ⟨hk.1.2, hk.2⟩⟩⟩)⟩, ⟨by (with_reducible repeat (first | apply Kd.R_alloc | apply Kd.R_drewN | apply Kd.R_drew)); exact Kd.R_mono HO272.out (fun _ hk => ⟨hk.1.1.1.2, ⟨hk.1.1.2, ⟨hk.1.2, hk.2⟩⟩⟩)⟩, ⟨by (with_reducible repeat (first | apply Kd.R_alloc | apply Kd.R_drewN | apply Kd.R_drew)); exact Kd.R_mono HO277.out (fun _ hk => ⟨hk.1.1.1.2, ⟨hk.1.1.2, ⟨hk.1.2, hk.2⟩⟩⟩)⟩, ⟨by repeat (first | (with_reducible first | exact HB.out | apply yE | apply yF | apply yD) | exact HB.out)⟩⟩
   ·rw [if_neg c14] at H
    have c14b0 : (t254 == t274) = false := beq_eq_false_iff_ne.mpr c14
    have c14b1 : (t254 != t274) = true := bne_iff_ne.mpr c14
    have H' := yA H
    clear H
    go_wp2
    go_meet
    case rel => exact ⟨_, (true), (by first | rfl | (simp; done) | (simp [*]; done)), H', ⟨by first | omega | exact Nat.le_refl _⟩, ⟨by (with_reducible repeat (first | apply Kd.R_alloc | apply Kd.R_drewN | apply Kd.R_drew)); exact Kd.R_mono HO257.out (fun _ hk => ⟨hk.1.1.1.2, ⟨hk.1.1.2, ⟨hk.1.2, hk.2⟩⟩⟩)⟩, ⟨by (with_reducible repeat (first | apply Kd.R_alloc | apply Kd.R_drewN | apply Kd.R_drew)); exact Kd.R_mono HO262.out (fun _ hk => ⟨hk.1.1.1.2, ⟨hk.1.1.2, ⟨hk.1.2, hk.2⟩⟩⟩)⟩, ⟨by (with_reducible repeat (first | apply Kd.R_alloc | apply Kd.R_drewN | apply Kd.R_drew)); exact Kd.R_mono HO267.out (fun _ hk => ⟨hk.1.1.1.2, ⟨hk.1.1.2, ⟨hk.1.2, hk.2⟩⟩⟩)⟩, ⟨by (with_reducible repeat (first | apply Kd.R_alloc | apply Kd.R_drewN | apply Kd.R_drew)); exact Kd.R_mono HO272.out (fun _ hk => ⟨hk.1.1.1.2, ⟨hk.1.1.2, ⟨hk.1.2, hk.2⟩⟩⟩)⟩, ⟨by (with_reducible repeat (first | apply Kd.R_alloc | apply Kd.R_drewN | apply Kd.R_drew)); exact Kd.R_mono HO277.out (fun _ hk => ⟨hk.1.1.1.2, ⟨hk.1.1.2, ⟨hk.1.2, hk.2⟩⟩⟩)⟩, ⟨by repeat (first | (with_reducible first | exact HB.out | apply yE | apply yF | apply yD) | exact HB.out)⟩⟩
  ·rw [if_neg c13] at H
   have c13b0 : (t255 == t275) = false := beq_eq_false_iff_ne.mpr c13
   have c13b1 : (t255 != t275) = true := bne_iff_ne.mpr c13
   (first | rw [c13b0] | (simp only [i64_w, i32_w]; rw [c13b0]) | skip)
   have H' := yA H
   clear H
   go_wp2
   go_meet
   case rel => exact ⟨_, (true), (by first | rfl | (simp; done) | (simp [*]; done)), H', ⟨by first | omega | exact Nat.le_refl _⟩, ⟨by (with_reducible repeat (first | apply Kd.R_alloc | apply Kd.R_drewN | apply Kd.R_drew)); exact Kd.R_mono HO257.out (fun _ hk => ⟨hk.1.1.1.2, ⟨hk.1.1.2, ⟨hk.1.2, hk.2⟩⟩⟩)⟩, ⟨by (with_reducible repeat (first | apply Kd.R_alloc | apply Kd.R_drewN | apply Kd.R_drew)); exact Kd.R_mono HO262.out (fun _ hk => ⟨hk.1.1.1.2, ⟨hk.1.1.2, ⟨hk.1.2, hk.2⟩⟩⟩)⟩, ⟨by (with_reducible repeat (first | apply Kd.R_alloc | apply Kd.R_drewN | apply Kd.R_drew)); exact Kd.R_mono HO267.out (fun _ hk => ⟨hk.1.1.1.2, ⟨hk.1.1.2, ⟨hk.1.2, hk.2⟩⟩⟩)⟩, ⟨by (with_reducible repeat (first | apply Kd.R_alloc | apply Kd.R_drewN | apply Kd.R_drew)); exact Kd.R_mono HO272.out (fun _ hk => ⟨hk.1.1.1.2, ⟨hk.1.1.2, ⟨hk.1.2, hk.2⟩⟩⟩)⟩, ⟨by (with_reducible repeat (first | apply Kd.R_alloc | apply Kd.R_drewN | apply Kd.R_drew)); exact Kd.R_mono HO277.out (fun _ hk => ⟨hk.1.1.1.2, ⟨hk.1.1.2, ⟨hk.1.2, hk.2⟩⟩⟩)⟩, ⟨by repeat (first | (with_reducible first | exact HB.out | apply yE | apply yF | apply yD) | exact HB.out)⟩⟩
 case rest =>
  clear HC7
  try clear c1
  try clear p2
  try clear c3
  try clear c10
  try clear c11
  try clear c13
  try clear c13b0
  try clear c13b1
  try clear c14
  try clear c14b0
  try clear c14b1
  try clear c16
  try clear c18
  obtain ⟨kq, x78_6, rfl, HA, HJ6, HO_3, HO_6, HO_9, HO_12, HO_15, HB⟩ := hcut
  cases kq with
  | zero => exact absurd HA.out (by simp [payofflaw06_LexScans.j0])
  | succ kj6 =>
   have H := HA.out
   clear HA
   simp only [payofflaw06_LexScans.j0] at H
   by_cases c30 : x78_6 = true
   ·subst c30
    have H1 : (none) = some r := by rw [if_pos rfl] at H; exact H
    exact absurd H1 (by simp)
   ·replace c30 := Bool.eq_false_iff.mpr c30
    subst c30
    have H1 : (payofflaw06_LexScans.l0 kj6 a0 t253 t258 t263 t268 t273 t275 0) = some r := by rw [if_neg (show ¬ (false = true) by decide)] at H; exact H
    clear H
    have H := H1
    clear H1
    have H' := yA H
    clear H
    go_wp2
    go_loopg [18] kj6 (fun kq v18 w' => ∃ (x3_2 : List (S32)) (x18_2 : Int), v18 = .int .i64 x18_2 ∧ Aside0 (payofflaw06_LexScans.l0 kq a0 x3_2 t258 t263 t268 t273 t275 x18_2 = some r) ∧ Aside0 (kq ≤ kj6) ∧ Aside0 (Kd.R k32 32 w' w.heap.size (fun k_ => some k_ ≠ (v261 : Value).ownBlock ∧ some k_ ≠ (v266 : Value).ownBlock ∧ some k_ ≠ (v271 : Value).ownBlock ∧ some k_ ≠ (v276 : Value).ownBlock) v256 x3_2) ∧ Aside0 (Kd.R k32 32 w' w.heap.size (fun k_ => some k_ ≠ (v256 : Value).ownBlock ∧ some k_ ≠ (v266 : Value).ownBlock ∧ some k_ ≠ (v271 : Value).ownBlock ∧ some k_ ≠ (v276 : Value).ownBlock) v261 t258) ∧ Aside0 (Kd.R k32 32 w' w.heap.size (fun k_ => some k_ ≠ (v256 : Value).ownBlock ∧ some k_ ≠ (v261 : Value).ownBlock ∧ some k_ ≠ (v271 : Value).ownBlock ∧ some k_ ≠ (v276 : Value).ownBlock) v266 t263) ∧ Aside0 (Kd.R k32 32 w' w.heap.size (fun k_ => some k_ ≠ (v256 : Value).ownBlock ∧ some k_ ≠ (v261 : Value).ownBlock ∧ some k_ ≠ (v266 : Value).ownBlock ∧ some k_ ≠ (v276 : Value).ownBlock) v271 t268) ∧ Aside0 (Kd.R k32 32 w' w.heap.size (fun k_ => some k_ ≠ (v256 : Value).ownBlock ∧ some k_ ≠ (v261 : Value).ownBlock ∧ some k_ ≠ (v266 : Value).ownBlock ∧ some k_ ≠ (v271 : Value).ownBlock) v276 t273) ∧ Aside0 (Below w.heap.size w w'))
    case atStart => exact ⟨(t253), (0), (by first | rfl | (simp; done) | (simp [*]; done)), H', ⟨Nat.le_refl _⟩, ⟨by (with_reducible repeat (first | apply Kd.R_alloc | apply Kd.R_drewN | apply Kd.R_drew)); exact HO_3.out⟩, ⟨by (with_reducible repeat (first | apply Kd.R_alloc | apply Kd.R_drewN | apply Kd.R_drew)); exact HO_6.out⟩, ⟨by (with_reducible repeat (first | apply Kd.R_alloc | apply Kd.R_drewN | apply Kd.R_drew)); exact HO_9.out⟩, ⟨by (with_reducible repeat (first | apply Kd.R_alloc | apply Kd.R_drewN | apply Kd.R_drew)); exact HO_12.out⟩, ⟨by (with_reducible repeat (first | apply Kd.R_alloc | apply Kd.R_drewN | apply Kd.R_drew)); exact HO_15.out⟩, ⟨by repeat (first | (with_reducible first | exact HB.out | apply yE | apply yF | apply yD) | exact HB.out)⟩⟩
    case round =>
     clear H'
     try clear c1
     try clear p2
     try clear c3
     try clear c10
     try clear c11
     try clear c13
     try clear c13b0
     try clear c13b1
     try clear c14
     try clear c14b0
     try clear c14b1
     try clear c16
     try clear c18
     try clear c30
     try clear p2
     obtain ⟨x3_2, x18_2, rfl, HA, HK2, HO_3, HO_6, HO_9, HO_12, HO_15, HB⟩ := hrel
     cases gk with
     | zero => exact absurd HA.out (by simp [payofflaw06_LexScans.l0])
     | succ k2 =>
      have H := HA.out
      clear HA
      simp only [payofflaw06_LexScans.l0] at H
      by_cases c31 : x18_2 < (x3_2.length : Int)
      ·rw [if_pos c31] at H
       have c31b0 : decide (x18_2 < (x3_2.length : Int)) = true := yL c31
       clear c31
       by_cases c32 : 0 ≤ x18_2
       ·rw [if_pos c32] at H
        have c32b0 : decide (0 ≤ x18_2) = true := yL c32
        clear c32
        obtain ⟨y281, hy281⟩ : ∃ y_ : List (S32), y_ = (x3_2.set (x18_2 : Int).toNat (⟨99, (⟨#[]⟩ : ByteArray), 0, 0, (⟨0, 0, 0⟩ : S28), (⟨0, 0⟩ : S30)⟩ : S32)) := ⟨_, rfl⟩
        replace H : (payofflaw06_LexScans.l0 k2 a0 y281 t258 t263 t268 t273 t275 (wrap64 (x18_2 + 1))) = some r := by first | (rw [hy281]; with_reducible exact H) | (have H2_ := (Option.bind_some _ _).symm.trans H; rw [hy281]; with_reducible exact H2_) | (have H2_ := (Option.bind_some _ _).symm.trans H; with_reducible exact H2_) | with_reducible exact H | (rw [hy281]; exact H) | exact H
        have Ny281 := yA hy281
        clear hy281
        have H' := yA H
        clear H
        obtain ⟨Ao34, co34, eo34⟩ := Kd.R_slice HO_3.out
        subst eo34
        have p33 : 0 ≤ (x18_2 : Int) := yN (by first | (with_reducible assumption) | assumption)
        have q33 : (x18_2 : Int) < ((x3_2.length : Int) : Int) := yN (by first | (with_reducible assumption) | assumption)
        obtain ⟨go33, co33, eo33, gb33, gl33, cl33, HG33⟩ := Kd.R_form HO_3.out (by omega)
        (first | cases eo33 | (injection eo33 with ea_ en_ ec_; (first | subst ea_ | (injection ea_ with ea_; subst ea_)); subst ec_; clear en_))
        have GB33 := yA gb33
        have GG33 := yA HG33
        clear gb33 gl33 HG33
        obtain ⟨ce33, hcl33, hM33, hcc33, hfr33⟩ := Kd.R_elem HO_3.out z32 (x18_2 : Int) p33 q33
        obtain rfl := k32_openM hM33
        have hx33_0 : wr.cell? ⟨go33, (x18_2 : Int).toNat * 9, none⟩ = some (.int .i64 ((rd_T32 x3_2 x18_2).f0)) := hcc33 0 _ rfl
        have hx33_1 : wr.cell? ⟨go33, (x18_2 : Int).toNat * 9 + 1, none⟩ = some (.string ((rd_T32 x3_2 x18_2).f1)) := hcc33 1 _ rfl
        have hx33_2 : wr.cell? ⟨go33, (x18_2 : Int).toNat * 9 + 2, none⟩ = some (.int .i64 ((rd_T32 x3_2 x18_2).f2)) := hcc33 2 _ rfl
        have hx33_3 : wr.cell? ⟨go33, (x18_2 : Int).toNat * 9 + 3, none⟩ = some (.int .i64 ((rd_T32 x3_2 x18_2).f3)) := hcc33 3 _ rfl
        have hx33_4 : wr.cell? ⟨go33, (x18_2 : Int).toNat * 9 + 4, none⟩ = some (.int .i64 ((rd_T32 x3_2 x18_2).f4.f0)) := hcc33 4 _ rfl
        have hx33_5 : wr.cell? ⟨go33, (x18_2 : Int).toNat * 9 + 5, none⟩ = some (.int .i64 ((rd_T32 x3_2 x18_2).f4.f1)) := hcc33 5 _ rfl
        have hx33_6 : wr.cell? ⟨go33, (x18_2 : Int).toNat * 9 + 6, none⟩ = some (.int .i64 ((rd_T32 x3_2 x18_2).f4.f2)) := hcc33 6 _ rfl
        have hx33_7 : wr.cell? ⟨go33, (x18_2 : Int).toNat * 9 + 7, none⟩ = some (.int .i64 ((rd_T32 x3_2 x18_2).f5.f0)) := hcc33 7 _ rfl
        have hx33_8 : wr.cell? ⟨go33, (x18_2 : Int).toNat * 9 + 8, none⟩ = some (.int .i64 ((rd_T32 x3_2 x18_2).f5.f1)) := hcc33 8 _ rfl
        have hf33_0 : wr.frozen? ⟨go33, (x18_2 : Int).toNat * 9, none⟩ = false := hfr33 0
        have hf33_1 : wr.frozen? ⟨go33, (x18_2 : Int).toNat * 9 + 1, none⟩ = false := hfr33 1
        have hf33_2 : wr.frozen? ⟨go33, (x18_2 : Int).toNat * 9 + 2, none⟩ = false := hfr33 2
        have hf33_3 : wr.frozen? ⟨go33, (x18_2 : Int).toNat * 9 + 3, none⟩ = false := hfr33 3
        have hf33_4 : wr.frozen? ⟨go33, (x18_2 : Int).toNat * 9 + 4, none⟩ = false := hfr33 4
        have hf33_5 : wr.frozen? ⟨go33, (x18_2 : Int).toNat * 9 + 5, none⟩ = false := hfr33 5
        have hf33_6 : wr.frozen? ⟨go33, (x18_2 : Int).toNat * 9 + 6, none⟩ = false := hfr33 6
        have hf33_7 : wr.frozen? ⟨go33, (x18_2 : Int).toNat * 9 + 7, none⟩ = false := hfr33 7
        have hf33_8 : wr.frozen? ⟨go33, (x18_2 : Int).toNat * 9 + 8, none⟩ = false := hfr33 8
        clear hcl33 hcc33 hfr33 hM33
        replace p33 := eq_true p33
        replace q33 := eq_true q33
        have HX35 := yA (show Kd.R k32 32 wr w.heap.size (fun k_ => some k_ ≠ (v261 : Value).ownBlock ∧ some k_ ≠ (v266 : Value).ownBlock ∧ some k_ ≠ (v271 : Value).ownBlock ∧ some k_ ≠ (v276 : Value).ownBlock) (.slice (some ⟨go33, 0, none⟩) x3_2.length co34) x3_2 from (by (with_reducible repeat (first | apply Kd.R_alloc | apply Kd.R_drewN | apply Kd.R_drew)); exact HO_3.out))
        obtain ⟨ce35, hcl35, hM35, hcc35, hfr35⟩ := Kd.R_elem HX35.out z32 (x18_2 : Int) (yN (by first | (with_reducible assumption) | assumption)) (by have h_ : (x18_2 : Int) < ((x3_2.length : Int) : Int) := yN (by first | (with_reducible assumption) | assumption); first | exact h_ | (have e_ := (Kd.R_reads' HO_3.out).1; omega) | simpa using h_)
        obtain rfl := k32_openM hM35
        have HP35 := Kd.R_seg HX35.out (x18_2 : Int) (yN (by first | (with_reducible assumption) | assumption)) (by have h_ : (x18_2 : Int) < ((x3_2.length : Int) : Int) := yN (by first | (with_reducible assumption) | assumption); first | exact h_ | (have e_ := (Kd.R_reads' HO_3.out).1; omega) | simpa using h_) (seg := [.int .i64 99, .string (⟨#[]⟩ : ByteArray), .int .i64 0, .int .i64 0, .int .i64 0, .int .i64 0, .int .i64 0, .int .i64 0, .int .i64 0]) (j := 0) hcl35 hcc35 (show 9 ≤ 9 from by decide) (x' := (⟨99, (⟨#[]⟩ : ByteArray), 0, 0, (⟨0, 0, 0⟩ : S28), (⟨0, 0⟩ : S30)⟩ : S32)) (k32_mkM _ _ _ (⟨99, (⟨#[]⟩ : ByteArray), 0, 0, (⟨0, 0, 0⟩ : S28), (⟨0, 0⟩ : S30)⟩ : S32) ) (fun _ hk => hk)
        have hx35_0 := hcc35 0 _ rfl
        (try simp only [show (k32).sz = 9 from rfl, Nat.mul_one, Nat.add_zero] at hx35_0)
        have hf35_0 := hfr35 0
        (try simp only [show (k32).sz = 9 from rfl, Nat.mul_one, Nat.add_zero] at hf35_0)
        have hx35_1 := hcc35 1 _ rfl
        (try simp only [show (k32).sz = 9 from rfl, Nat.mul_one, Nat.add_zero] at hx35_1)
        have hf35_1 := hfr35 1
        (try simp only [show (k32).sz = 9 from rfl, Nat.mul_one, Nat.add_zero] at hf35_1)
        have hx35_2 := hcc35 2 _ rfl
        (try simp only [show (k32).sz = 9 from rfl, Nat.mul_one, Nat.add_zero] at hx35_2)
        have hf35_2 := hfr35 2
        (try simp only [show (k32).sz = 9 from rfl, Nat.mul_one, Nat.add_zero] at hf35_2)
        have hx35_3 := hcc35 3 _ rfl
        (try simp only [show (k32).sz = 9 from rfl, Nat.mul_one, Nat.add_zero] at hx35_3)
        have hf35_3 := hfr35 3
        (try simp only [show (k32).sz = 9 from rfl, Nat.mul_one, Nat.add_zero] at hf35_3)
        have hx35_4 := hcc35 4 _ rfl
        (try simp only [show (k32).sz = 9 from rfl, Nat.mul_one, Nat.add_zero] at hx35_4)
        have hf35_4 := hfr35 4
        (try simp only [show (k32).sz = 9 from rfl, Nat.mul_one, Nat.add_zero] at hf35_4)
        have hx35_5 := hcc35 5 _ rfl
        (try simp only [show (k32).sz = 9 from rfl, Nat.mul_one, Nat.add_zero] at hx35_5)
        have hf35_5 := hfr35 5
        (try simp only [show (k32).sz = 9 from rfl, Nat.mul_one, Nat.add_zero] at hf35_5)
        have hx35_6 := hcc35 6 _ rfl
        (try simp only [show (k32).sz = 9 from rfl, Nat.mul_one, Nat.add_zero] at hx35_6)
        have hf35_6 := hfr35 6
        (try simp only [show (k32).sz = 9 from rfl, Nat.mul_one, Nat.add_zero] at hf35_6)
        have hx35_7 := hcc35 7 _ rfl
        (try simp only [show (k32).sz = 9 from rfl, Nat.mul_one, Nat.add_zero] at hx35_7)
        have hf35_7 := hfr35 7
        (try simp only [show (k32).sz = 9 from rfl, Nat.mul_one, Nat.add_zero] at hf35_7)
        have hx35_8 := hcc35 8 _ rfl
        (try simp only [show (k32).sz = 9 from rfl, Nat.mul_one, Nat.add_zero] at hx35_8)
        have hf35_8 := hfr35 8
        (try simp only [show (k32).sz = 9 from rfl, Nat.mul_one, Nat.add_zero] at hf35_8)
        clear hcl35 hcc35 hfr35 hM35
        go_wp2_with (first | ((with_reducible refine gate_store (t := 32) (p := 88) rfl ?_); refine store_event (t := 32) (p := 88) (v := ?vo_w36) (w1 := (((((((((wr.setCell ⟨go33, (x18_2 : Int).toNat * 9, none⟩ (.int .i64 99)).setCell ⟨go33, (x18_2 : Int).toNat * 9 + 1, none⟩ (.string (⟨#[]⟩ : ByteArray))).setCell ⟨go33, (x18_2 : Int).toNat * 9 + 2, none⟩ (.int .i64 0)).setCell ⟨go33, (x18_2 : Int).toNat * 9 + 3, none⟩ (.int .i64 0)).setCell ⟨go33, (x18_2 : Int).toNat * 9 + 4, none⟩ (.int .i64 0)).setCell ⟨go33, (x18_2 : Int).toNat * 9 + 5, none⟩ (.int .i64 0)).setCell ⟨go33, (x18_2 : Int).toNat * 9 + 6, none⟩ (.int .i64 0)).setCell ⟨go33, (x18_2 : Int).toNat * 9 + 7, none⟩ (.int .i64 0)).setCell ⟨go33, (x18_2 : Int).toNat * 9 + 8, none⟩ (.int .i64 0))) ?hg ?ho ?hn ?hr ?_; (case ho => rfl); (case hg => rfl); (case hn => rfl); (case hr => first | (go_simp; done) | (go_simp; rfl)); intro w36 hw; have hg : wr.grownBy w36 (some go33) := (by rw [hw]; exact HP35.2); have hp_ : Kd.R k32 32 w36 w.heap.size (fun k_ => some k_ ≠ (v261 : Value).ownBlock ∧ some k_ ≠ (v266 : Value).ownBlock ∧ some k_ ≠ (v271 : Value).ownBlock ∧ some k_ ≠ (v276 : Value).ownBlock) (.slice (some ⟨go33, 0, none⟩) x3_2.length co34) y281 := (by rw [hw, Ny281.out]; exact HP35.1); clear HP35; have n0_ := yA (hp_); have n1_ := yA (Kd.R_after (v := (.slice (some ⟨go33, 0, none⟩) x3_2.length co34)) (v1 := (.slice (some ⟨go33, 0, none⟩) x3_2.length co34)) (ok := (fun k_ => some k_ ≠ (v266 : Value).ownBlock ∧ some k_ ≠ (v271 : Value).ownBlock ∧ some k_ ≠ (v276 : Value).ownBlock)) (by (with_reducible repeat (first | apply Kd.R_alloc | apply Kd.R_drewN | apply Kd.R_drew)); exact Kd.R_mono HO_6.out (fun _ hk => ⟨⟨hk.2.1, ⟨hk.2.2.1, hk.2.2.2⟩⟩, hk.1⟩)) hg (.inl rfl)); have n2_ := yA (Kd.R_after (v := (.slice (some ⟨go33, 0, none⟩) x3_2.length co34)) (v1 := (.slice (some ⟨go33, 0, none⟩) x3_2.length co34)) (ok := (fun k_ => some k_ ≠ (v261 : Value).ownBlock ∧ some k_ ≠ (v271 : Value).ownBlock ∧ some k_ ≠ (v276 : Value).ownBlock)) (by (with_reducible repeat (first | apply Kd.R_alloc | apply Kd.R_drewN | apply Kd.R_drew)); exact Kd.R_mono HO_9.out (fun _ hk => ⟨⟨hk.2.1, ⟨hk.2.2.1, hk.2.2.2⟩⟩, hk.1⟩)) hg (.inl rfl)); have n3_ := yA (Kd.R_after (v := (.slice (some ⟨go33, 0, none⟩) x3_2.length co34)) (v1 := (.slice (some ⟨go33, 0, none⟩) x3_2.length co34)) (ok := (fun k_ => some k_ ≠ (v261 : Value).ownBlock ∧ some k_ ≠ (v266 : Value).ownBlock ∧ some k_ ≠ (v276 : Value).ownBlock)) (by (with_reducible repeat (first | apply Kd.R_alloc | apply Kd.R_drewN | apply Kd.R_drew)); exact Kd.R_mono HO_12.out (fun _ hk => ⟨⟨hk.2.1, ⟨hk.2.2.1, hk.2.2.2⟩⟩, hk.1⟩)) hg (.inl rfl)); have n4_ := yA (Kd.R_after (v := (.slice (some ⟨go33, 0, none⟩) x3_2.length co34)) (v1 := (.slice (some ⟨go33, 0, none⟩) x3_2.length co34)) (ok := (fun k_ => some k_ ≠ (v261 : Value).ownBlock ∧ some k_ ≠ (v266 : Value).ownBlock ∧ some k_ ≠ (v271 : Value).ownBlock)) (by (with_reducible repeat (first | apply Kd.R_alloc | apply Kd.R_drewN | apply Kd.R_drew)); exact Kd.R_mono HO_15.out (fun _ hk => ⟨⟨hk.2.1, ⟨hk.2.2.1, hk.2.2.2⟩⟩, hk.1⟩)) hg (.inl rfl)); have n5_ := yA ((by rw [hw]; exact yJ (yJ (yJ (yJ (yJ (yJ (yJ (yJ (yJ (HB.out) GB33.out) GB33.out) GB33.out) GB33.out) GB33.out) GB33.out) GB33.out) GB33.out) GB33.out : Below w.heap.size w w36)); clear HO_3; clear HO_6; clear HO_9; clear HO_12; clear HO_15; clear HB; have HO_3 := n0_; have HO_6 := n1_; have HO_9 := n2_; have HO_12 := n3_; have HO_15 := n4_; have HB := n5_; clear n0_ n1_ n2_ n3_ n4_ n5_; clear hg hw hp_))
        go_roundg k2
        case measure => have := HJ6.out; have := HK2.out; omega
        case rel => exact ⟨(y281), (wrap64 (x18_2 + 1)), (by first | rfl | (simp; done) | (simp [*]; done)), H', ⟨by have := HJ6.out; have := HK2.out; omega⟩, ⟨by (with_reducible repeat (first | apply Kd.R_alloc | apply Kd.R_drewN | apply Kd.R_drew)); exact HO_3.out⟩, ⟨by (with_reducible repeat (first | apply Kd.R_alloc | apply Kd.R_drewN | apply Kd.R_drew)); exact Kd.R_mono HO_6.out (fun _ hk => ⟨hk.2, ⟨hk.1.1, ⟨hk.1.2.1, hk.1.2.2⟩⟩⟩)⟩, ⟨by (with_reducible repeat (first | apply Kd.R_alloc | apply Kd.R_drewN | apply Kd.R_drew)); exact Kd.R_mono HO_9.out (fun _ hk => ⟨hk.2, ⟨hk.1.1, ⟨hk.1.2.1, hk.1.2.2⟩⟩⟩)⟩, ⟨by (with_reducible repeat (first | apply Kd.R_alloc | apply Kd.R_drewN | apply Kd.R_drew)); exact Kd.R_mono HO_12.out (fun _ hk => ⟨hk.2, ⟨hk.1.1, ⟨hk.1.2.1, hk.1.2.2⟩⟩⟩)⟩, ⟨by (with_reducible repeat (first | apply Kd.R_alloc | apply Kd.R_drewN | apply Kd.R_drew)); exact Kd.R_mono HO_15.out (fun _ hk => ⟨hk.2, ⟨hk.1.1, ⟨hk.1.2.1, hk.1.2.2⟩⟩⟩)⟩, ⟨by repeat (first | (with_reducible first | exact HB.out | apply yE | apply yF | apply yD) | exact HB.out)⟩⟩
       ·rw [if_neg c32] at H
        exact absurd H (by simp)
      ·rw [if_neg c31] at H
       have c31b0 : decide (x18_2 < (x3_2.length : Int)) = false := yM c31
       clear c31
       obtain ⟨y282, hy282⟩ : ∃ y_ : List (S32), y_ = (([] : List (S32))) := ⟨_, rfl⟩
       replace H : (if y282.length + x3_2.length < 1759218604441 then (payofflaw06_LexScans.l1 k2 a0 x3_2 t258 t263 t268 t273 t275 (y282 ++ x3_2) 0) else (none)) = some r := by first | (rw [hy282]; with_reducible exact H) | (have H2_ := (Option.bind_some _ _).symm.trans H; rw [hy282]; with_reducible exact H2_) | (have H2_ := (Option.bind_some _ _).symm.trans H; with_reducible exact H2_) | with_reducible exact H | (rw [hy282]; exact H) | exact H
       have Ny282 := yA hy282
       clear hy282
       by_cases c37 : y282.length + x3_2.length < 1759218604441
       ·rw [if_pos c37] at H
        have LMc37 := yA c37
        clear c37
        obtain ⟨y285, hy285⟩ : ∃ y_ : List (S32), y_ = (y282 ++ x3_2) := ⟨_, rfl⟩
        replace H : (payofflaw06_LexScans.l1 k2 a0 x3_2 t258 t263 t268 t273 t275 y285 0) = some r := by first | (rw [hy285]; with_reducible exact H) | (have H2_ := (Option.bind_some _ _).symm.trans H; rw [hy285]; with_reducible exact H2_) | (have H2_ := (Option.bind_some _ _).symm.trans H; with_reducible exact H2_) | with_reducible exact H | (rw [hy285]; exact H) | exact H
        have Ny285 := yA hy285
        clear hy285
        have H' := yA H
        clear H
        obtain ⟨Ao38, co38, eo38⟩ := Kd.R_slice HO_3.out
        subst eo38
        go_wp2
        go_loopg [19, 20] k2 (fun kq v19 v20 w' => ∃ (x19_3 : List (S32)) (x20_3 : Int), v20 = .int .i64 x20_3 ∧ Aside0 (payofflaw06_LexScans.l1 kq a0 x3_2 t258 t263 t268 t273 t275 x19_3 x20_3 = some r) ∧ Aside0 (kq ≤ k2) ∧ Aside0 (Kd.R k32 32 w' w.heap.size (fun k_ => some k_ ≠ (v261 : Value).ownBlock ∧ some k_ ≠ (v266 : Value).ownBlock ∧ some k_ ≠ (v271 : Value).ownBlock ∧ some k_ ≠ (v276 : Value).ownBlock ∧ True) (.slice Ao38 x3_2.length co38) x3_2) ∧ Aside0 (Kd.R k32 32 w' w.heap.size (fun k_ => some k_ ≠ ((.slice Ao38 x3_2.length co38) : Value).ownBlock ∧ some k_ ≠ (v266 : Value).ownBlock ∧ some k_ ≠ (v271 : Value).ownBlock ∧ some k_ ≠ (v276 : Value).ownBlock ∧ some k_ ≠ (v19 : Value).ownBlock) v261 t258) ∧ Aside0 (Kd.R k32 32 w' w.heap.size (fun k_ => some k_ ≠ ((.slice Ao38 x3_2.length co38) : Value).ownBlock ∧ some k_ ≠ (v261 : Value).ownBlock ∧ some k_ ≠ (v271 : Value).ownBlock ∧ some k_ ≠ (v276 : Value).ownBlock ∧ some k_ ≠ (v19 : Value).ownBlock) v266 t263) ∧ Aside0 (Kd.R k32 32 w' w.heap.size (fun k_ => some k_ ≠ ((.slice Ao38 x3_2.length co38) : Value).ownBlock ∧ some k_ ≠ (v261 : Value).ownBlock ∧ some k_ ≠ (v266 : Value).ownBlock ∧ some k_ ≠ (v276 : Value).ownBlock ∧ some k_ ≠ (v19 : Value).ownBlock) v271 t268) ∧ Aside0 (Kd.R k32 32 w' w.heap.size (fun k_ => some k_ ≠ ((.slice Ao38 x3_2.length co38) : Value).ownBlock ∧ some k_ ≠ (v261 : Value).ownBlock ∧ some k_ ≠ (v266 : Value).ownBlock ∧ some k_ ≠ (v271 : Value).ownBlock ∧ some k_ ≠ (v19 : Value).ownBlock) v276 t273) ∧ Aside0 (Kd.R k32 32 w' w.heap.size (fun k_ => True ∧ some k_ ≠ (v261 : Value).ownBlock ∧ some k_ ≠ (v266 : Value).ownBlock ∧ some k_ ≠ (v271 : Value).ownBlock ∧ some k_ ≠ (v276 : Value).ownBlock) v19 x19_3) ∧ Aside0 (Sh (.slice Ao38 x3_2.length co38) v19 x3_2 x19_3) ∧ Aside0 (Below w.heap.size w w'))
        case atStart => exact ⟨(y285), (0), (by first | rfl | (simp; done) | (simp [*]; done)), H', ⟨Nat.le_refl _⟩, ⟨by (with_reducible repeat (first | apply Kd.R_alloc | apply Kd.R_drewN | apply Kd.R_drew)); exact Kd.R_mono HO_3.out (fun _ hk => ⟨hk.1, ⟨hk.2.1, ⟨hk.2.2.1, ⟨hk.2.2.2, trivial⟩⟩⟩⟩)⟩, ⟨by (with_reducible repeat (first | apply Kd.R_alloc | apply Kd.R_drewN | apply Kd.R_drew)); exact Kd.R_mono HO_6.out (fun _ hk => ⟨hk.1, ⟨hk.2.1, ⟨hk.2.2.1, ⟨hk.2.2.2, hk.1⟩⟩⟩⟩)⟩, ⟨by (with_reducible repeat (first | apply Kd.R_alloc | apply Kd.R_drewN | apply Kd.R_drew)); exact Kd.R_mono HO_9.out (fun _ hk => ⟨hk.1, ⟨hk.2.1, ⟨hk.2.2.1, ⟨hk.2.2.2, hk.1⟩⟩⟩⟩)⟩, ⟨by (with_reducible repeat (first | apply Kd.R_alloc | apply Kd.R_drewN | apply Kd.R_drew)); exact Kd.R_mono HO_12.out (fun _ hk => ⟨hk.1, ⟨hk.2.1, ⟨hk.2.2.1, ⟨hk.2.2.2, hk.1⟩⟩⟩⟩)⟩, ⟨by (with_reducible repeat (first | apply Kd.R_alloc | apply Kd.R_drewN | apply Kd.R_drew)); exact Kd.R_mono HO_15.out (fun _ hk => ⟨hk.1, ⟨hk.2.1, ⟨hk.2.2.1, ⟨hk.2.2.2, hk.1⟩⟩⟩⟩)⟩, ⟨by (with_reducible repeat (first | apply Kd.R_alloc | apply Kd.R_drewN | apply Kd.R_drew)); rw [Ny285.out, Ny282.out, List.nil_append]; exact Kd.R_mono HO_3.out (fun _ hk => ⟨trivial, ⟨hk.1, ⟨hk.2.1, ⟨hk.2.2.1, hk.2.2.2⟩⟩⟩⟩)⟩, ⟨by rw [Ny285.out, Ny282.out, List.nil_append]; exact Sh.refl HO_3.out⟩, ⟨by repeat (first | (with_reducible first | exact HB.out | apply yE | apply yF | apply yD) | exact HB.out)⟩⟩
        case round =>
         clear H'
         try clear c1
         try clear p2
         try clear c3
         try clear p3
         try clear q3
         try clear hx3
         try clear hf3
         try clear p6
         try clear c10
         try clear c11
         try clear c13
         try clear c13b0
         try clear c13b1
         try clear c14
         try clear c14b0
         try clear c14b1
         try clear c16
         try clear c18
         try clear c30
         try clear c31
         try clear c31b0
         try clear c32
         try clear c32b0
         try clear c33
         try clear p33
         try clear q33
         try clear hx33
         try clear hf33
         try clear c35
         try clear hx35
         try clear hf35
         try clear c37
         try clear hx33_0
         try clear hx33_1
         try clear hx33_2
         try clear hx33_3
         try clear hx33_4
         try clear hx33_5
         try clear hx33_6
         try clear hx33_7
         try clear hx33_8
         try clear hx35_0
         try clear hx35_1
         try clear hx35_2
         try clear hx35_3
         try clear hx35_4
         try clear hx35_5
         try clear hx35_6
         try clear hx35_7
         try clear hx35_8
         try clear p2
         try clear p33
         try clear q33
         obtain ⟨x19_3, x20_3, rfl, HA, HK3, HO_3, HO_6, HO_9, HO_12, HO_15, HO_19, HSH, HB⟩ := hrel
         cases gk with
         | zero => exact absurd HA.out (by simp [payofflaw06_LexScans.l1])
         | succ k3 =>
          have H := HA.out
          clear HA
          simp only [payofflaw06_LexScans.l1] at H
          by_cases c42 : x20_3 < 70
          ·rw [if_pos c42] at H
           have c42b0 : decide (x20_3 < 70) = true := yL c42
           clear c42
           by_cases c43 : x19_3.length < 1759218604441
           ·rw [if_pos c43] at H
            have LMc43 := yA c43
            clear c43
            obtain ⟨y288, hy288⟩ : ∃ y_ : List (S32), y_ = (x19_3 ++ [(⟨98, (⟨#[]⟩ : ByteArray), 0, 0, (⟨0, 0, 0⟩ : S28), (⟨0, 0⟩ : S30)⟩ : S32)]) := ⟨_, rfl⟩
            replace H : (payofflaw06_LexScans.l1 k3 a0 x3_2 t258 t263 t268 t273 t275 y288 (wrap64 (x20_3 + 1))) = some r := by first | (rw [hy288]; with_reducible exact H) | (have H2_ := (Option.bind_some _ _).symm.trans H; rw [hy288]; with_reducible exact H2_) | (have H2_ := (Option.bind_some _ _).symm.trans H; with_reducible exact H2_) | with_reducible exact H | (rw [hy288]; exact H) | exact H
            have Ny288 := yA hy288
            clear hy288
            have H' := yA H
            clear H
            go_wp2_with (first | ((with_reducible refine gate_builtin (b := .append) (xs := #[.tmp 94, .tmp 96]) rfl ?_); (try (refine gate_guard (by rfl) ?_; dsimp only)); at_builtin; refine R_append_went (w0 := w) w.heap.size rfl (.tmp 94) (.tmp 96) 22 32 (.agg #[(.int .i64 0), (.string ⟨#[]⟩), (.int .i64 0), (.int .i64 0), (.int .i64 0), (.int .i64 0), (.int .i64 0), (.int .i64 0), (.int .i64 0)]) 80 rfl Tryd.underlying22 info32 rfl (by omega) u19 x19_3 (⟨98, (⟨#[]⟩ : ByteArray), 0, 0, (⟨0, 0, 0⟩ : S28), (⟨0, 0⟩ : S30)⟩ : S32) (fun k_ => True ∧ some k_ ≠ (v261 : Value).ownBlock ∧ some k_ ≠ (v266 : Value).ownBlock ∧ some k_ ≠ (v271 : Value).ownBlock ∧ some k_ ≠ (v276 : Value).ownBlock) rfl rfl ?aF ?aO ?aB ?aS ?aL ?_; (case aB => exact (by repeat (first | (with_reducible first | exact HB.out | apply yE | apply yF | apply yD) | exact HB.out))); (case aF => exact (fun k_ hk => ⟨trivial, Kd.fresh' (Kd.R_lt (by (with_reducible repeat (first | apply Kd.R_alloc | apply Kd.R_drewN | apply Kd.R_drew)); exact HO_6.out)) k_ hk, Kd.fresh' (Kd.R_lt (by (with_reducible repeat (first | apply Kd.R_alloc | apply Kd.R_drewN | apply Kd.R_drew)); exact HO_9.out)) k_ hk, Kd.fresh' (Kd.R_lt (by (with_reducible repeat (first | apply Kd.R_alloc | apply Kd.R_drewN | apply Kd.R_drew)); exact HO_12.out)) k_ hk, Kd.fresh' (Kd.R_lt (by (with_reducible repeat (first | apply Kd.R_alloc | apply Kd.R_drewN | apply Kd.R_drew)); exact HO_15.out)) k_ hk⟩)); (case aO => exact (by (with_reducible repeat (first | apply Kd.R_alloc | apply Kd.R_drewN | apply Kd.R_drew)); exact HO_19.out)); (case aS => exact (below_size (by repeat (first | (with_reducible first | exact HB.out | apply yE | apply yF | apply yD) | exact HB.out)))); (case aL => have := LMc43.out; omega); intro v289 w44 ho hb hg hat hwent; obtain ⟨hsh1_, hsh2_⟩ := Sh.append (by (with_reducible repeat (first | apply Kd.R_alloc | apply Kd.R_drewN | apply Kd.R_drew)); exact HO_3.out) HSH.out ho hg hat hwent; rw [← Ny288.out] at ho hsh2_; clear hwent; have n0_ := yA hsh1_; have n20_ := yA hsh2_; clear hsh1_ hsh2_ HSH; have n1_ := yA (Kd.R_after (ok := (fun k_ => some k_ ≠ (.slice Ao38 x3_2.length co38 : Value).ownBlock ∧ some k_ ≠ (v266 : Value).ownBlock ∧ some k_ ≠ (v271 : Value).ownBlock ∧ some k_ ≠ (v276 : Value).ownBlock)) (by (with_reducible repeat (first | apply Kd.R_alloc | apply Kd.R_drewN | apply Kd.R_drew)); exact Kd.R_mono HO_6.out (fun _ hk => ⟨⟨hk.1, ⟨hk.2.1, ⟨hk.2.2.1, hk.2.2.2.1⟩⟩⟩, hk.2.2.2.2⟩)) hg hat); have n2_ := yA (Kd.R_after (ok := (fun k_ => some k_ ≠ (.slice Ao38 x3_2.length co38 : Value).ownBlock ∧ some k_ ≠ (v261 : Value).ownBlock ∧ some k_ ≠ (v271 : Value).ownBlock ∧ some k_ ≠ (v276 : Value).ownBlock)) (by (with_reducible repeat (first | apply Kd.R_alloc | apply Kd.R_drewN | apply Kd.R_drew)); exact Kd.R_mono HO_9.out (fun _ hk => ⟨⟨hk.1, ⟨hk.2.1, ⟨hk.2.2.1, hk.2.2.2.1⟩⟩⟩, hk.2.2.2.2⟩)) hg hat); have n3_ := yA (Kd.R_after (ok := (fun k_ => some k_ ≠ (.slice Ao38 x3_2.length co38 : Value).ownBlock ∧ some k_ ≠ (v261 : Value).ownBlock ∧ some k_ ≠ (v266 : Value).ownBlock ∧ some k_ ≠ (v276 : Value).ownBlock)) (by (with_reducible repeat (first | apply Kd.R_alloc | apply Kd.R_drewN | apply Kd.R_drew)); exact Kd.R_mono HO_12.out (fun _ hk => ⟨⟨hk.1, ⟨hk.2.1, ⟨hk.2.2.1, hk.2.2.2.1⟩⟩⟩, hk.2.2.2.2⟩)) hg hat); have n4_ := yA (Kd.R_after (ok := (fun k_ => some k_ ≠ (.slice Ao38 x3_2.length co38 : Value).ownBlock ∧ some k_ ≠ (v261 : Value).ownBlock ∧ some k_ ≠ (v266 : Value).ownBlock ∧ some k_ ≠ (v271 : Value).ownBlock)) (by (with_reducible repeat (first | apply Kd.R_alloc | apply Kd.R_drewN | apply Kd.R_drew)); exact Kd.R_mono HO_15.out (fun _ hk => ⟨⟨hk.1, ⟨hk.2.1, ⟨hk.2.2.1, hk.2.2.2.1⟩⟩⟩, hk.2.2.2.2⟩)) hg hat); have n5_ := yA (hb); have n6_ := yA (ho); clear HO_3; clear HO_6; clear HO_9; clear HO_12; clear HO_15; clear HB; clear HO_19; have HO_3 := n0_; have HO_6 := n1_; have HO_9 := n2_; have HO_12 := n3_; have HO_15 := n4_; have HB := n5_; have HO290 := n6_; have HSH := n20_; clear n20_; clear n0_ n1_ n2_ n3_ n4_ n5_ n6_; clear ho hb hg hat))
            go_roundg k3
            case measure => have := HJ6.out; have := HK2.out; have := HK3.out; omega
            case rel => exact ⟨(y288), (wrap64 (x20_3 + 1)), (by first | rfl | (simp; done) | (simp [*]; done)), H', ⟨by have := HJ6.out; have := HK2.out; have := HK3.out; omega⟩, ⟨by (with_reducible repeat (first | apply Kd.R_alloc | apply Kd.R_drewN | apply Kd.R_drew)); exact HO_3.out⟩, ⟨by (with_reducible repeat (first | apply Kd.R_alloc | apply Kd.R_drewN | apply Kd.R_drew)); exact Kd.R_mono HO_6.out (fun _ hk => ⟨hk.1.1, ⟨hk.1.2.1, ⟨hk.1.2.2.1, ⟨hk.1.2.2.2, hk.2⟩⟩⟩⟩)⟩, ⟨by (with_reducible repeat (first | apply Kd.R_alloc | apply Kd.R_drewN | apply Kd.R_drew)); exact Kd.R_mono HO_9.out (fun _ hk => ⟨hk.1.1, ⟨hk.1.2.1, ⟨hk.1.2.2.1, ⟨hk.1.2.2.2, hk.2⟩⟩⟩⟩)⟩, ⟨by (with_reducible repeat (first | apply Kd.R_alloc | apply Kd.R_drewN | apply Kd.R_drew)); exact Kd.R_mono HO_12.out (fun _ hk => ⟨hk.1.1, ⟨hk.1.2.1, ⟨hk.1.2.2.1, ⟨hk.1.2.2.2, hk.2⟩⟩⟩⟩)⟩, ⟨by (with_reducible repeat (first | apply Kd.R_alloc | apply Kd.R_drewN | apply Kd.R_drew)); exact Kd.R_mono HO_15.out (fun _ hk => ⟨hk.1.1, ⟨hk.1.2.1, ⟨hk.1.2.2.1, ⟨hk.1.2.2.2, hk.2⟩⟩⟩⟩)⟩, ⟨by (with_reducible repeat (first | apply Kd.R_alloc | apply Kd.R_drewN | apply Kd.R_drew)); exact HO290.out⟩, HSH, ⟨by repeat (first | (with_reducible first | exact HB.out | apply yE | apply yF | apply yD) | exact HB.out)⟩⟩
           ·rw [if_neg c43] at H
            exact absurd H (by simp)
          ·rw [if_neg c42] at H
           have c42b0 : decide (x20_3 < 70) = false := yM c42
           clear c42
           have HC45 := yA H
           clear H
           go_upto_region 17 with (fail)
           go_cut [107] (fun v107 wc => ∃ (kq : Nat) (x107_44 : Bool), v107 = .bool x107_44 ∧ Aside0 (payofflaw06_LexScans.j3 kq a0 x3_2 t273 t275 x19_3 x107_44 = some r) ∧ Aside0 (kq ≤ k3) ∧ Aside0 (Kd.R k32 32 wc w.heap.size (fun k_ => some k_ ≠ (v276 : Value).ownBlock ∧ True) (.slice Ao38 x3_2.length co38) x3_2) ∧ Aside0 (Kd.R k32 32 wc w.heap.size (fun k_ => some k_ ≠ ((.slice Ao38 x3_2.length co38) : Value).ownBlock ∧ some k_ ≠ (u19 : Value).ownBlock) v276 t273) ∧ Aside0 (Kd.R k32 32 wc w.heap.size (fun k_ => True ∧ some k_ ≠ (v276 : Value).ownBlock) u19 x19_3) ∧ Aside0 (Below w.heap.size w wc))
           case first =>
            have H := HC45.out
            clear HC45
            replace H := Option.bind_eq_some_iff.mp H
            obtain ⟨t291, A460, H⟩ := H
            replace H : (if t291 = true then ((payofflaw06_sameTokens.f k3 t258 t263).bind fun t292 => (payofflaw06_LexScans.j3 k3 a0 x3_2 t273 t275 x19_3 (!t292))) else (payofflaw06_LexScans.j3 k3 a0 x3_2 t273 t275 x19_3 true)) = some r := H
            have A46 := yA A460
            clear A460
            by_cases c47 : t291 = true
            ·subst c47
             have H1 : ((payofflaw06_sameTokens.f k3 t258 t263).bind fun t292 => (payofflaw06_LexScans.j3 k3 a0 x3_2 t273 t275 x19_3 (!t292))) = some r := by rw [if_pos rfl] at H; exact H
             clear H
             have H := H1
             clear H1
             replace H := Option.bind_eq_some_iff.mp H
             obtain ⟨t292, A480, H⟩ := H
             replace H : (payofflaw06_LexScans.j3 k3 a0 x3_2 t273 t275 x19_3 (!t292)) = some r := H
             have A48 := yA A480
             clear A480
             have H' := yA H
             clear H
             obtain ⟨Ao49, co49, eo49⟩ := Kd.R_slice HO_12.out
             subst eo49
             obtain ⟨Ao50, co50, eo50⟩ := Kd.R_slice HO_15.out
             subst eo50
             go_wp2_with (first | ((with_reducible refine yO (f := 12) rfl ?_); refine goesL_ (some 100) rfl rfl Tryd.func12 (by kernel_rfl) rfl #[.slice Ao49 t268.length co49, .slice Ao50 t273.length co50] rfl (by (try simp only [List.map_toArray, List.map_cons, List.map_nil]); first | done | rfl | (simp only [List.length_drop, List.length_take]; rfl)) ?_; (with_reducible refine (payofflaw06_sameTokens.calls k3 _ _ t268 _ _ t273 true _ ?side1 ?side2 ?side3 ?side4 A46.out).mono ?_); (case side1 => repeat (first | exact (Kd.R_reads' HO_12.out).2.2 | (with_reducible refine Kd.C_alloc ?_ _) | (with_reducible refine Kd.C_drewN ?_ _) | (with_reducible refine Kd.C_drew ?_))); (case side2 => exact (Kd.R_reads' HO_12.out).2.1); (case side3 => repeat (first | exact (Kd.R_reads' HO_15.out).2.2 | (with_reducible refine Kd.C_alloc ?_ _) | (with_reducible refine Kd.C_drewN ?_ _) | (with_reducible refine Kd.C_drew ?_))); (case side4 => exact (Kd.R_reads' HO_15.out).2.1); rintro e w' ⟨rfl, ⟨nd, rfl⟩⟩; refine ⟨_, rfl, ?_⟩; obtain ⟨Ao51, co51, eo51⟩ := Kd.R_slice HO_6.out; subst eo51; obtain ⟨Ao52, co52, eo52⟩ := Kd.R_slice HO_9.out; subst eo52) | (go_at_call 12; (with_reducible refine (payofflaw06_sameTokens.calls k3 _ _ t258 _ _ t263 t292 _ ?side1 ?side2 ?side3 ?side4 A48.out).mono ?_); (case side1 => repeat (first | exact (Kd.R_reads' HO_6.out).2.2 | (with_reducible refine Kd.C_alloc ?_ _) | (with_reducible refine Kd.C_drewN ?_ _) | (with_reducible refine Kd.C_drew ?_))); (case side2 => exact (Kd.R_reads' HO_6.out).2.1); (case side3 => repeat (first | exact (Kd.R_reads' HO_9.out).2.2 | (with_reducible refine Kd.C_alloc ?_ _) | (with_reducible refine Kd.C_drewN ?_ _) | (with_reducible refine Kd.C_drew ?_))); (case side4 => exact (Kd.R_reads' HO_9.out).2.1); rintro e w' ⟨rfl, ⟨nd, rfl⟩⟩))
             go_meet
             case rel => exact ⟨_, (!t292), (by first | rfl | (simp; done) | (simp [*]; done)), H', ⟨by have := HJ6.out; have := HK2.out; have := HK3.out; first | omega | exact Nat.le_refl _⟩, ⟨by (with_reducible repeat (first | apply Kd.R_alloc | apply Kd.R_drewN | apply Kd.R_drew)); exact Kd.R_mono HO_3.out (fun _ hk => ⟨hk.2.2.2.1, hk.2.2.2.2⟩)⟩, ⟨by (with_reducible repeat (first | apply Kd.R_alloc | apply Kd.R_drewN | apply Kd.R_drew)); exact Kd.R_mono HO_15.out (fun _ hk => ⟨hk.1, hk.2.2.2.2⟩)⟩, ⟨by (with_reducible repeat (first | apply Kd.R_alloc | apply Kd.R_drewN | apply Kd.R_drew)); exact Kd.R_mono HO_19.out (fun _ hk => ⟨hk.1, hk.2.2.2.2⟩)⟩, ⟨by repeat (first | (with_reducible first | exact HB.out | apply yE | apply yF | apply yD) | exact HB.out)⟩⟩
            ·replace c47 := Bool.eq_false_iff.mpr c47
             subst c47
             have H1 : (payofflaw06_LexScans.j3 k3 a0 x3_2 t273 t275 x19_3 true) = some r := by rw [if_neg (show ¬ (false = true) by decide)] at H; exact H
             clear H
             have H := H1
             clear H1
             have H' := yA H
             clear H
             obtain ⟨Ao53, co53, eo53⟩ := Kd.R_slice HO_12.out
             subst eo53
             obtain ⟨Ao54, co54, eo54⟩ := Kd.R_slice HO_15.out
             subst eo54
             go_wp2_with (first | ((with_reducible refine yO (f := 12) rfl ?_); refine goesL_ (some 100) rfl rfl Tryd.func12 (by kernel_rfl) rfl #[.slice Ao53 t268.length co53, .slice Ao54 t273.length co54] rfl (by (try simp only [List.map_toArray, List.map_cons, List.map_nil]); first | done | rfl | (simp only [List.length_drop, List.length_take]; rfl)) ?_; (with_reducible refine (payofflaw06_sameTokens.calls k3 _ _ t268 _ _ t273 false _ ?side1 ?side2 ?side3 ?side4 A46.out).mono ?_); (case side1 => repeat (first | exact (Kd.R_reads' HO_12.out).2.2 | (with_reducible refine Kd.C_alloc ?_ _) | (with_reducible refine Kd.C_drewN ?_ _) | (with_reducible refine Kd.C_drew ?_))); (case side2 => exact (Kd.R_reads' HO_12.out).2.1); (case side3 => repeat (first | exact (Kd.R_reads' HO_15.out).2.2 | (with_reducible refine Kd.C_alloc ?_ _) | (with_reducible refine Kd.C_drewN ?_ _) | (with_reducible refine Kd.C_drew ?_))); (case side4 => exact (Kd.R_reads' HO_15.out).2.1); rintro e w' ⟨rfl, ⟨nd, rfl⟩⟩; refine ⟨_, rfl, ?_⟩))
             go_meet
             case rel => exact ⟨_, (true), (by first | rfl | (simp; done) | (simp [*]; done)), H', ⟨by have := HJ6.out; have := HK2.out; have := HK3.out; first | omega | exact Nat.le_refl _⟩, ⟨by (with_reducible repeat (first | apply Kd.R_alloc | apply Kd.R_drewN | apply Kd.R_drew)); exact Kd.R_mono HO_3.out (fun _ hk => ⟨hk.2.2.2.1, hk.2.2.2.2⟩)⟩, ⟨by (with_reducible repeat (first | apply Kd.R_alloc | apply Kd.R_drewN | apply Kd.R_drew)); exact Kd.R_mono HO_15.out (fun _ hk => ⟨hk.1, hk.2.2.2.2⟩)⟩, ⟨by (with_reducible repeat (first | apply Kd.R_alloc | apply Kd.R_drewN | apply Kd.R_drew)); exact Kd.R_mono HO_19.out (fun _ hk => ⟨hk.1, hk.2.2.2.2⟩)⟩, ⟨by repeat (first | (with_reducible first | exact HB.out | apply yE | apply yF | apply yD) | exact HB.out)⟩⟩
           case rest =>
            clear HC45
            try clear c1
            try clear p2
            try clear c3
            try clear p3
            try clear q3
            try clear hx3
            try clear hf3
            try clear c4
            try clear p6
            try clear c10
            try clear c11
            try clear c12
            try clear c13
            try clear c13b0
            try clear c13b1
            try clear c14
            try clear c14b0
            try clear c14b1
            try clear c16
            try clear c18
            try clear c30
            try clear c31
            try clear c31b0
            try clear c32
            try clear c32b0
            try clear c33
            try clear p33
            try clear q33
            try clear hx33
            try clear hf33
            try clear c35
            try clear hx35
            try clear hf35
            try clear c37
            try clear c42
            try clear c42b0
            try clear c43
            try clear c47
            try clear hx33_0
            try clear hx33_1
            try clear hx33_2
            try clear hx33_3
            try clear hx33_4
            try clear hx33_5
            try clear hx33_6
            try clear hx33_7
            try clear hx33_8
            try clear hx35_0
            try clear hx35_1
            try clear hx35_2
            try clear hx35_3
            try clear hx35_4
            try clear hx35_5
            try clear hx35_6
            try clear hx35_7
            try clear hx35_8
            try clear p2
            try clear p3
            try clear p33
            try clear p6
            try clear q3
            try clear q33
            obtain ⟨kq, x107_44, rfl, HA, HJ44, HO_3, HO_15, HO_19, HB⟩ := hcut
            cases kq with
            | zero => exact absurd HA.out (by simp [payofflaw06_LexScans.j3])
            | succ kj44 =>
             have H := HA.out
             clear HA
             simp only [payofflaw06_LexScans.j3] at H
             by_cases c55 : x107_44 = true
             ·subst c55
              have H1 : (none) = some r := by rw [if_pos rfl] at H; exact H
              exact absurd H1 (by simp)
             ·replace c55 := Bool.eq_false_iff.mpr c55
              subst c55
              have H1 : ((lex_Scan.f kj44 a0).bind fun bt293 => (payofflaw06_LexScans.l2 kj44 x3_2 t273 t275 x19_3 bt293.1 bt293.2.2 0)) = some r := by rw [if_neg (show ¬ (false = true) by decide)] at H; exact H
              clear H
              have H := H1
              clear H1
              replace H := Option.bind_eq_some_iff.mp H
              obtain ⟨⟨t293, t294, t295⟩, A560, H⟩ := H
              replace H : (payofflaw06_LexScans.l2 kj44 x3_2 t273 t275 x19_3 t293 t295 0) = some r := H
              have A56 := yA A560
              clear A560
              have H' := yA H
              clear H
              go_wp2_with (first | ((with_reducible refine yO (f := 10) rfl ?_); refine goesL_ (some 110) rfl rfl Tryd.func10 (by kernel_rfl) rfl #[.string a0] rfl (by (try simp only [List.map_toArray, List.map_cons, List.map_nil]); first | done | rfl | (simp only [List.length_drop, List.length_take]; rfl)) ?_; (with_reducible refine (lex_Scan.calls kj44 a0 t293 t294 t295 _ A56.out (Pure.Gl.below HG.out (by repeat (first | (with_reducible first | exact HB.out | apply yE | apply yF | apply yD | (refine yJ ?_ (by first | exact trivial )) ) | exact HB.out)))).mono ?_); rintro e w57 ⟨v296, rfl, ho0, hb⟩; refine ⟨_, rfl, ?_⟩; have n0_ := yA (Kd.R_elder' (by (with_reducible repeat (first | apply Kd.R_alloc | apply Kd.R_drewN | apply Kd.R_drew)); exact HO_3.out) (Kd.R_base ho0) hb); have n1_ := yA (Kd.R_elder' (by (with_reducible repeat (first | apply Kd.R_alloc | apply Kd.R_drewN | apply Kd.R_drew)); exact HO_15.out) (Kd.R_base ho0) hb); have n2_ := yA (Kd.R_elder' (by (with_reducible repeat (first | apply Kd.R_alloc | apply Kd.R_drewN | apply Kd.R_drew)); exact HO_19.out) (Kd.R_base ho0) hb); have n3_ := yA (Kd.R_lower (Kd.R_new' (Kd.R_new' (Kd.R_new' ho0 (Kd.R_lt (by (with_reducible repeat (first | apply Kd.R_alloc | apply Kd.R_drewN | apply Kd.R_drew)); exact HO_3.out))) (Kd.R_lt (by (with_reducible repeat (first | apply Kd.R_alloc | apply Kd.R_drewN | apply Kd.R_drew)); exact HO_15.out))) (Kd.R_lt (by (with_reducible repeat (first | apply Kd.R_alloc | apply Kd.R_drewN | apply Kd.R_drew)); exact HO_19.out))) (below_size (by repeat (first | (with_reducible first | exact HB.out | apply yE | apply yF | apply yD) | exact HB.out)))); have n4_ := yA (yB (by repeat (first | (with_reducible first | exact HB.out | apply yE | apply yF | apply yD) | exact HB.out)) hb); clear HO_3; clear HO_15; clear HO_19; clear HB; have HO_3 := n0_; have HO_15 := n1_; have HO_19 := n2_; have HO297 := n3_; have HB := n4_; clear n0_ n1_ n2_ n3_ n4_; (try clear hb); (try clear hb2); (try clear hk); (try clear hi); (try clear ho0)))
              go_loopg [24] kj44 (fun kq v24 w' => ∃ (x24_5 : Int), v24 = .int .i64 x24_5 ∧ Aside0 (payofflaw06_LexScans.l2 kq x3_2 t273 t275 x19_3 t293 t295 x24_5 = some r) ∧ Aside0 (kq ≤ kj44) ∧ Aside0 (Kd.R k32 32 w' w.heap.size (fun k_ => some k_ ≠ (v276 : Value).ownBlock ∧ True ∧ some k_ ≠ (v296 : Value).ownBlock) (.slice Ao38 x3_2.length co38) x3_2) ∧ Aside0 (Kd.R k32 32 w' w.heap.size (fun k_ => some k_ ≠ ((.slice Ao38 x3_2.length co38) : Value).ownBlock ∧ some k_ ≠ (u19 : Value).ownBlock ∧ some k_ ≠ (v296 : Value).ownBlock) v276 t273) ∧ Aside0 (Kd.R k32 32 w' w.heap.size (fun k_ => True ∧ some k_ ≠ (v276 : Value).ownBlock ∧ some k_ ≠ (v296 : Value).ownBlock) u19 x19_3) ∧ Aside0 (Kd.R k32 32 w' w.heap.size (fun k_ => some k_ ≠ ((.slice Ao38 x3_2.length co38) : Value).ownBlock ∧ some k_ ≠ (v276 : Value).ownBlock ∧ some k_ ≠ (u19 : Value).ownBlock) v296 t293) ∧ Aside0 (Below w.heap.size w w'))
              case atStart => exact ⟨(0), (by first | rfl | (simp; done) | (simp [*]; done)), H', ⟨Nat.le_refl _⟩, ⟨by (with_reducible repeat (first | apply Kd.R_alloc | apply Kd.R_drewN | apply Kd.R_drew)); exact Kd.R_mono HO_3.out (fun _ hk => ⟨hk.1.1, ⟨hk.1.2, hk.2⟩⟩)⟩, ⟨by (with_reducible repeat (first | apply Kd.R_alloc | apply Kd.R_drewN | apply Kd.R_drew)); exact Kd.R_mono HO_15.out (fun _ hk => ⟨hk.1.1, ⟨hk.1.2, hk.2⟩⟩)⟩, ⟨by (with_reducible repeat (first | apply Kd.R_alloc | apply Kd.R_drewN | apply Kd.R_drew)); exact Kd.R_mono HO_19.out (fun _ hk => ⟨hk.1.1, ⟨hk.1.2, hk.2⟩⟩)⟩, ⟨by (with_reducible repeat (first | apply Kd.R_alloc | apply Kd.R_drewN | apply Kd.R_drew)); exact Kd.R_mono HO297.out (fun _ hk => ⟨hk.1.1.2, ⟨hk.1.2, hk.2⟩⟩)⟩, ⟨by repeat (first | (with_reducible first | exact HB.out | apply yE | apply yF | apply yD) | exact HB.out)⟩⟩
              case round =>
               clear H'
               try clear c1
               try clear p2
               try clear c3
               try clear p3
               try clear q3
               try clear hx3
               try clear hf3
               try clear c4
               try clear c5
               try clear p6
               try clear c10
               try clear c11
               try clear c12
               try clear c13
               try clear c13b0
               try clear c13b1
               try clear c14
               try clear c14b0
               try clear c14b1
               try clear c16
               try clear c18
               try clear c30
               try clear c31
               try clear c31b0
               try clear c32
               try clear c32b0
               try clear c33
               try clear p33
               try clear q33
               try clear hx33
               try clear hf33
               try clear c35
               try clear hx35
               try clear hf35
               try clear c37
               try clear c42
               try clear c42b0
               try clear c43
               try clear c47
               try clear c55
               try clear hx33_0
               try clear hx33_1
               try clear hx33_2
               try clear hx33_3
               try clear hx33_4
               try clear hx33_5
               try clear hx33_6
               try clear hx33_7
               try clear hx33_8
               try clear hx35_0
               try clear hx35_1
               try clear hx35_2
               try clear hx35_3
               try clear hx35_4
               try clear hx35_5
               try clear hx35_6
               try clear hx35_7
               try clear hx35_8
               try clear p2
               try clear p3
               try clear p33
               try clear p6
               try clear q3
               try clear q33
               obtain ⟨x24_5, rfl, HA, HK5, HO_3, HO_15, HO_19, HO_21, HB⟩ := hrel
               cases gk with
               | zero => exact absurd HA.out (by simp [payofflaw06_LexScans.l2])
               | succ k5 =>
                have H := HA.out
                clear HA
                simp only [payofflaw06_LexScans.l2] at H
                by_cases c58 : x24_5 < (x19_3.length : Int)
                ·rw [if_pos c58] at H
                 have c58b0 : decide (x24_5 < (x19_3.length : Int)) = true := yL c58
                 clear c58
                 by_cases c59 : x24_5 < (x3_2.length : Int)
                 ·rw [if_pos c59] at H
                  have c59b0 : decide (x24_5 < (x3_2.length : Int)) = true := yL c59
                  clear c59
                  by_cases c60 : 0 ≤ x24_5
                  ·rw [if_pos c60] at H
                   have c60b0 : decide (0 ≤ x24_5) = true := yL c60
                   clear c60
                   by_cases c61 : ((rd_T32 x3_2 x24_5).f0) = 99
                   ·rw [if_pos c61] at H
                    have c61b0 : (((rd_T32 x3_2 x24_5).f0) == 99) = true := beq_iff_eq.mpr c61
                    have c61b1 : (((rd_T32 x3_2 x24_5).f0) != 99) = false := bne_eq_false_iff_eq.mpr c61
                    clear c61
                    by_cases c62 : ((rd_T32 x19_3 x24_5).f0) = 99
                    ·rw [if_pos c62] at H
                     have c62b0 : (((rd_T32 x19_3 x24_5).f0) == 99) = true := beq_iff_eq.mpr c62
                     have c62b1 : (((rd_T32 x19_3 x24_5).f0) != 99) = false := bne_eq_false_iff_eq.mpr c62
                     clear c62
                     by_cases c63 : x24_5 ≥ (x3_2.length : Int)
                     ·rw [if_pos c63] at H
                      have c63b0 : decide ((x3_2.length : Int) ≤ x24_5) = true := yL c63
                      clear c63
                      by_cases c64 : ((rd_T32 x19_3 x24_5).f0) = 98
                      ·rw [if_pos c64] at H
                       have c64b0 : (((rd_T32 x19_3 x24_5).f0) == 98) = true := beq_iff_eq.mpr c64
                       have c64b1 : (((rd_T32 x19_3 x24_5).f0) != 98) = false := bne_eq_false_iff_eq.mpr c64
                       clear c64
                       have H' := yA H
                       clear H
                       obtain ⟨Ao65, co65, eo65⟩ := Kd.R_slice HO_19.out
                       subst eo65
                       have p298 : 0 ≤ (x24_5 : Int) := yN (by first | (with_reducible assumption) | assumption)
                       have q298 : x24_5 < (x3_2.length : Int) := yN (by first | (with_reducible assumption) | assumption)
                       obtain ⟨ad298, e298, hx298_0, hx298_1, hx298_2, hx298_3, hx298_4, hx298_5, hx298_6, hx298_7, hx298_8⟩ := at_T32 (Kd.R_reads' HO_3.out).2.2 x24_5 p298 q298
                       cases e298
                       replace p298 := eq_true p298
                       replace q298 := eq_true q298
                       have p299 : 0 ≤ (x24_5 : Int) := yN (by first | (with_reducible assumption) | assumption)
                       have q299 : x24_5 < (x19_3.length : Int) := yN (by first | (with_reducible assumption) | assumption)
                       obtain ⟨ad299, e299, hx299_0, hx299_1, hx299_2, hx299_3, hx299_4, hx299_5, hx299_6, hx299_7, hx299_8⟩ := at_T32 (Kd.R_reads' HO_19.out).2.2 x24_5 p299 q299
                       cases e299
                       replace p299 := eq_true p299
                       replace q299 := eq_true q299
                       have p300 : 0 ≤ (x24_5 : Int) := yN (by first | (with_reducible assumption) | assumption)
                       have q300 : x24_5 < (x19_3.length : Int) := yN (by first | (with_reducible assumption) | assumption)
                       obtain ⟨ad300, e300, hx300_0, hx300_1, hx300_2, hx300_3, hx300_4, hx300_5, hx300_6, hx300_7, hx300_8⟩ := at_T32 (Kd.R_reads' HO_19.out).2.2 x24_5 p300 q300
                       obtain rfl : ad299 = ad300 := (by injection e300)
                       replace p300 := eq_true p300
                       replace q300 := eq_true q300
                       go_wp2
                       go_roundg k5
                       case measure => have := HJ6.out; have := HK2.out; have := HK3.out; have := HJ44.out; have := HK5.out; omega
                       case rel => exact ⟨(wrap64 (x24_5 + 1)), (by first | rfl | (simp; done) | (simp [*]; done)), H', ⟨by have := HJ6.out; have := HK2.out; have := HK3.out; have := HJ44.out; have := HK5.out; omega⟩, ⟨by (with_reducible repeat (first | apply Kd.R_alloc | apply Kd.R_drewN | apply Kd.R_drew)); exact HO_3.out⟩, ⟨by (with_reducible repeat (first | apply Kd.R_alloc | apply Kd.R_drewN | apply Kd.R_drew)); exact HO_15.out⟩, ⟨by (with_reducible repeat (first | apply Kd.R_alloc | apply Kd.R_drewN | apply Kd.R_drew)); exact HO_19.out⟩, ⟨by (with_reducible repeat (first | apply Kd.R_alloc | apply Kd.R_drewN | apply Kd.R_drew)); exact HO_21.out⟩, ⟨by repeat (first | (with_reducible first | exact HB.out | apply yE | apply yF | apply yD) | exact HB.out)⟩⟩
                      ·rw [if_neg c64] at H
                       exact absurd H (by simp)
                     ·rw [if_neg c63] at H
                      have c63b0 : decide ((x3_2.length : Int) ≤ x24_5) = false := yM c63
                      clear c63
                      have H' := yA H
                      clear H
                      obtain ⟨Ao67, co67, eo67⟩ := Kd.R_slice HO_19.out
                      subst eo67
                      have p298 : 0 ≤ (x24_5 : Int) := yN (by first | (with_reducible assumption) | assumption)
                      have q298 : x24_5 < (x3_2.length : Int) := yN (by first | (with_reducible assumption) | assumption)
                      obtain ⟨ad298, e298, hx298_0, hx298_1, hx298_2, hx298_3, hx298_4, hx298_5, hx298_6, hx298_7, hx298_8⟩ := at_T32 (Kd.R_reads' HO_3.out).2.2 x24_5 p298 q298
                      cases e298
                      replace p298 := eq_true p298
                      replace q298 := eq_true q298
                      have p299 : 0 ≤ (x24_5 : Int) := yN (by first | (with_reducible assumption) | assumption)
                      have q299 : x24_5 < (x19_3.length : Int) := yN (by first | (with_reducible assumption) | assumption)
                      obtain ⟨ad299, e299, hx299_0, hx299_1, hx299_2, hx299_3, hx299_4, hx299_5, hx299_6, hx299_7, hx299_8⟩ := at_T32 (Kd.R_reads' HO_19.out).2.2 x24_5 p299 q299
                      cases e299
                      replace p299 := eq_true p299
                      replace q299 := eq_true q299
                      go_wp2
                      go_roundg k5
                      case measure => have := HJ6.out; have := HK2.out; have := HK3.out; have := HJ44.out; have := HK5.out; omega
                      case rel => exact ⟨(wrap64 (x24_5 + 1)), (by first | rfl | (simp; done) | (simp [*]; done)), H', ⟨by have := HJ6.out; have := HK2.out; have := HK3.out; have := HJ44.out; have := HK5.out; omega⟩, ⟨by (with_reducible repeat (first | apply Kd.R_alloc | apply Kd.R_drewN | apply Kd.R_drew)); exact HO_3.out⟩, ⟨by (with_reducible repeat (first | apply Kd.R_alloc | apply Kd.R_drewN | apply Kd.R_drew)); exact HO_15.out⟩, ⟨by (with_reducible repeat (first | apply Kd.R_alloc | apply Kd.R_drewN | apply Kd.R_drew)); exact HO_19.out⟩, ⟨by (with_reducible repeat (first | apply Kd.R_alloc | apply Kd.R_drewN | apply Kd.R_drew)); exact HO_21.out⟩, ⟨by repeat (first | (with_reducible first | exact HB.out | apply yE | apply yF | apply yD) | exact HB.out)⟩⟩
                    ·rw [if_neg c62] at H
                     exact absurd H (by simp)
                   ·rw [if_neg c61] at H
                    exact absurd H (by simp)
                  ·rw [if_neg c60] at H
                   exact absurd H (by simp)
                 ·rw [if_neg c59] at H
                  have c59b0 : decide (x24_5 < (x3_2.length : Int)) = false := yM c59
                  clear c59
                  by_cases c70 : x24_5 ≥ (x3_2.length : Int)
                  ·rw [if_pos c70] at H
                   have c70b0 : decide ((x3_2.length : Int) ≤ x24_5) = true := yL c70
                   clear c70
                   by_cases c71 : 0 ≤ x24_5
                   ·rw [if_pos c71] at H
                    have c71b0 : decide (0 ≤ x24_5) = true := yL c71
                    clear c71
                    by_cases c72 : ((rd_T32 x19_3 x24_5).f0) = 98
                    ·rw [if_pos c72] at H
                     have c72b0 : (((rd_T32 x19_3 x24_5).f0) == 98) = true := beq_iff_eq.mpr c72
                     have c72b1 : (((rd_T32 x19_3 x24_5).f0) != 98) = false := bne_eq_false_iff_eq.mpr c72
                     clear c72
                     have H' := yA H
                     clear H
                     obtain ⟨Ao73, co73, eo73⟩ := Kd.R_slice HO_19.out
                     subst eo73
                     have p301 : 0 ≤ (x24_5 : Int) := yN (by first | (with_reducible assumption) | assumption)
                     have q301 : x24_5 < (x19_3.length : Int) := yN (by first | (with_reducible assumption) | assumption)
                     obtain ⟨ad301, e301, hx301_0, hx301_1, hx301_2, hx301_3, hx301_4, hx301_5, hx301_6, hx301_7, hx301_8⟩ := at_T32 (Kd.R_reads' HO_19.out).2.2 x24_5 p301 q301
                     cases e301
                     replace p301 := eq_true p301
                     replace q301 := eq_true q301
                     go_wp2
                     go_roundg k5
                     case measure => have := HJ6.out; have := HK2.out; have := HK3.out; have := HJ44.out; have := HK5.out; omega
                     case rel => exact ⟨(wrap64 (x24_5 + 1)), (by first | rfl | (simp; done) | (simp [*]; done)), H', ⟨by have := HJ6.out; have := HK2.out; have := HK3.out; have := HJ44.out; have := HK5.out; omega⟩, ⟨by (with_reducible repeat (first | apply Kd.R_alloc | apply Kd.R_drewN | apply Kd.R_drew)); exact HO_3.out⟩, ⟨by (with_reducible repeat (first | apply Kd.R_alloc | apply Kd.R_drewN | apply Kd.R_drew)); exact HO_15.out⟩, ⟨by (with_reducible repeat (first | apply Kd.R_alloc | apply Kd.R_drewN | apply Kd.R_drew)); exact HO_19.out⟩, ⟨by (with_reducible repeat (first | apply Kd.R_alloc | apply Kd.R_drewN | apply Kd.R_drew)); exact HO_21.out⟩, ⟨by repeat (first | (with_reducible first | exact HB.out | apply yE | apply yF | apply yD) | exact HB.out)⟩⟩
                    ·rw [if_neg c72] at H
                     exact absurd H (by simp)
                   ·rw [if_neg c71] at H
                    exact absurd H (by simp)
                  ·rw [if_neg c70] at H
                   have c70b0 : decide ((x3_2.length : Int) ≤ x24_5) = false := yM c70
                   clear c70
                   have H' := yA H
                   clear H
                   obtain ⟨Ao75, co75, eo75⟩ := Kd.R_slice HO_19.out
                   subst eo75
                   go_wp2
                   go_roundg k5
                   case measure => have := HJ6.out; have := HK2.out; have := HK3.out; have := HJ44.out; have := HK5.out; omega
                   case rel => exact ⟨(wrap64 (x24_5 + 1)), (by first | rfl | (simp; done) | (simp [*]; done)), H', ⟨by have := HJ6.out; have := HK2.out; have := HK3.out; have := HJ44.out; have := HK5.out; omega⟩, ⟨by (with_reducible repeat (first | apply Kd.R_alloc | apply Kd.R_drewN | apply Kd.R_drew)); exact HO_3.out⟩, ⟨by (with_reducible repeat (first | apply Kd.R_alloc | apply Kd.R_drewN | apply Kd.R_drew)); exact HO_15.out⟩, ⟨by (with_reducible repeat (first | apply Kd.R_alloc | apply Kd.R_drewN | apply Kd.R_drew)); exact HO_19.out⟩, ⟨by (with_reducible repeat (first | apply Kd.R_alloc | apply Kd.R_drewN | apply Kd.R_drew)); exact HO_21.out⟩, ⟨by repeat (first | (with_reducible first | exact HB.out | apply yE | apply yF | apply yD) | exact HB.out)⟩⟩
                ·rw [if_neg c58] at H
                 have c58b0 : decide (x24_5 < (x19_3.length : Int)) = false := yM c58
                 clear c58
                 by_cases c76 : t295 = t275
                 ·rw [if_pos c76] at H
                  have c76b0 : (t295 == t275) = true := beq_iff_eq.mpr c76
                  have c76b1 : (t295 != t275) = false := bne_eq_false_iff_eq.mpr c76
                  clear c76
                  replace H := Option.bind_eq_some_iff.mp H
                  obtain ⟨t302, A770, H⟩ := H
                  replace H : (some t302) = some r := H
                  have A77 := yA A770
                  clear A770
                  obtain rfl := Option.some.inj H
                  obtain ⟨Ao78, co78, eo78⟩ := Kd.R_slice HO_19.out
                  subst eo78
                  obtain ⟨Ao79, co79, eo79⟩ := Kd.R_slice HO_21.out
                  subst eo79
                  obtain ⟨Ao80, co80, eo80⟩ := Kd.R_slice HO_15.out
                  subst eo80
                  go_wp2_with (first | (go_at_call 12; (with_reducible refine (payofflaw06_sameTokens.calls k5 _ _ t293 _ _ t273 t302 _ ?side1 ?side2 ?side3 ?side4 A77.out).mono ?_); (case side1 => repeat (first | exact (Kd.R_reads' HO_21.out).2.2 | (with_reducible refine Kd.C_alloc ?_ _) | (with_reducible refine Kd.C_drewN ?_ _) | (with_reducible refine Kd.C_drew ?_))); (case side2 => exact (Kd.R_reads' HO_21.out).2.1); (case side3 => repeat (first | exact (Kd.R_reads' HO_15.out).2.2 | (with_reducible refine Kd.C_alloc ?_ _) | (with_reducible refine Kd.C_drewN ?_ _) | (with_reducible refine Kd.C_drew ?_))); (case side4 => exact (Kd.R_reads' HO_15.out).2.1); rintro e w' ⟨rfl, ⟨nd, rfl⟩⟩))
                  go_ret
                  exact ⟨by first | rfl | (simp [errW_none, errW_some] <;> rfl) | (simp [*, errW_none, errW_some] <;> rfl), by repeat (first | (with_reducible first | exact HB.out | apply yE | apply yF | apply yD) | exact HB.out)⟩
                 ·rw [if_neg c76] at H
                  exact absurd H (by simp)
       ·rw [if_neg c37] at H
        exact absurd H (by simp)
end Go.Proofs.YtkfdninngcakpaaDoor.PLex
