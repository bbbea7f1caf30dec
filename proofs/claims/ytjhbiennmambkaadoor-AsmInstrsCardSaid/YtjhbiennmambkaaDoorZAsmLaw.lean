/- Own text, for this claim: AsmInstrs: PrintInstr of any instruction over any program answers as the reference's; the program is as it was, and what lies behind its copy's lists; no condition but that the listed package variables stand. Printed by wip/tools/mkasml.py. -/
import Derived.Test.YtjhbiennmambkaaDoorZAsmPure
namespace Go.Proofs.YtjhbiennmambkaaDoor.Pure
open Go.RowKit Go.Proofs.YtjhbiennmambkaaDoorW.PrintWords Go.Proofs.YtjhbiennmambkaaDoorW.PrintLast Go.Proofs.YtjhbiennmambkaaDoorW.PrintMore Go.Proofs.YtjhbiennmambkaaDoor.PAsmInstrs Go.Proofs.YtjhbiennmambkaaDoor.PAsm
set_option linter.unusedVariables false
set_option linter.unusedSimpArgs false
theorem put8 {w : World} {g : Nat} {z0 z1 z2 z3 z4 z5 z6 z7 : Value} (h : w.heap[g]? = some (.cells #[z0, z1, z2, z3, z4, z5, z6, z7] 26 (0, 0))) (v0 v1 v2 v3 v4 v5 v6 v7 : Value) : ((((((((w.setCell ⟨g, 0, none⟩ v0).setCell ⟨g, 1, none⟩ v1).setCell ⟨g, 2, none⟩ v2).setCell ⟨g, 3, none⟩ v3).setCell ⟨g, 4, none⟩ v4).setCell ⟨g, 5, none⟩ v5).setCell ⟨g, 6, none⟩ v6).setCell ⟨g, 7, none⟩ v7).heap[g]? = some (.cells #[v0, v1, v2, v3, v4, v5, v6, v7] 26 (0, 0)) :=
 (blk_put (cs' := #[v0, v1, v2, v3, v4, v5, v6, v7]) (blk_put (cs' := #[v0, v1, v2, v3, v4, v5, v6, z7]) (blk_put (cs' := #[v0, v1, v2, v3, v4, v5, z6, z7]) (blk_put (cs' := #[v0, v1, v2, v3, v4, z5, z6, z7]) (blk_put (cs' := #[v0, v1, v2, v3, z4, z5, z6, z7]) (blk_put (cs' := #[v0, v1, v2, z3, z4, z5, z6, z7]) (blk_put (cs' := #[v0, v1, z2, z3, z4, z5, z6, z7]) (blk_put (cs' := #[v0, z1, z2, z3, z4, z5, z6, z7]) h 0 v0 rfl) 1 v1 rfl) 2 v2 rfl) 3 v3 rfl) 4 v4 rfl) 5 v5 rfl) 6 v6 rfl) 7 v7 rfl)
theorem far8 {w : World} {g b : Nat} {cs : Array Value} {t : TypeId} (h : w.heap[b]? = some (.cells cs t (0, 0))) (hn : b ≠ g) (v0 v1 v2 v3 v4 v5 v6 v7 : Value) : ((((((((w.setCell ⟨g, 0, none⟩ v0).setCell ⟨g, 1, none⟩ v1).setCell ⟨g, 2, none⟩ v2).setCell ⟨g, 3, none⟩ v3).setCell ⟨g, 4, none⟩ v4).setCell ⟨g, 5, none⟩ v5).setCell ⟨g, 6, none⟩ v6).setCell ⟨g, 7, none⟩ v7).heap[b]? = some (.cells cs t (0, 0)) :=
 (blk_far (p := ⟨g, 7, none⟩) (blk_far (p := ⟨g, 6, none⟩) (blk_far (p := ⟨g, 5, none⟩) (blk_far (p := ⟨g, 4, none⟩) (blk_far (p := ⟨g, 3, none⟩) (blk_far (p := ⟨g, 2, none⟩) (blk_far (p := ⟨g, 1, none⟩) (blk_far (p := ⟨g, 0, none⟩) h hn v0) hn v1) hn v2) hn v3) hn v4) hn v5) hn v6) hn v7)
theorem bel8 {w W : World} {g : Nat} (h : Below w.heap.size w W) (hg : w.heap.size ≤ g) (v0 v1 v2 v3 v4 v5 v6 v7 : Value) : Below w.heap.size w ((((((((W.setCell ⟨g, 0, none⟩ v0).setCell ⟨g, 1, none⟩ v1).setCell ⟨g, 2, none⟩ v2).setCell ⟨g, 3, none⟩ v3).setCell ⟨g, 4, none⟩ v4).setCell ⟨g, 5, none⟩ v5).setCell ⟨g, 6, none⟩ v6).setCell ⟨g, 7, none⟩ v7) :=
 (yJ (j := 7) (v := v7) (yJ (j := 6) (v := v6) (yJ (j := 5) (v := v5) (yJ (j := 4) (v := v4) (yJ (j := 3) (v := v3) (yJ (j := 2) (v := v2) (yJ (j := 1) (v := v1) (yJ (j := 0) (v := v0) h hg) hg) hg) hg) hg) hg) hg) hg)
theorem take_app {α : Type} (l : List α) (x y : α) : (l ++ [x, y]).take l.length = l := by simp
theorem mk_0 (l : List ByteArray) (x : ByteArray) : rdOf ByteArray.empty (l ++ [x, x]) (l.length : Int) = x := by simp [rdOf]
theorem mk_1 (l : List ByteArray) (x : ByteArray) : rdOf ByteArray.empty (l ++ [x, x]) ((l.length + 1 : Nat) : Int) = x := by simp [rdOf]
theorem mi_0 (l : List Int) : rd (l ++ [-77, -77]) (l.length : Int) = -77 := by simp [rd]
theorem mi_1 (l : List Int) : rd (l ++ [-77, -77]) ((l.length + 1 : Nat) : Int) = -77 := by simp [rd]
theorem md_0 (l : List S39) : (rd_T39 (l.map segM ++ [mD, mD]) (l.length : Int)).f0 = -77 := by
 have : rd_T39 (l.map segM ++ [mD, mD]) (l.length : Int) = mD := by simp [rd_T39]
 rw [this]; rfl
theorem md_1 (l : List S39) : (rd_T39 (l.map segM ++ [mD, mD]) ((l.length + 1 : Nat) : Int)).f0 = -77 := by
 have : rd_T39 (l.map segM ++ [mD, mD]) ((l.length + 1 : Nat) : Int) = mD := by simp [rd_T39]
 rw [this]; rfl
theorem rdc_0 (l : List S28) : (rd_T28 (l ++ [mI, mI]) (l.length : Int)).f0 = -77 := by
 have : rd_T28 (l ++ [mI, mI]) (l.length : Int) = mI := by simp [rd_T28]
 rw [this]; rfl
theorem rdc_1 (l : List S28) : (rd_T28 (l ++ [mI, mI]) ((l.length + 1 : Nat) : Int)).f0 = -77 := by
 have : rd_T28 (l ++ [mI, mI]) ((l.length + 1 : Nat) : Int) = mI := by simp [rd_T28]
 rw [this]; rfl
theorem md_in (l : List S39) : ∀ i : Nat, i < l.length → ∃ n : Nat, (rd_T39 (l.map segM ++ [mD, mD]) (i : Int)).f1.length = n + 2 ∧ (rd_T28 (rd_T39 (l.map segM ++ [mD, mD]) (i : Int)).f1 (n : Int)).f0 = -77 ∧ (rd_T28 (rd_T39 (l.map segM ++ [mD, mD]) (i : Int)).f1 ((n + 1 : Nat) : Int)).f0 = -77 := by
 intro i hi
 have e : rd_T39 (l.map segM ++ [mD, mD]) (i : Int) = segM l[i] := by
  unfold rd_T39
  rw [Int.toNat_natCast, List.getD_eq_getElem?_getD, List.getElem?_append_left (by rw [List.length_map]; exact hi), List.getElem?_map, List.getElem?_eq_getElem hi]
  rfl
 rw [e]
 exact ⟨l[i].f1.length, by show (l[i].f1 ++ [mI, mI]).length = _; simp, rdc_0 _, rdc_1 _⟩
theorem C_take {α : Type} {d : Kd α} {w : World} {A : Option Addr} {n m : Nat} {xs : List α} (h : d.C w A n xs) (hm : m ≤ n) : d.C w A m (xs.take m) := by
 obtain ⟨h1, h2, h3⟩ := h
 refine ⟨by rw [List.length_take]; omega, by omega, fun h0 => ?_⟩
 obtain ⟨ad, e, hc⟩ := h3 (by omega)
 refine ⟨ad, e, fun j p hj => hc j p ?_⟩
 rw [List.getElem?_take] at hj
 split at hj
 ·exact hj
 ·cases hj
theorem C_map {α β : Type} {d : Kd α} {d' : Kd β} (f : α → β) (hs : d.sz = d'.sz) {w : World} {A : Option Addr} {n : Nat} {xs : List α} (h : d.C w A n xs) (hK : ∀ x cs, d.K w x cs → d'.K w (f x) cs) : d'.C w A n (xs.map f) := by
 obtain ⟨h1, h2, h3⟩ := h
 refine ⟨by rw [List.length_map]; exact h1, h2, fun h0 => ?_⟩
 obtain ⟨ad, e, hc⟩ := h3 h0
 refine ⟨ad, e, fun j p hj => ?_⟩
 rw [List.getElem?_map] at hj
 obtain ⟨x, hx, rfl⟩ := Option.map_eq_some_iff.1 hj
 obtain ⟨c, c1, c2, c3⟩ := hc j x hx
 exact ⟨c, c1.trans hs, hK x c c2, by rw [← hs]; exact c3⟩
def segS (x : S39) : S39 := ⟨x.f0, x.f1.take (x.f1.length - 2)⟩
theorem segS_M (l : List S39) : (l.map segM).map segS = l := by
 rw [List.map_map]
 have : (segS ∘ segM) = id := by
  funext x
  show (⟨x.f0, (x.f1 ++ [mI, mI]).take ((x.f1 ++ [mI, mI]).length - 2)⟩ : S39) = x
  rw [List.length_append, show x.f1.length + [mI, mI].length - 2 = x.f1.length by simp, take_app]
 rw [this, List.map_id]
theorem k_short (w : World) (x : S39) (cs : List Value) (h : k39x.K w x cs) : k39.K w (segS x) cs := by
 obtain ⟨A1, c1, rfl, h3, h4⟩ := kx_open h
 have hl : (segS x).f1.length = x.f1.length - 2 := by show (x.f1.take _).length = _; rw [List.length_take]; omega
 have := k39_mk w (segS x) (A1 := A1) (c1 := c1) (by rw [hl]; omega) (by rw [hl]; exact C_take h4 (by omega))
 rw [hl] at this
 exact this
theorem short_C {w : World} {A : Option Addr} {l : List S39} (h : k39x.C w A (l.map segM ++ [mD, mD]).length (l.map segM ++ [mD, mD])) : k39.C w A l.length l := by
 have h1 := C_take h (m := l.length) (by simp)
 rw [show (l.map segM ++ [mD, mD]).take l.length = l.map segM by rw [show l.length = (l.map segM).length by simp, take_app]] at h1
 have h2 := C_map (d := k39x) (d' := k39) segS rfl h1 (k_short w)
 rwa [segS_M] at h2
theorem app2 {α : Type} (l : List α) (x y : α) : (l ++ [x, y]).length = l.length + 2 := by simp
set_option maxHeartbeats 8000000 in
set_option maxRecDepth 100000 in
theorem law_walk (A0 A1 A2 A7 : Option Addr) (c0 c1 c2 c7 : Nat) (l0 l1 : List ByteArray) (l2 : List Int) (l7 : List S39) (a3 a4 a5 a6 : Int) (op a b : Int) (w : World) (hG : GA w) (hC0 : Kd.string.C w A0 l0.length l0) (hC1 : Kd.string.C w A1 l1.length l1) (hC2 : (Kd.int .i64).C w A2 l2.length l2) (hC7 : k39.C w A7 l7.length l7)
  (i0 : l0.length ≤ c0) (i1 : l1.length ≤ c1) (i2 : l2.length ≤ c2) (i7 : l7.length ≤ c7) (hL : LB l0 l1 l2 op a b) (h0 : l0.length + 2 < 8796093022208) (h1 : l1.length + 2 < 8796093022208) (h2 : l2.length + 2 < 17592186044416) (h7 : l7.length + 2 < 4398046511104) (hc : ∀ x ∈ l7, x.f1.length + 2 < 5864062014805) :
  Calls Tryd.prog 3 #[.agg #[.slice A0 l0.length c0, .slice A1 l1.length c1, .slice A2 l2.length c2, .int .i64 a3, .int .i64 a4, .int .i64 a5, .int .i64 a6, .slice A7 l7.length c7], .agg #[.int .i64 op, .int .i64 a, .int .i64 b]] w fun e w' => e = .returned (.bool true) ∧ Below w.heap.size w w' := by
 have hu26 := Tryd.underlying26
 have hu28 := Tryd.underlying28
 obtain ⟨s, e, hPI⟩ := pi_is l0 l1 l2 op a b
 obtain ⟨k, hk⟩ := (copy_ev l0 l1 l2 a3 a4 a5 a6 l7 h0 h1 h2 h7 hc)
 obtain ⟨ks, hks⟩ := (same_ev l0 l1 l2 a3 a4 a5 a6 l7 (by omega) (by omega) (by omega) (by omega) (fun x hx => by have := hc x hx; omega))
 have HCP := yA (hk k (Nat.le_refl _))
 have HSM := yA (hks ks (Nat.le_refl _))
 have HPI := yA hPI
 have HL := yA hL
 have HG := yA hG
 have HC0 := yA hC0
 have HC1 := yA hC1
 have HC2 := yA hC2
 have HC7 := yA hC7
 have L0 := yA i0
 have L1 := yA i1
 have L2 := yA i2
 have L7 := yA i7
 have HB := yA (Below.refl w.heap.size w)
 clear hG hC0 hC1 hC2 hC7 i0 i1 i2 i7 hL h0 h1 h2 h7 hc hk hks hPI
 go_enter Tryd.func3, Tryd.ntmps3
 go_upto_region 1 with (first | ((with_reducible refine yP (N := 2) rfl ?_); refine yQ ?hg (N := 2) ?hd (cs := #[.slice A0 l0.length c0, .slice A1 l1.length c1, .slice A2 l2.length c2, .int .i64 a3, .int .i64 a4, .int .i64 a5, .int .i64 a6, .slice A7 l7.length c7]) (t := 26) ?hr ?_; (case hd => rfl); (case hg => rfl); (case hr => first | (go_simp; done) | (go_simp; rfl)); intro gp hg wb2 hbox hb; replace HB := yA (yB HB.out hb); have BKP := yA hbox; clear hg hbox hb) | ((with_reducible refine yP (N := 3) rfl ?_); refine yQ ?hg (N := 3) ?hd (cs := #[.int .i64 op, .int .i64 a, .int .i64 b]) (t := 28) ?hr ?_; (case hd => rfl); (case hg => rfl); (case hr => first | (go_simp; done) | (go_simp; rfl)); intro gi hg wb3 hbox hb; replace HB := yA (yB HB.out hb); replace BKP := yA (yC BKP.out hb); have BKI := yA hbox; clear hg hbox hb))
 have hp0 := yR BKP.out 0
 have hp1 := yR BKP.out 1
 have hp2 := yR BKP.out 2
 have hp3 := yR BKP.out 3
 have hp4 := yR BKP.out 4
 have hp5 := yR BKP.out 5
 have hp6 := yR BKP.out 6
 have hp7 := yR BKP.out 7
 have hi0 := yR BKI.out 0
 have hi1 := yR BKI.out 1
 have hi2 := yR BKI.out 2
 go_upto_region 2 with (first | (go_at_call 5; refine (payofflaw13_copyProgram.calls k A0 c0 l0 A1 c1 l1 A2 c2 l2 a3 a4 a5 a6 A7 c7 l7 _ _ _ _ _ _ _ _ _ (Kd.C_below HC0.out HB.out) L0.out (Kd.C_below HC1.out HB.out) L1.out (Kd.C_below HC2.out HB.out) L2.out (Kd.C_below HC7.out HB.out) L7.out HCP.out).mono ?_; rintro e wc ⟨q0, q1, q2, q7, rfl, hq0, hq1, hq2, hq7, hb⟩; obtain ⟨B0, d0, rfl, -, m0, f0⟩ := hq0; obtain ⟨B1, d1, rfl, -, m1, f1⟩ := hq1; obtain ⟨B2, d2, rfl, -, m2, f2⟩ := hq2; obtain ⟨B7, d7, rfl, -, m7, f7⟩ := hq7; have HQ0 := yA (Kd.F_now f0); have HQ1 := yA (Kd.F_now f1); have HQ2 := yA (Kd.F_now f2); have HQ7 := yA (Kd.F_now f7); have M0 := yA m0; have M1 := yA m1; have M2 := yA m2; have M7 := yA m7; replace HB := yA (yB HB.out hb); replace BKP := yA (yC BKP.out hb); replace BKI := yA (yC BKI.out hb); have HW := yA (Below.refl wc.heap.size wc); clear hb f0 f1 f2 f7 m0 m1 m2 m7) | ((with_reducible refine yP (N := 5) rfl ?_); refine yQ ?hg (N := 5) ?hd (cs := #[.slice none 0 0, .slice none 0 0, .slice none 0 0, .int .i64 0, .int .i64 0, .int .i64 0, .int .i64 0, .slice none 0 0]) (t := 26) ?hr ?_; (case hd => rfl); (case hg => rfl); (case hr => first | (go_simp; done) | (go_simp; rfl)); intro gq hg wb5 hbox hb; have GEgq := yA (by rw [hg]; exact HB.out.size : w.heap.size ≤ gq); have NP := yA (show gp ≠ gq from by have := blk_lt BKP.out; omega); have NI := yA (show gi ≠ gq from by have := blk_lt BKI.out; omega); have GC := yA (by rw [hg]; exact Nat.le_refl _ : wc.heap.size ≤ gq); have HW5 := yA hb; replace HB := yA (yB HB.out hb); replace BKP := yA (yC BKP.out hb); replace BKI := yA (yC BKI.out hb); have hz0 : World.cell? _ ⟨gq, 0, none⟩ = some (.slice none 0 0) := (yR hbox 0).trans rfl; have hf0 := yS hbox 0; have hz1 : World.cell? _ ⟨gq, 1, none⟩ = some (.slice none 0 0) := (yR hbox 1).trans rfl; have hf1 := yS hbox 1; have hz2 : World.cell? _ ⟨gq, 2, none⟩ = some (.slice none 0 0) := (yR hbox 2).trans rfl; have hf2 := yS hbox 2; have hz3 : World.cell? _ ⟨gq, 3, none⟩ = some (.int .i64 0) := (yR hbox 3).trans rfl; have hf3 := yS hbox 3; have hz4 : World.cell? _ ⟨gq, 4, none⟩ = some (.int .i64 0) := (yR hbox 4).trans rfl; have hf4 := yS hbox 4; have hz5 : World.cell? _ ⟨gq, 5, none⟩ = some (.int .i64 0) := (yR hbox 5).trans rfl; have hf5 := yS hbox 5; have hz6 : World.cell? _ ⟨gq, 6, none⟩ = some (.int .i64 0) := (yR hbox 6).trans rfl; have hf6 := yS hbox 6; have hz7 : World.cell? _ ⟨gq, 7, none⟩ = some (.slice none 0 0) := (yR hbox 7).trans rfl; have hf7 := yS hbox 7; have BKQ := yA hbox; clear hg hbox hb))
 have hp8 := put8 BKQ.out (.slice B0 l0.length d0) (.slice B1 l1.length d1) (.slice B2 l2.length d2) (.int .i64 a3) (.int .i64 a4) (.int .i64 a5) (.int .i64 a6) (.slice B7 l7.length d7)
 have hf8 := far8 BKP.out NP.out (.slice B0 l0.length d0) (.slice B1 l1.length d1) (.slice B2 l2.length d2) (.int .i64 a3) (.int .i64 a4) (.int .i64 a5) (.int .i64 a6) (.slice B7 l7.length d7)
 have hi8 := far8 BKI.out NI.out (.slice B0 l0.length d0) (.slice B1 l1.length d1) (.slice B2 l2.length d2) (.int .i64 a3) (.int .i64 a4) (.int .i64 a5) (.int .i64 a6) (.slice B7 l7.length d7)
 have hb8 := bel8 HB.out GEgq.out (.slice B0 l0.length d0) (.slice B1 l1.length d1) (.slice B2 l2.length d2) (.int .i64 a3) (.int .i64 a4) (.int .i64 a5) (.int .i64 a6) (.slice B7 l7.length d7)
 have hw8 := bel8 HW5.out GC.out (.slice B0 l0.length d0) (.slice B1 l1.length d1) (.slice B2 l2.length d2) (.int .i64 a3) (.int .i64 a4) (.int .i64 a5) (.int .i64 a6) (.slice B7 l7.length d7)
 generalize World.setCell _ _ _ = w8 at hp8 hf8 hi8 hb8 hw8 ⊢
 clear BKP BKI BKQ HB hz0 hz1 hz2 hz3 hz4 hz5 hz6 hz7 hf0 hf1 hf2 hf3 hf4 hf5 hf6 hf7
 have BKQ := yA hp8
 have BKP := yA hf8
 have BKI := yA hi8
 have HB := yA hb8
 have HC := yA hw8
 clear hp8 hf8 hi8 hb8 hw8
 have e0 := app2 l0 mN mN
 have e1 := app2 l1 mN mN
 have e2 := app2 l2 (-77) (-77)
 have e7 : (l7.map segM ++ [mD, mD]).length = l7.length + 2 := by rw [app2, List.length_map]
 have t0 := C_take HQ0.out (m := l0.length) (by omega)
 have t1 := C_take HQ1.out (m := l1.length) (by omega)
 have t2 := C_take HQ2.out (m := l2.length) (by omega)
 rw [take_app] at t0 t1 t2
 have HT0 := yA t0
 have HT1 := yA t1
 have HT2 := yA t2
 have HT7 := yA (short_C HQ7.out)
 have z0 := M0.out
 have z1 := M1.out
 have z2 := M2.out
 have z7 := M7.out
 have K0 : Aside0 (l0.length ≤ d0) := ⟨by omega⟩
 have K1 : Aside0 (l1.length ≤ d1) := ⟨by omega⟩
 have K2 : Aside0 (l2.length ≤ d2) := ⟨by omega⟩
 have K7 : Aside0 (l7.length ≤ d7) := ⟨by omega⟩
 have N0 : Aside0 (l0.length + 2 ≤ d0) := ⟨by omega⟩
 have N1 : Aside0 (l1.length + 2 ≤ d1) := ⟨by omega⟩
 have N2 : Aside0 (l2.length + 2 ≤ d2) := ⟨by omega⟩
 have N7 : Aside0 (l7.length + 2 ≤ d7) := ⟨by omega⟩
 have y0 := HQ0.out
 have y1 := HQ1.out
 have y2 := HQ2.out
 have y7 := HQ7.out
 rw [e0] at y0
 rw [e1] at y1
 rw [e2] at y2
 rw [e7] at y7
 have HF0 := yA y0
 have HF1 := yA y1
 have HF2 := yA y2
 have HF7 := yA y7
 clear e0 e1 e2 e7 t0 t1 t2 z0 z1 z2 z7 y0 y1 y2 y7 M0 M1 M2 M7
 have hp0 := yR BKP.out 0
 have hp1 := yR BKP.out 1
 have hp2 := yR BKP.out 2
 have hp3 := yR BKP.out 3
 have hp4 := yR BKP.out 4
 have hp5 := yR BKP.out 5
 have hp6 := yR BKP.out 6
 have hp7 := yR BKP.out 7
 have hi0 := yR BKI.out 0
 have hi1 := yR BKI.out 1
 have hi2 := yR BKI.out 2
 have hq0 := yR BKQ.out 0
 have hq1 := yR BKQ.out 1
 have hq2 := yR BKQ.out 2
 have hq3 := yR BKQ.out 3
 have hq4 := yR BKQ.out 4
 have hq5 := yR BKQ.out 5
 have hq6 := yR BKQ.out 6
 have hq7 := yR BKQ.out 7
 have hs1 : (s.toList == s.toList) = true := beq_self_eq_true _
 have hs2 : (e == e) = true := beq_self_eq_true _
 go_wp2_with (first | (go_at_call 6; refine (api_any B0 B1 B2 B7 d0 d1 d2 d7 l7.length l0 l1 l2 a3 a4 a5 a6 op a b s e _ (GA.below HG.out HB.out) (Kd.C_below HT0.out HC.out) (Kd.C_below HT1.out HC.out) (Kd.C_below HT2.out HC.out) HL.out HPI.out).mono ?_; rintro e1 w1 ⟨rfl, hb⟩; replace HB := yA (yB HB.out hb); replace HC := yA (yB HC.out hb); replace BKP := yA (yC BKP.out hb); replace BKI := yA (yC BKI.out hb); replace BKQ := yA (yC BKQ.out hb); have hp0 := yR BKP.out 0; have hp1 := yR BKP.out 1; have hp2 := yR BKP.out 2; have hp3 := yR BKP.out 3; have hp4 := yR BKP.out 4; have hp5 := yR BKP.out 5; have hp6 := yR BKP.out 6; have hp7 := yR BKP.out 7; have hi0 := yR BKI.out 0; have hi1 := yR BKI.out 1; have hi2 := yR BKI.out 2; have hq0 := yR BKQ.out 0; have hq1 := yR BKQ.out 1; have hq2 := yR BKQ.out 2; have hq3 := yR BKQ.out 3; have hq4 := yR BKQ.out 4; have hq5 := yR BKQ.out 5; have hq6 := yR BKQ.out 6; have hq7 := yR BKQ.out 7; clear hb) | (go_at_call 7; refine (rpi_any A0 A1 A2 A7 c0 c1 c2 c7 l7.length l0 l1 l2 a3 a4 a5 a6 op a b s e _ (GA.below HG.out HB.out) (Kd.C_below HC0.out HB.out) (Kd.C_below HC1.out HB.out) (Kd.C_below HC2.out HB.out) HL.out HPI.out).mono ?_; rintro e2 w2 ⟨rfl, hb⟩; replace HB := yA (yB HB.out hb); replace HC := yA (yB HC.out hb); replace BKP := yA (yC BKP.out hb); replace BKI := yA (yC BKI.out hb); replace BKQ := yA (yC BKQ.out hb); have hp0 := yR BKP.out 0; have hp1 := yR BKP.out 1; have hp2 := yR BKP.out 2; have hp3 := yR BKP.out 3; have hp4 := yR BKP.out 4; have hp5 := yR BKP.out 5; have hp6 := yR BKP.out 6; have hp7 := yR BKP.out 7; have hi0 := yR BKI.out 0; have hi1 := yR BKI.out 1; have hi2 := yR BKI.out 2; have hq0 := yR BKQ.out 0; have hq1 := yR BKQ.out 1; have hq2 := yR BKQ.out 2; have hq3 := yR BKQ.out 3; have hq4 := yR BKQ.out 4; have hq5 := yR BKQ.out 5; have hq6 := yR BKQ.out 6; have hq7 := yR BKQ.out 7; clear hb) | (go_at_call 8; refine (payofflaw13_same.calls ks A0 c0 l0 A1 c1 l1 A2 c2 l2 a3 a4 a5 a6 A7 c7 l7 B0 d0 l0 B1 d1 l1 B2 d2 l2 a3 a4 a5 a6 B7 d7 l7 true _ (Kd.C_below HC0.out HB.out) L0.out (Kd.C_below HC1.out HB.out) L1.out (Kd.C_below HC2.out HB.out) L2.out (Kd.C_below HC7.out HB.out) L7.out (Kd.C_below HT0.out HC.out) K0.out (Kd.C_below HT1.out HC.out) K1.out (Kd.C_below HT2.out HC.out) K2.out (Kd.C_below HT7.out HC.out) K7.out HSM.out).mono ?_; rintro e3 w3 ⟨rfl, hb⟩; replace HB := yA (yB HB.out hb); replace HC := yA (yB HC.out hb); replace BKP := yA (yC BKP.out hb); replace BKI := yA (yC BKI.out hb); replace BKQ := yA (yC BKQ.out hb); have hp0 := yR BKP.out 0; have hp1 := yR BKP.out 1; have hp2 := yR BKP.out 2; have hp3 := yR BKP.out 3; have hp4 := yR BKP.out 4; have hp5 := yR BKP.out 5; have hp6 := yR BKP.out 6; have hp7 := yR BKP.out 7; have hi0 := yR BKI.out 0; have hi1 := yR BKI.out 1; have hi2 := yR BKI.out 2; have hq0 := yR BKQ.out 0; have hq1 := yR BKQ.out 1; have hq2 := yR BKQ.out 2; have hq3 := yR BKQ.out 3; have hq4 := yR BKQ.out 4; have hq5 := yR BKQ.out 5; have hq6 := yR BKQ.out 6; have hq7 := yR BKQ.out 7; clear hb) | (go_at_call 9; refine (left_true B0 B1 B2 B7 d0 d1 d2 d7 l0.length l1.length l2.length l7.length _ _ _ _ _ _ _ _ a3 a4 a5 a6 _ rfl rfl rfl rfl (Kd.C_below HF0.out HC.out) (Kd.C_below HF1.out HC.out) (Kd.C_below HF2.out HC.out) (Kd.C_below HF7.out HC.out) N0.out N1.out N2.out N7.out (mk_1 l0 mN) (mk_0 l0 mN) (mk_1 l1 mN) (mk_0 l1 mN) (mi_1 l2) (mi_0 l2) (md_1 l7) (md_0 l7) (md_in l7)).mono ?_; rintro e4 w4 ⟨rfl, hb⟩; replace HB := yA (yB HB.out hb); replace HC := yA (yB HC.out hb); replace BKP := yA (yC BKP.out hb); replace BKI := yA (yC BKI.out hb); replace BKQ := yA (yC BKQ.out hb); have hp0 := yR BKP.out 0; have hp1 := yR BKP.out 1; have hp2 := yR BKP.out 2; have hp3 := yR BKP.out 3; have hp4 := yR BKP.out 4; have hp5 := yR BKP.out 5; have hp6 := yR BKP.out 6; have hp7 := yR BKP.out 7; have hi0 := yR BKI.out 0; have hi1 := yR BKI.out 1; have hi2 := yR BKI.out 2; have hq0 := yR BKQ.out 0; have hq1 := yR BKQ.out 1; have hq2 := yR BKQ.out 2; have hq3 := yR BKQ.out 3; have hq4 := yR BKQ.out 4; have hq5 := yR BKQ.out 5; have hq6 := yR BKQ.out 6; have hq7 := yR BKQ.out 7; clear hb))
 go_ret
 exact ⟨rfl, HB.out⟩
end Go.Proofs.YtjhbiennmambkaaDoor.Pure
