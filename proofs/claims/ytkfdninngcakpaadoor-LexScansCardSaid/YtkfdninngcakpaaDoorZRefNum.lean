/- Own text, for this claim: the reference's numbers (payoffref06) walked, given what digits and number answer. Printed by wip/tools/mkref6n.py. -/
import Derived.Test.YtkfdninngcakpaaDoorZRefName
namespace Go.Proofs.YtkfdninngcakpaaDoor.Pure
open Go.RowKit Go.Proofs.YtkfdninngcakpaaDoor.PLex Go.Proofs.YtkfdninngcakpaaDoorW.PrintWords Go.Proofs.YtkfdninngcakpaaDoorW.PrintLast Go.Proofs.YtkfdninngcakpaaDoorW.PrintMore
set_option linter.unusedVariables false
set_option linter.unusedSimpArgs false
theorem rdigits_any {s : ByteArray} {b : Bool} (h : ∃ k, payoffref06_digits.f k s = some b) (w : World) : Calls Tryd.prog 60 #[.string s] w fun e w' => e = .returned (.bool b) ∧ Below w.heap.size w w' := by
 obtain ⟨k, hk⟩ := h
 exact (payoffref06_digits.calls k s b w hk).mono fun e w' ⟨h1, nd, h2⟩ => ⟨h1, by rw [h2]; exact yF (Below.refl _ _) _⟩
theorem rnumber_any {s : ByteArray} {v : Int} (h : ∃ k, payoffref06_number.f k s = some v) (w : World) : Calls Tryd.prog 41 #[.string s] w fun e w' => e = .returned (.int .i64 v) ∧ Below w.heap.size w w' := by
 obtain ⟨k, hk⟩ := h
 exact (payoffref06_number.calls k s v w hk).mono fun e w' ⟨h1, nd, h2⟩ => ⟨h1, by rw [h2]; exact yF (Below.refl _ _) _⟩
def errAt (at_ e : Int) : TokR := (0, (⟨#[]⟩ : ByteArray), 0, 0, 0, 0, 0, 0, 0, at_, e)
def rnums (b : Bool) (v : Int) (b2 : Bool) (v2 : Int) (s : ByteArray) (n : Nat) (at_ : Int) : TokR :=
 if b = true then (if v < 0 ∨ (1 < n + 1 ∧ bt s 0 = 48) then errAt at_ 62 else (3, s, at_, v, 0, 0, 0, 0, 0, 0, 0))
 else if b2 = false ∨ 3 < n ∨ bt s 0 = 48 ∨ unitOf (bt s (n : Int)) = 0 then errAt at_ 62 else (5, s, at_, 0, 0, 0, 0, v2, unitOf (bt s (n : Int)), 0, 0)
set_option maxHeartbeats 8000000 in
set_option maxRecDepth 100000 in
theorem nums_any (a0 : ByteArray) (a1 : Int) (n : Nat) (h0 : a0.size = n + 1) (hs : a0.size ≤ 140737488355328) (b : Bool) (v : Int) (b2 : Bool) (v2 : Int) (hb1 : ∃ k, payoffref06_digits.f k a0 = some b) (hv1 : ∃ k, payoffref06_number.f k a0 = some v) (hb2 : ∃ k, payoffref06_digits.f k (a0.extract 0 n) = some b2) (hv2 : ∃ k, payoffref06_number.f k (a0.extract 0 n) = some v2) (w : World) : Calls Tryd.prog 45 #[.string a0, .int .i64 a1] w fun e w' => e = .returned (tokV (rnums b v b2 v2 a0 n a1)) ∧ Below w.heap.size w w' := by
 have hu32 := Tryd.underlying32
 have hu30 := Tryd.underlying30
 have HB := yA (Below.refl w.heap.size w)
 have HS := yA hs
 have H0 := yA h0
 have H1 := yA hb1
 have H2 := yA hv1
 have H3 := yA hb2
 have H4 := yA hv2
 have q0 : ((0 : Int) < (a0.size : Int)) = True := eq_true (by omega)
 have q00 : (0 < a0.size) = True := eq_true (by omega)
 have hx0 : ∀ h : 0 < a0.size, ((a0[0]'h).toNat : Int) = bt a0 0 := bt_at a0 0
 clear hs h0 hb1 hv1 hb2 hv2
 go_enter Tryd.func45, Tryd.ntmps45
 go_upto_region 2 with (first | ((with_reducible refine yP (N := 4) rfl ?_); refine yQ ?hg (N := 4) ?hd (cs := #[.int .i64 0, .string (⟨#[]⟩ : ByteArray), .int .i64 0, .int .i64 0, .int .i64 0, .int .i64 0, .int .i64 0, .int .i64 0, .int .i64 0]) (t := 32) ?hr ?_; (case hd => rfl); (case hg => rfl); (case hr => first | (go_simp; done) | (go_simp; rfl)); intro gb4 hg w2 hbox hb; have GE4 := yA (by rw [hg]; exact HB.out.size : w.heap.size ≤ gb4); replace HB := yA (yB HB.out hb); have BK4 := yA (hbox); clear hb hg hbox) | ((with_reducible refine yP (N := 7) rfl ?_); refine yQ ?hg (N := 7) ?hd (cs := #[.int .i64 0, .string (⟨#[]⟩ : ByteArray), .int .i64 0, .int .i64 0, .int .i64 0, .int .i64 0, .int .i64 0, .int .i64 0, .int .i64 0]) (t := 32) ?hr ?_; (case hd => rfl); (case hg => rfl); (case hr => first | (go_simp; done) | (go_simp; rfl)); intro gb7 hg w3 hbox hb; have GE7 := yA (by rw [hg]; exact HB.out.size : w.heap.size ≤ gb7); have NE := yA (by rw [hg]; exact Nat.ne_of_lt (blk_lt BK4.out) : gb4 ≠ gb7); replace HB := yA (yB HB.out hb); replace BK4 := yA (yC BK4.out hb); have BK7 := yA (hbox); have hcz7_0 : World.cell? _ ⟨gb7, 0, none⟩ = some (.int .i64 0) := (yR BK7.out 0).trans rfl; have hfz7_0 := yS BK7.out 0; have hcz7_1 : World.cell? _ ⟨gb7, 1, none⟩ = some (.string (⟨#[]⟩ : ByteArray)) := (yR BK7.out 1).trans rfl; have hfz7_1 := yS BK7.out 1; have hcz7_2 : World.cell? _ ⟨gb7, 2, none⟩ = some (.int .i64 0) := (yR BK7.out 2).trans rfl; have hfz7_2 := yS BK7.out 2; have hcz7_3 : World.cell? _ ⟨gb7, 3, none⟩ = some (.int .i64 0) := (yR BK7.out 3).trans rfl; have hfz7_3 := yS BK7.out 3; have hcz7_4 : World.cell? _ ⟨gb7, 4, none⟩ = some (.int .i64 0) := (yR BK7.out 4).trans rfl; have hfz7_4 := yS BK7.out 4; have hcz7_5 : World.cell? _ ⟨gb7, 5, none⟩ = some (.int .i64 0) := (yR BK7.out 5).trans rfl; have hfz7_5 := yS BK7.out 5; have hcz7_6 : World.cell? _ ⟨gb7, 6, none⟩ = some (.int .i64 0) := (yR BK7.out 6).trans rfl; have hfz7_6 := yS BK7.out 6; have hcz7_7 : World.cell? _ ⟨gb7, 7, none⟩ = some (.int .i64 0) := (yR BK7.out 7).trans rfl; have hfz7_7 := yS BK7.out 7; have hcz7_8 : World.cell? _ ⟨gb7, 8, none⟩ = some (.int .i64 0) := (yR BK7.out 8).trans rfl; have hfz7_8 := yS BK7.out 8; clear hb hg hbox))
 clear hcz7_0 hfz7_0 hcz7_1 hfz7_1 hcz7_2 hfz7_2 hcz7_3 hfz7_3 hcz7_4 hfz7_4 hcz7_5 hfz7_5 hcz7_6 hfz7_6 hcz7_7 hfz7_7 hcz7_8 hfz7_8
 have m0_ := put9 BK7.out (.int .i64 3) (.string a0) (.int .i64 a1) (.int .i64 0) (.int .i64 0) (.int .i64 0) (.int .i64 0) (.int .i64 0) (.int .i64 0)
 have m1_ := far9 BK4.out NE.out (.int .i64 3) (.string a0) (.int .i64 a1) (.int .i64 0) (.int .i64 0) (.int .i64 0) (.int .i64 0) (.int .i64 0) (.int .i64 0)
 have m2_ := bel9 HB.out GE7.out (.int .i64 3) (.string a0) (.int .i64 a1) (.int .i64 0) (.int .i64 0) (.int .i64 0) (.int .i64 0) (.int .i64 0) (.int .i64 0)
 generalize ((((((((w3.setCell ⟨gb7, 0, none⟩ (.int .i64 3)).setCell ⟨gb7, 1, none⟩ (.string a0)).setCell ⟨gb7, 2, none⟩ (.int .i64 a1)).setCell ⟨gb7, 3, none⟩ (.int .i64 0)).setCell ⟨gb7, 4, none⟩ (.int .i64 0)).setCell ⟨gb7, 5, none⟩ (.int .i64 0)).setCell ⟨gb7, 6, none⟩ (.int .i64 0)).setCell ⟨gb7, 7, none⟩ (.int .i64 0)).setCell ⟨gb7, 8, none⟩ (.int .i64 0) = w4 at m0_ m1_ m2_ ⊢
 clear BK4 BK7 HB
 have BK7 := yA m0_
 have BK4 := yA m1_
 have HB := yA m2_
 clear m0_ m1_ m2_
 go_upto_region 3 with (first | ((with_reducible refine yO (f := 60) rfl ?_); (try (refine gate_guard (by rfl) ?_; dsimp only)); refine goesL_ (some 15) rfl rfl Tryd.func60 (by kernel_rfl) rfl #[.string a0] rfl (by (try simp only [List.map_toArray, List.map_cons, List.map_nil]); first | done | rfl) ?_; refine (rdigits_any H1.out _).mono ?_; rintro e wa ⟨rfl, hb⟩; refine ⟨_, rfl, ?_⟩; replace HB := yA (yB HB.out hb); replace BK4 := yA (yC BK4.out hb); replace BK7 := yA (yC BK7.out hb); clear hb))
 cases b with
 | true =>
  go_upto_region 4 with (fail)
  have hcz7_3 : World.cell? _ ⟨gb7, 3, none⟩ = some (.int .i64 0) := (yR BK7.out 3).trans rfl; have hfz7_3 := yS BK7.out 3
  clear hcz7_3 hfz7_3
  go_upto_region 5 with (first | ((with_reducible refine yO (f := 41) rfl ?_); (try (refine gate_guard (by rfl) ?_; dsimp only)); refine goesL_ (some 18) rfl rfl Tryd.func41 (by kernel_rfl) rfl #[.string a0] rfl (by (try simp only [List.map_toArray, List.map_cons, List.map_nil]); first | done | rfl) ?_; refine (rnumber_any H2.out _).mono ?_; rintro e wb ⟨rfl, hb⟩; refine ⟨_, rfl, ?_⟩; replace HB := yA (yB HB.out hb); replace BK4 := yA (yC BK4.out hb); replace BK7 := yA (yC BK7.out hb); clear hb; have hcz7_3 : World.cell? _ ⟨gb7, 3, none⟩ = some (.int .i64 0) := (yR BK7.out 3).trans rfl; have hfz7_3 := yS BK7.out 3))
  clear hcz7_3 hfz7_3
  have m0_ := blk_put (cs' := #[.int .i64 3, .string a0, .int .i64 a1, .int .i64 v, .int .i64 0, .int .i64 0, .int .i64 0, .int .i64 0, .int .i64 0]) BK7.out 3 (.int .i64 v) rfl
  have m1_ := blk_far (p := ⟨gb7, 3, none⟩) BK4.out NE.out (.int .i64 v)
  have m2_ := yJ (j := 3) (v := .int .i64 v) HB.out GE7.out
  generalize World.setCell _ _ _ = wn at m0_ m1_ m2_ ⊢
  clear BK4 BK7 HB
  have BK7 := yA m0_
  have BK4 := yA m1_
  have HB := yA m2_
  clear m0_ m1_ m2_
  have hl1 : (a0.size : Int) = (n : Int) + 1 := by have := H0.out; omega
  have HL1 := yA hl1
  by_cases g1 : v < 0
  ·have g1b : decide (v < 0) = true := yL g1
   have HW := yA (show rnums true v b2 v2 a0 n a1 = errAt a1 62 by unfold rnums; rw [if_pos rfl, if_pos (Or.inl g1)])
   clear hl1 g1
   have hcz4_0 : World.cell? _ ⟨gb4, 0, none⟩ = some (.int .i64 0) := (yR BK4.out 0).trans rfl
   have hfz4_0 := yS BK4.out 0
   have hcz4_1 : World.cell? _ ⟨gb4, 1, none⟩ = some (.string (⟨#[]⟩ : ByteArray)) := (yR BK4.out 1).trans rfl
   have hfz4_1 := yS BK4.out 1
   have hcz4_2 : World.cell? _ ⟨gb4, 2, none⟩ = some (.int .i64 0) := (yR BK4.out 2).trans rfl
   have hfz4_2 := yS BK4.out 2
   have hcz4_3 : World.cell? _ ⟨gb4, 3, none⟩ = some (.int .i64 0) := (yR BK4.out 3).trans rfl
   have hfz4_3 := yS BK4.out 3
   have hcz4_4 : World.cell? _ ⟨gb4, 4, none⟩ = some (.int .i64 0) := (yR BK4.out 4).trans rfl
   have hfz4_4 := yS BK4.out 4
   have hcz4_5 : World.cell? _ ⟨gb4, 5, none⟩ = some (.int .i64 0) := (yR BK4.out 5).trans rfl
   have hfz4_5 := yS BK4.out 5
   have hcz4_6 : World.cell? _ ⟨gb4, 6, none⟩ = some (.int .i64 0) := (yR BK4.out 6).trans rfl
   have hfz4_6 := yS BK4.out 6
   have hcz4_7 : World.cell? _ ⟨gb4, 7, none⟩ = some (.int .i64 0) := (yR BK4.out 7).trans rfl
   have hfz4_7 := yS BK4.out 7
   have hcz4_8 : World.cell? _ ⟨gb4, 8, none⟩ = some (.int .i64 0) := (yR BK4.out 8).trans rfl
   have hfz4_8 := yS BK4.out 8
   have hcz7_3 : World.cell? _ ⟨gb7, 3, none⟩ = some (.int .i64 v) := (yR BK7.out 3).trans rfl; have hfz7_3 := yS BK7.out 3
   go_wp2
   refine bodyPost_ret (results_ctt rfl _ _ gb4 32 #[.int .i64 0, .string (⟨#[]⟩ : ByteArray), .int .i64 0, .int .i64 0, .int .i64 0, .int .i64 0, .int .i64 0, .int .i64 0, .int .i64 0] (0, 0) _ rfl (put9 BK4.out (.int .i64 0) (.string (⟨#[]⟩ : ByteArray)) (.int .i64 0) (.int .i64 0) (.int .i64 0) (.int .i64 0) (.int .i64 0) (.int .i64 0) (.int .i64 0)) Tryd.underlying32 rfl (by kernel_rfl)) rfl ?_
   exact ⟨by rw [HW.out]; rfl, bel9 HB.out GE4.out (.int .i64 0) (.string (⟨#[]⟩ : ByteArray)) (.int .i64 0) (.int .i64 0) (.int .i64 0) (.int .i64 0) (.int .i64 0) (.int .i64 0) (.int .i64 0)⟩
  have g1b : decide (v < 0) = false := yM g1
  by_cases g2 : 1 < n + 1
  ·have g2b : decide ((a0.size : Int) > 1) = true := yL (by omega)
   have g2c : decide (1 < (a0.size : Int)) = true := g2b
   have g2d : decide (1 < a0.size) = true := yL (by omega)
   by_cases g3 : bt a0 0 = 48
   ·have g3b : (bt a0 0 == 48) = true := beq_iff_eq.mpr g3
    have HW := yA (show rnums true v b2 v2 a0 n a1 = errAt a1 62 by unfold rnums; rw [if_pos rfl, if_pos (Or.inr ⟨g2, g3⟩)])
    clear hl1 g1 g2 g3
    have hcz4_0 : World.cell? _ ⟨gb4, 0, none⟩ = some (.int .i64 0) := (yR BK4.out 0).trans rfl
    have hfz4_0 := yS BK4.out 0
    have hcz4_1 : World.cell? _ ⟨gb4, 1, none⟩ = some (.string (⟨#[]⟩ : ByteArray)) := (yR BK4.out 1).trans rfl
    have hfz4_1 := yS BK4.out 1
    have hcz4_2 : World.cell? _ ⟨gb4, 2, none⟩ = some (.int .i64 0) := (yR BK4.out 2).trans rfl
    have hfz4_2 := yS BK4.out 2
    have hcz4_3 : World.cell? _ ⟨gb4, 3, none⟩ = some (.int .i64 0) := (yR BK4.out 3).trans rfl
    have hfz4_3 := yS BK4.out 3
    have hcz4_4 : World.cell? _ ⟨gb4, 4, none⟩ = some (.int .i64 0) := (yR BK4.out 4).trans rfl
    have hfz4_4 := yS BK4.out 4
    have hcz4_5 : World.cell? _ ⟨gb4, 5, none⟩ = some (.int .i64 0) := (yR BK4.out 5).trans rfl
    have hfz4_5 := yS BK4.out 5
    have hcz4_6 : World.cell? _ ⟨gb4, 6, none⟩ = some (.int .i64 0) := (yR BK4.out 6).trans rfl
    have hfz4_6 := yS BK4.out 6
    have hcz4_7 : World.cell? _ ⟨gb4, 7, none⟩ = some (.int .i64 0) := (yR BK4.out 7).trans rfl
    have hfz4_7 := yS BK4.out 7
    have hcz4_8 : World.cell? _ ⟨gb4, 8, none⟩ = some (.int .i64 0) := (yR BK4.out 8).trans rfl
    have hfz4_8 := yS BK4.out 8
    have hcz7_3 : World.cell? _ ⟨gb7, 3, none⟩ = some (.int .i64 v) := (yR BK7.out 3).trans rfl; have hfz7_3 := yS BK7.out 3
    go_wp2
    refine bodyPost_ret (results_ctt rfl _ _ gb4 32 #[.int .i64 0, .string (⟨#[]⟩ : ByteArray), .int .i64 0, .int .i64 0, .int .i64 0, .int .i64 0, .int .i64 0, .int .i64 0, .int .i64 0] (0, 0) _ rfl (put9 BK4.out (.int .i64 0) (.string (⟨#[]⟩ : ByteArray)) (.int .i64 0) (.int .i64 0) (.int .i64 0) (.int .i64 0) (.int .i64 0) (.int .i64 0) (.int .i64 0)) Tryd.underlying32 rfl (by kernel_rfl)) rfl ?_
    exact ⟨by rw [HW.out]; rfl, bel9 HB.out GE4.out (.int .i64 0) (.string (⟨#[]⟩ : ByteArray)) (.int .i64 0) (.int .i64 0) (.int .i64 0) (.int .i64 0) (.int .i64 0) (.int .i64 0) (.int .i64 0)⟩
   ·have g3b : (bt a0 0 == 48) = false := beq_eq_false_iff_ne.mpr g3
    have HW := yA (show rnums true v b2 v2 a0 n a1 = (3, a0, a1, v, 0, 0, 0, 0, 0, 0, 0) by unfold rnums; rw [if_pos rfl, if_neg (by rintro (h | h); exact g1 h; exact g3 h.2)])
    have hcz4_0 : World.cell? _ ⟨gb4, 0, none⟩ = some (.int .i64 0) := (yR BK4.out 0).trans rfl
    have hfz4_0 := yS BK4.out 0
    have hcz4_1 : World.cell? _ ⟨gb4, 1, none⟩ = some (.string (⟨#[]⟩ : ByteArray)) := (yR BK4.out 1).trans rfl
    have hfz4_1 := yS BK4.out 1
    have hcz4_2 : World.cell? _ ⟨gb4, 2, none⟩ = some (.int .i64 0) := (yR BK4.out 2).trans rfl
    have hfz4_2 := yS BK4.out 2
    have hcz4_3 : World.cell? _ ⟨gb4, 3, none⟩ = some (.int .i64 0) := (yR BK4.out 3).trans rfl
    have hfz4_3 := yS BK4.out 3
    have hcz4_4 : World.cell? _ ⟨gb4, 4, none⟩ = some (.int .i64 0) := (yR BK4.out 4).trans rfl
    have hfz4_4 := yS BK4.out 4
    have hcz4_5 : World.cell? _ ⟨gb4, 5, none⟩ = some (.int .i64 0) := (yR BK4.out 5).trans rfl
    have hfz4_5 := yS BK4.out 5
    have hcz4_6 : World.cell? _ ⟨gb4, 6, none⟩ = some (.int .i64 0) := (yR BK4.out 6).trans rfl
    have hfz4_6 := yS BK4.out 6
    have hcz4_7 : World.cell? _ ⟨gb4, 7, none⟩ = some (.int .i64 0) := (yR BK4.out 7).trans rfl
    have hfz4_7 := yS BK4.out 7
    have hcz4_8 : World.cell? _ ⟨gb4, 8, none⟩ = some (.int .i64 0) := (yR BK4.out 8).trans rfl
    have hfz4_8 := yS BK4.out 8
    have hcz7_0 : World.cell? _ ⟨gb7, 0, none⟩ = some (.int .i64 3) := (yR BK7.out 0).trans rfl
    have hfz7_0 := yS BK7.out 0
    have hcz7_1 : World.cell? _ ⟨gb7, 1, none⟩ = some (.string a0) := (yR BK7.out 1).trans rfl
    have hfz7_1 := yS BK7.out 1
    have hcz7_2 : World.cell? _ ⟨gb7, 2, none⟩ = some (.int .i64 a1) := (yR BK7.out 2).trans rfl
    have hfz7_2 := yS BK7.out 2
    have hcz7_3 : World.cell? _ ⟨gb7, 3, none⟩ = some (.int .i64 v) := (yR BK7.out 3).trans rfl
    have hfz7_3 := yS BK7.out 3
    have hcz7_4 : World.cell? _ ⟨gb7, 4, none⟩ = some (.int .i64 0) := (yR BK7.out 4).trans rfl
    have hfz7_4 := yS BK7.out 4
    have hcz7_5 : World.cell? _ ⟨gb7, 5, none⟩ = some (.int .i64 0) := (yR BK7.out 5).trans rfl
    have hfz7_5 := yS BK7.out 5
    have hcz7_6 : World.cell? _ ⟨gb7, 6, none⟩ = some (.int .i64 0) := (yR BK7.out 6).trans rfl
    have hfz7_6 := yS BK7.out 6
    have hcz7_7 : World.cell? _ ⟨gb7, 7, none⟩ = some (.int .i64 0) := (yR BK7.out 7).trans rfl
    have hfz7_7 := yS BK7.out 7
    have hcz7_8 : World.cell? _ ⟨gb7, 8, none⟩ = some (.int .i64 0) := (yR BK7.out 8).trans rfl
    have hfz7_8 := yS BK7.out 8
    go_wp2
    refine bodyPost_ret (results_ctt rfl _ _ gb4 32 #[.int .i64 3, .string a0, .int .i64 a1, .int .i64 v, .int .i64 0, .int .i64 0, .int .i64 0, .int .i64 0, .int .i64 0] (0, 0) _ rfl (put9 BK4.out (.int .i64 3) (.string a0) (.int .i64 a1) (.int .i64 v) (.int .i64 0) (.int .i64 0) (.int .i64 0) (.int .i64 0) (.int .i64 0)) Tryd.underlying32 rfl (by kernel_rfl)) rfl ?_
    exact ⟨by rw [HW.out]; rfl, bel9 HB.out GE4.out (.int .i64 3) (.string a0) (.int .i64 a1) (.int .i64 v) (.int .i64 0) (.int .i64 0) (.int .i64 0) (.int .i64 0) (.int .i64 0)⟩
  ·have g2b : decide ((a0.size : Int) > 1) = false := yM (by omega)
   have g2c : decide (1 < (a0.size : Int)) = false := g2b
   have g2d : decide (1 < a0.size) = false := yM (by omega)
   have HW := yA (show rnums true v b2 v2 a0 n a1 = (3, a0, a1, v, 0, 0, 0, 0, 0, 0, 0) by unfold rnums; rw [if_pos rfl, if_neg (by rintro (h | h); exact g1 h; exact g2 h.1)])
   have hcz4_0 : World.cell? _ ⟨gb4, 0, none⟩ = some (.int .i64 0) := (yR BK4.out 0).trans rfl
   have hfz4_0 := yS BK4.out 0
   have hcz4_1 : World.cell? _ ⟨gb4, 1, none⟩ = some (.string (⟨#[]⟩ : ByteArray)) := (yR BK4.out 1).trans rfl
   have hfz4_1 := yS BK4.out 1
   have hcz4_2 : World.cell? _ ⟨gb4, 2, none⟩ = some (.int .i64 0) := (yR BK4.out 2).trans rfl
   have hfz4_2 := yS BK4.out 2
   have hcz4_3 : World.cell? _ ⟨gb4, 3, none⟩ = some (.int .i64 0) := (yR BK4.out 3).trans rfl
   have hfz4_3 := yS BK4.out 3
   have hcz4_4 : World.cell? _ ⟨gb4, 4, none⟩ = some (.int .i64 0) := (yR BK4.out 4).trans rfl
   have hfz4_4 := yS BK4.out 4
   have hcz4_5 : World.cell? _ ⟨gb4, 5, none⟩ = some (.int .i64 0) := (yR BK4.out 5).trans rfl
   have hfz4_5 := yS BK4.out 5
   have hcz4_6 : World.cell? _ ⟨gb4, 6, none⟩ = some (.int .i64 0) := (yR BK4.out 6).trans rfl
   have hfz4_6 := yS BK4.out 6
   have hcz4_7 : World.cell? _ ⟨gb4, 7, none⟩ = some (.int .i64 0) := (yR BK4.out 7).trans rfl
   have hfz4_7 := yS BK4.out 7
   have hcz4_8 : World.cell? _ ⟨gb4, 8, none⟩ = some (.int .i64 0) := (yR BK4.out 8).trans rfl
   have hfz4_8 := yS BK4.out 8
   have hcz7_0 : World.cell? _ ⟨gb7, 0, none⟩ = some (.int .i64 3) := (yR BK7.out 0).trans rfl
   have hfz7_0 := yS BK7.out 0
   have hcz7_1 : World.cell? _ ⟨gb7, 1, none⟩ = some (.string a0) := (yR BK7.out 1).trans rfl
   have hfz7_1 := yS BK7.out 1
   have hcz7_2 : World.cell? _ ⟨gb7, 2, none⟩ = some (.int .i64 a1) := (yR BK7.out 2).trans rfl
   have hfz7_2 := yS BK7.out 2
   have hcz7_3 : World.cell? _ ⟨gb7, 3, none⟩ = some (.int .i64 v) := (yR BK7.out 3).trans rfl
   have hfz7_3 := yS BK7.out 3
   have hcz7_4 : World.cell? _ ⟨gb7, 4, none⟩ = some (.int .i64 0) := (yR BK7.out 4).trans rfl
   have hfz7_4 := yS BK7.out 4
   have hcz7_5 : World.cell? _ ⟨gb7, 5, none⟩ = some (.int .i64 0) := (yR BK7.out 5).trans rfl
   have hfz7_5 := yS BK7.out 5
   have hcz7_6 : World.cell? _ ⟨gb7, 6, none⟩ = some (.int .i64 0) := (yR BK7.out 6).trans rfl
   have hfz7_6 := yS BK7.out 6
   have hcz7_7 : World.cell? _ ⟨gb7, 7, none⟩ = some (.int .i64 0) := (yR BK7.out 7).trans rfl
   have hfz7_7 := yS BK7.out 7
   have hcz7_8 : World.cell? _ ⟨gb7, 8, none⟩ = some (.int .i64 0) := (yR BK7.out 8).trans rfl
   have hfz7_8 := yS BK7.out 8
   go_wp2
   refine bodyPost_ret (results_ctt rfl _ _ gb4 32 #[.int .i64 3, .string a0, .int .i64 a1, .int .i64 v, .int .i64 0, .int .i64 0, .int .i64 0, .int .i64 0, .int .i64 0] (0, 0) _ rfl (put9 BK4.out (.int .i64 3) (.string a0) (.int .i64 a1) (.int .i64 v) (.int .i64 0) (.int .i64 0) (.int .i64 0) (.int .i64 0) (.int .i64 0)) Tryd.underlying32 rfl (by kernel_rfl)) rfl ?_
   exact ⟨by rw [HW.out]; rfl, bel9 HB.out GE4.out (.int .i64 3) (.string a0) (.int .i64 a1) (.int .i64 v) (.int .i64 0) (.int .i64 0) (.int .i64 0) (.int .i64 0) (.int .i64 0)⟩
 | false =>
  have hw : wrap64 ((a0.size : Int) - 1) = (n : Int) := by rw [w64 (by have := HS.out; have := H0.out; omega)]; have := H0.out; omega
  have e0 : (0 ≤ (n : Int)) = True := eq_true (by omega)
  have e1 : ((n : Int) ≤ (a0.size : Int)) = True := eq_true (by have := H0.out; omega)
  have e2 : (n ≤ a0.size) = True := eq_true (by have := H0.out; omega)
  go_upto_region 10 with (first | ((with_reducible refine yO (f := 60) rfl ?_); (try (refine gate_guard (by rfl) ?_; dsimp only)); refine goesL_ (some 42) rfl rfl Tryd.func60 (by kernel_rfl) rfl #[.string (a0.extract 0 n)] rfl (by (try simp only [List.map_toArray, List.map_cons, List.map_nil]); first | done | rfl) ?_; refine (rdigits_any H3.out _).mono ?_; rintro e wa ⟨rfl, hb⟩; refine ⟨_, rfl, ?_⟩; replace HB := yA (yB HB.out hb); replace BK4 := yA (yC BK4.out hb); replace BK7 := yA (yC BK7.out hb); clear hb))
  cases b2 with
  | false =>
   have HW := yA (show rnums false v false v2 a0 n a1 = errAt a1 62 by unfold rnums; rw [if_neg (by decide), if_pos (by exact Or.inl rfl)])
   have hcz4_0 : World.cell? _ ⟨gb4, 0, none⟩ = some (.int .i64 0) := (yR BK4.out 0).trans rfl
   have hfz4_0 := yS BK4.out 0
   have hcz4_1 : World.cell? _ ⟨gb4, 1, none⟩ = some (.string (⟨#[]⟩ : ByteArray)) := (yR BK4.out 1).trans rfl
   have hfz4_1 := yS BK4.out 1
   have hcz4_2 : World.cell? _ ⟨gb4, 2, none⟩ = some (.int .i64 0) := (yR BK4.out 2).trans rfl
   have hfz4_2 := yS BK4.out 2
   have hcz4_3 : World.cell? _ ⟨gb4, 3, none⟩ = some (.int .i64 0) := (yR BK4.out 3).trans rfl
   have hfz4_3 := yS BK4.out 3
   have hcz4_4 : World.cell? _ ⟨gb4, 4, none⟩ = some (.int .i64 0) := (yR BK4.out 4).trans rfl
   have hfz4_4 := yS BK4.out 4
   have hcz4_5 : World.cell? _ ⟨gb4, 5, none⟩ = some (.int .i64 0) := (yR BK4.out 5).trans rfl
   have hfz4_5 := yS BK4.out 5
   have hcz4_6 : World.cell? _ ⟨gb4, 6, none⟩ = some (.int .i64 0) := (yR BK4.out 6).trans rfl
   have hfz4_6 := yS BK4.out 6
   have hcz4_7 : World.cell? _ ⟨gb4, 7, none⟩ = some (.int .i64 0) := (yR BK4.out 7).trans rfl
   have hfz4_7 := yS BK4.out 7
   have hcz4_8 : World.cell? _ ⟨gb4, 8, none⟩ = some (.int .i64 0) := (yR BK4.out 8).trans rfl
   have hfz4_8 := yS BK4.out 8
   go_wp2
   refine bodyPost_ret (results_ctt rfl _ _ gb4 32 #[.int .i64 0, .string (⟨#[]⟩ : ByteArray), .int .i64 0, .int .i64 0, .int .i64 0, .int .i64 0, .int .i64 0, .int .i64 0, .int .i64 0] (0, 0) _ rfl (put9 BK4.out (.int .i64 0) (.string (⟨#[]⟩ : ByteArray)) (.int .i64 0) (.int .i64 0) (.int .i64 0) (.int .i64 0) (.int .i64 0) (.int .i64 0) (.int .i64 0)) Tryd.underlying32 rfl (by kernel_rfl)) rfl ?_
   exact ⟨by rw [HW.out]; rfl, bel9 HB.out GE4.out (.int .i64 0) (.string (⟨#[]⟩ : ByteArray)) (.int .i64 0) (.int .i64 0) (.int .i64 0) (.int .i64 0) (.int .i64 0) (.int .i64 0) (.int .i64 0)⟩
  | true =>
   by_cases g1 : 3 < n
   ·have g1b : decide ((n : Int) > 3) = true := yL (by omega)
    have g1c : decide (3 < (n : Int)) = true := g1b
    have g1d : decide (3 < n) = true := yL g1
    have HW := yA (show rnums false v true v2 a0 n a1 = errAt a1 62 by unfold rnums; rw [if_neg (by decide), if_pos (by exact Or.inr (Or.inl g1))])
    have hcz4_0 : World.cell? _ ⟨gb4, 0, none⟩ = some (.int .i64 0) := (yR BK4.out 0).trans rfl
    have hfz4_0 := yS BK4.out 0
    have hcz4_1 : World.cell? _ ⟨gb4, 1, none⟩ = some (.string (⟨#[]⟩ : ByteArray)) := (yR BK4.out 1).trans rfl
    have hfz4_1 := yS BK4.out 1
    have hcz4_2 : World.cell? _ ⟨gb4, 2, none⟩ = some (.int .i64 0) := (yR BK4.out 2).trans rfl
    have hfz4_2 := yS BK4.out 2
    have hcz4_3 : World.cell? _ ⟨gb4, 3, none⟩ = some (.int .i64 0) := (yR BK4.out 3).trans rfl
    have hfz4_3 := yS BK4.out 3
    have hcz4_4 : World.cell? _ ⟨gb4, 4, none⟩ = some (.int .i64 0) := (yR BK4.out 4).trans rfl
    have hfz4_4 := yS BK4.out 4
    have hcz4_5 : World.cell? _ ⟨gb4, 5, none⟩ = some (.int .i64 0) := (yR BK4.out 5).trans rfl
    have hfz4_5 := yS BK4.out 5
    have hcz4_6 : World.cell? _ ⟨gb4, 6, none⟩ = some (.int .i64 0) := (yR BK4.out 6).trans rfl
    have hfz4_6 := yS BK4.out 6
    have hcz4_7 : World.cell? _ ⟨gb4, 7, none⟩ = some (.int .i64 0) := (yR BK4.out 7).trans rfl
    have hfz4_7 := yS BK4.out 7
    have hcz4_8 : World.cell? _ ⟨gb4, 8, none⟩ = some (.int .i64 0) := (yR BK4.out 8).trans rfl
    have hfz4_8 := yS BK4.out 8
    go_wp2
    refine bodyPost_ret (results_ctt rfl _ _ gb4 32 #[.int .i64 0, .string (⟨#[]⟩ : ByteArray), .int .i64 0, .int .i64 0, .int .i64 0, .int .i64 0, .int .i64 0, .int .i64 0, .int .i64 0] (0, 0) _ rfl (put9 BK4.out (.int .i64 0) (.string (⟨#[]⟩ : ByteArray)) (.int .i64 0) (.int .i64 0) (.int .i64 0) (.int .i64 0) (.int .i64 0) (.int .i64 0) (.int .i64 0)) Tryd.underlying32 rfl (by kernel_rfl)) rfl ?_
    exact ⟨by rw [HW.out]; rfl, bel9 HB.out GE4.out (.int .i64 0) (.string (⟨#[]⟩ : ByteArray)) (.int .i64 0) (.int .i64 0) (.int .i64 0) (.int .i64 0) (.int .i64 0) (.int .i64 0) (.int .i64 0)⟩
   have g1b : decide ((n : Int) > 3) = false := yM (by omega)
   have g1c : decide (3 < (n : Int)) = false := g1b
   have g1d : decide (3 < n) = false := yM g1
   by_cases g2 : bt a0 0 = 48
   ·have g2b : (bt a0 0 == 48) = true := beq_iff_eq.mpr g2
    have HW := yA (show rnums false v true v2 a0 n a1 = errAt a1 62 by unfold rnums; rw [if_neg (by decide), if_pos (by exact Or.inr (Or.inr (Or.inl g2)))])
    have hcz4_0 : World.cell? _ ⟨gb4, 0, none⟩ = some (.int .i64 0) := (yR BK4.out 0).trans rfl
    have hfz4_0 := yS BK4.out 0
    have hcz4_1 : World.cell? _ ⟨gb4, 1, none⟩ = some (.string (⟨#[]⟩ : ByteArray)) := (yR BK4.out 1).trans rfl
    have hfz4_1 := yS BK4.out 1
    have hcz4_2 : World.cell? _ ⟨gb4, 2, none⟩ = some (.int .i64 0) := (yR BK4.out 2).trans rfl
    have hfz4_2 := yS BK4.out 2
    have hcz4_3 : World.cell? _ ⟨gb4, 3, none⟩ = some (.int .i64 0) := (yR BK4.out 3).trans rfl
    have hfz4_3 := yS BK4.out 3
    have hcz4_4 : World.cell? _ ⟨gb4, 4, none⟩ = some (.int .i64 0) := (yR BK4.out 4).trans rfl
    have hfz4_4 := yS BK4.out 4
    have hcz4_5 : World.cell? _ ⟨gb4, 5, none⟩ = some (.int .i64 0) := (yR BK4.out 5).trans rfl
    have hfz4_5 := yS BK4.out 5
    have hcz4_6 : World.cell? _ ⟨gb4, 6, none⟩ = some (.int .i64 0) := (yR BK4.out 6).trans rfl
    have hfz4_6 := yS BK4.out 6
    have hcz4_7 : World.cell? _ ⟨gb4, 7, none⟩ = some (.int .i64 0) := (yR BK4.out 7).trans rfl
    have hfz4_7 := yS BK4.out 7
    have hcz4_8 : World.cell? _ ⟨gb4, 8, none⟩ = some (.int .i64 0) := (yR BK4.out 8).trans rfl
    have hfz4_8 := yS BK4.out 8
    go_wp2
    refine bodyPost_ret (results_ctt rfl _ _ gb4 32 #[.int .i64 0, .string (⟨#[]⟩ : ByteArray), .int .i64 0, .int .i64 0, .int .i64 0, .int .i64 0, .int .i64 0, .int .i64 0, .int .i64 0] (0, 0) _ rfl (put9 BK4.out (.int .i64 0) (.string (⟨#[]⟩ : ByteArray)) (.int .i64 0) (.int .i64 0) (.int .i64 0) (.int .i64 0) (.int .i64 0) (.int .i64 0) (.int .i64 0)) Tryd.underlying32 rfl (by kernel_rfl)) rfl ?_
    exact ⟨by rw [HW.out]; rfl, bel9 HB.out GE4.out (.int .i64 0) (.string (⟨#[]⟩ : ByteArray)) (.int .i64 0) (.int .i64 0) (.int .i64 0) (.int .i64 0) (.int .i64 0) (.int .i64 0) (.int .i64 0)⟩
   have g2b : (bt a0 0 == 48) = false := beq_eq_false_iff_ne.mpr g2
   go_upto_region 12 with (fail)
   have hcz7_0 : World.cell? _ ⟨gb7, 0, none⟩ = some (.int .i64 3) := (yR BK7.out 0).trans rfl; have hfz7_0 := yS BK7.out 0
   go_upto_region 13 with (fail)
   clear hcz7_0 hfz7_0
   have m0_ := blk_put (cs' := #[.int .i64 5, .string a0, .int .i64 a1, .int .i64 0, .int .i64 0, .int .i64 0, .int .i64 0, .int .i64 0, .int .i64 0]) BK7.out 0 (.int .i64 5) rfl
   have m1_ := blk_far (p := ⟨gb7, 0, none⟩) BK4.out NE.out (.int .i64 5)
   have m2_ := yJ (j := 0) (v := .int .i64 5) HB.out GE7.out
   generalize World.setCell _ _ _ = wn at m0_ m1_ m2_ ⊢
   clear BK4 BK7 HB
   have BK7 := yA m0_
   have BK4 := yA m1_
   have HB := yA m2_
   clear m0_ m1_ m2_
   go_upto_region 14 with (first | ((with_reducible refine yO (f := 41) rfl ?_); (try (refine gate_guard (by rfl) ?_; dsimp only)); refine goesL_ (some 60) rfl rfl Tryd.func41 (by kernel_rfl) rfl #[.string (a0.extract 0 n)] rfl (by (try simp only [List.map_toArray, List.map_cons, List.map_nil]); first | done | rfl) ?_; refine (rnumber_any H4.out _).mono ?_; rintro e wb ⟨rfl, hb⟩; refine ⟨_, rfl, ?_⟩; replace HB := yA (yB HB.out hb); replace BK4 := yA (yC BK4.out hb); replace BK7 := yA (yC BK7.out hb); clear hb; have hcz7_7 : World.cell? _ ⟨gb7, 7, none⟩ = some (.int .i64 0) := (yR BK7.out 7).trans rfl; have hfz7_7 := yS BK7.out 7))
   clear hcz7_7 hfz7_7
   have m0_ := blk_put (cs' := #[.int .i64 5, .string a0, .int .i64 a1, .int .i64 0, .int .i64 0, .int .i64 0, .int .i64 0, .int .i64 v2, .int .i64 0]) BK7.out 7 (.int .i64 v2) rfl
   have m1_ := blk_far (p := ⟨gb7, 7, none⟩) BK4.out NE.out (.int .i64 v2)
   have m2_ := yJ (j := 7) (v := .int .i64 v2) HB.out GE7.out
   generalize World.setCell _ _ _ = wn at m0_ m1_ m2_ ⊢
   clear BK4 BK7 HB
   have BK7 := yA m0_
   have BK4 := yA m1_
   have HB := yA m2_
   clear m0_ m1_ m2_
   have e3 : ((n : Int) < (a0.size : Int)) = True := eq_true (by have := H0.out; omega)
   have e4 : (n < a0.size) = True := eq_true (by have := H0.out; omega)
   have hxn : ∀ h : n < a0.size, ((a0[n]'h).toNat : Int) = bt a0 (n : Int) := fun h => bt_at a0 (n : Int) h
   obtain ⟨c, hc⟩ : ∃ c, bt a0 (n : Int) = c := ⟨_, rfl⟩
   rw [hc] at hxn
   have HC := yA hc
   clear hc
   by_cases k0 : c = 100
   ·have k0b : (c == 100) = true := beq_iff_eq.mpr k0
    have HU := yA (show unitOf c = 1 by subst k0; rfl)
    clear k0
    have HW := yA (show rnums false v true v2 a0 n a1 = (5, a0, a1, 0, 0, 0, 0, v2, 1, 0, 0) by unfold rnums; rw [if_neg (by decide), HC.out, HU.out, if_neg (by rintro (h | h | h | h); cases h; exact g1 h; exact g2 h; exact absurd h (by decide))])
    go_upto_region 17 with (fail)
    have hcz7_8 : World.cell? _ ⟨gb7, 8, none⟩ = some (.int .i64 0) := (yR BK7.out 8).trans rfl; have hfz7_8 := yS BK7.out 8
    go_upto_region 24 with (fail)
    clear hcz7_8 hfz7_8
    have m0_ := blk_put (cs' := #[.int .i64 5, .string a0, .int .i64 a1, .int .i64 0, .int .i64 0, .int .i64 0, .int .i64 0, .int .i64 v2, .int .i64 1]) BK7.out 8 (.int .i64 1) rfl
    have m1_ := blk_far (p := ⟨gb7, 8, none⟩) BK4.out NE.out (.int .i64 1)
    have m2_ := yJ (j := 8) (v := .int .i64 1) HB.out GE7.out
    generalize World.setCell _ _ _ = wn at m0_ m1_ m2_ ⊢
    clear BK4 BK7 HB
    have BK7 := yA m0_
    have BK4 := yA m1_
    have HB := yA m2_
    clear m0_ m1_ m2_
    have hcz4_0 : World.cell? _ ⟨gb4, 0, none⟩ = some (.int .i64 0) := (yR BK4.out 0).trans rfl
    have hfz4_0 := yS BK4.out 0
    have hcz4_1 : World.cell? _ ⟨gb4, 1, none⟩ = some (.string (⟨#[]⟩ : ByteArray)) := (yR BK4.out 1).trans rfl
    have hfz4_1 := yS BK4.out 1
    have hcz4_2 : World.cell? _ ⟨gb4, 2, none⟩ = some (.int .i64 0) := (yR BK4.out 2).trans rfl
    have hfz4_2 := yS BK4.out 2
    have hcz4_3 : World.cell? _ ⟨gb4, 3, none⟩ = some (.int .i64 0) := (yR BK4.out 3).trans rfl
    have hfz4_3 := yS BK4.out 3
    have hcz4_4 : World.cell? _ ⟨gb4, 4, none⟩ = some (.int .i64 0) := (yR BK4.out 4).trans rfl
    have hfz4_4 := yS BK4.out 4
    have hcz4_5 : World.cell? _ ⟨gb4, 5, none⟩ = some (.int .i64 0) := (yR BK4.out 5).trans rfl
    have hfz4_5 := yS BK4.out 5
    have hcz4_6 : World.cell? _ ⟨gb4, 6, none⟩ = some (.int .i64 0) := (yR BK4.out 6).trans rfl
    have hfz4_6 := yS BK4.out 6
    have hcz4_7 : World.cell? _ ⟨gb4, 7, none⟩ = some (.int .i64 0) := (yR BK4.out 7).trans rfl
    have hfz4_7 := yS BK4.out 7
    have hcz4_8 : World.cell? _ ⟨gb4, 8, none⟩ = some (.int .i64 0) := (yR BK4.out 8).trans rfl
    have hfz4_8 := yS BK4.out 8
    have hcz7_0 : World.cell? _ ⟨gb7, 0, none⟩ = some (.int .i64 5) := (yR BK7.out 0).trans rfl
    have hfz7_0 := yS BK7.out 0
    have hcz7_1 : World.cell? _ ⟨gb7, 1, none⟩ = some (.string a0) := (yR BK7.out 1).trans rfl
    have hfz7_1 := yS BK7.out 1
    have hcz7_2 : World.cell? _ ⟨gb7, 2, none⟩ = some (.int .i64 a1) := (yR BK7.out 2).trans rfl
    have hfz7_2 := yS BK7.out 2
    have hcz7_3 : World.cell? _ ⟨gb7, 3, none⟩ = some (.int .i64 0) := (yR BK7.out 3).trans rfl
    have hfz7_3 := yS BK7.out 3
    have hcz7_4 : World.cell? _ ⟨gb7, 4, none⟩ = some (.int .i64 0) := (yR BK7.out 4).trans rfl
    have hfz7_4 := yS BK7.out 4
    have hcz7_5 : World.cell? _ ⟨gb7, 5, none⟩ = some (.int .i64 0) := (yR BK7.out 5).trans rfl
    have hfz7_5 := yS BK7.out 5
    have hcz7_6 : World.cell? _ ⟨gb7, 6, none⟩ = some (.int .i64 0) := (yR BK7.out 6).trans rfl
    have hfz7_6 := yS BK7.out 6
    have hcz7_7 : World.cell? _ ⟨gb7, 7, none⟩ = some (.int .i64 v2) := (yR BK7.out 7).trans rfl
    have hfz7_7 := yS BK7.out 7
    have hcz7_8 : World.cell? _ ⟨gb7, 8, none⟩ = some (.int .i64 1) := (yR BK7.out 8).trans rfl
    have hfz7_8 := yS BK7.out 8
    go_wp2
    refine bodyPost_ret (results_ctt rfl _ _ gb4 32 #[.int .i64 5, .string a0, .int .i64 a1, .int .i64 0, .int .i64 0, .int .i64 0, .int .i64 0, .int .i64 v2, .int .i64 1] (0, 0) _ rfl (put9 BK4.out (.int .i64 5) (.string a0) (.int .i64 a1) (.int .i64 0) (.int .i64 0) (.int .i64 0) (.int .i64 0) (.int .i64 v2) (.int .i64 1)) Tryd.underlying32 rfl (by kernel_rfl)) rfl ?_
    exact ⟨by rw [HW.out]; rfl, bel9 HB.out GE4.out (.int .i64 5) (.string a0) (.int .i64 a1) (.int .i64 0) (.int .i64 0) (.int .i64 0) (.int .i64 0) (.int .i64 v2) (.int .i64 1)⟩
   have k0b : (c == 100) = false := beq_eq_false_iff_ne.mpr k0
   by_cases k1 : c = 119
   ·have k1b : (c == 119) = true := beq_iff_eq.mpr k1
    have HU := yA (show unitOf c = 2 by subst k1; rfl)
    clear k1
    have HW := yA (show rnums false v true v2 a0 n a1 = (5, a0, a1, 0, 0, 0, 0, v2, 2, 0, 0) by unfold rnums; rw [if_neg (by decide), HC.out, HU.out, if_neg (by rintro (h | h | h | h); cases h; exact g1 h; exact g2 h; exact absurd h (by decide))])
    go_upto_region 19 with (fail)
    have hcz7_8 : World.cell? _ ⟨gb7, 8, none⟩ = some (.int .i64 0) := (yR BK7.out 8).trans rfl; have hfz7_8 := yS BK7.out 8
    go_upto_region 24 with (fail)
    clear hcz7_8 hfz7_8
    have m0_ := blk_put (cs' := #[.int .i64 5, .string a0, .int .i64 a1, .int .i64 0, .int .i64 0, .int .i64 0, .int .i64 0, .int .i64 v2, .int .i64 2]) BK7.out 8 (.int .i64 2) rfl
    have m1_ := blk_far (p := ⟨gb7, 8, none⟩) BK4.out NE.out (.int .i64 2)
    have m2_ := yJ (j := 8) (v := .int .i64 2) HB.out GE7.out
    generalize World.setCell _ _ _ = wn at m0_ m1_ m2_ ⊢
    clear BK4 BK7 HB
    have BK7 := yA m0_
    have BK4 := yA m1_
    have HB := yA m2_
    clear m0_ m1_ m2_
    have hcz4_0 : World.cell? _ ⟨gb4, 0, none⟩ = some (.int .i64 0) := (yR BK4.out 0).trans rfl
    have hfz4_0 := yS BK4.out 0
    have hcz4_1 : World.cell? _ ⟨gb4, 1, none⟩ = some (.string (⟨#[]⟩ : ByteArray)) := (yR BK4.out 1).trans rfl
    have hfz4_1 := yS BK4.out 1
    have hcz4_2 : World.cell? _ ⟨gb4, 2, none⟩ = some (.int .i64 0) := (yR BK4.out 2).trans rfl
    have hfz4_2 := yS BK4.out 2
    have hcz4_3 : World.cell? _ ⟨gb4, 3, none⟩ = some (.int .i64 0) := (yR BK4.out 3).trans rfl
    have hfz4_3 := yS BK4.out 3
    have hcz4_4 : World.cell? _ ⟨gb4, 4, none⟩ = some (.int .i64 0) := (yR BK4.out 4).trans rfl
    have hfz4_4 := yS BK4.out 4
    have hcz4_5 : World.cell? _ ⟨gb4, 5, none⟩ = some (.int .i64 0) := (yR BK4.out 5).trans rfl
    have hfz4_5 := yS BK4.out 5
    have hcz4_6 : World.cell? _ ⟨gb4, 6, none⟩ = some (.int .i64 0) := (yR BK4.out 6).trans rfl
    have hfz4_6 := yS BK4.out 6
    have hcz4_7 : World.cell? _ ⟨gb4, 7, none⟩ = some (.int .i64 0) := (yR BK4.out 7).trans rfl
    have hfz4_7 := yS BK4.out 7
    have hcz4_8 : World.cell? _ ⟨gb4, 8, none⟩ = some (.int .i64 0) := (yR BK4.out 8).trans rfl
    have hfz4_8 := yS BK4.out 8
    have hcz7_0 : World.cell? _ ⟨gb7, 0, none⟩ = some (.int .i64 5) := (yR BK7.out 0).trans rfl
    have hfz7_0 := yS BK7.out 0
    have hcz7_1 : World.cell? _ ⟨gb7, 1, none⟩ = some (.string a0) := (yR BK7.out 1).trans rfl
    have hfz7_1 := yS BK7.out 1
    have hcz7_2 : World.cell? _ ⟨gb7, 2, none⟩ = some (.int .i64 a1) := (yR BK7.out 2).trans rfl
    have hfz7_2 := yS BK7.out 2
    have hcz7_3 : World.cell? _ ⟨gb7, 3, none⟩ = some (.int .i64 0) := (yR BK7.out 3).trans rfl
    have hfz7_3 := yS BK7.out 3
    have hcz7_4 : World.cell? _ ⟨gb7, 4, none⟩ = some (.int .i64 0) := (yR BK7.out 4).trans rfl
    have hfz7_4 := yS BK7.out 4
    have hcz7_5 : World.cell? _ ⟨gb7, 5, none⟩ = some (.int .i64 0) := (yR BK7.out 5).trans rfl
    have hfz7_5 := yS BK7.out 5
    have hcz7_6 : World.cell? _ ⟨gb7, 6, none⟩ = some (.int .i64 0) := (yR BK7.out 6).trans rfl
    have hfz7_6 := yS BK7.out 6
    have hcz7_7 : World.cell? _ ⟨gb7, 7, none⟩ = some (.int .i64 v2) := (yR BK7.out 7).trans rfl
    have hfz7_7 := yS BK7.out 7
    have hcz7_8 : World.cell? _ ⟨gb7, 8, none⟩ = some (.int .i64 2) := (yR BK7.out 8).trans rfl
    have hfz7_8 := yS BK7.out 8
    go_wp2
    refine bodyPost_ret (results_ctt rfl _ _ gb4 32 #[.int .i64 5, .string a0, .int .i64 a1, .int .i64 0, .int .i64 0, .int .i64 0, .int .i64 0, .int .i64 v2, .int .i64 2] (0, 0) _ rfl (put9 BK4.out (.int .i64 5) (.string a0) (.int .i64 a1) (.int .i64 0) (.int .i64 0) (.int .i64 0) (.int .i64 0) (.int .i64 v2) (.int .i64 2)) Tryd.underlying32 rfl (by kernel_rfl)) rfl ?_
    exact ⟨by rw [HW.out]; rfl, bel9 HB.out GE4.out (.int .i64 5) (.string a0) (.int .i64 a1) (.int .i64 0) (.int .i64 0) (.int .i64 0) (.int .i64 0) (.int .i64 v2) (.int .i64 2)⟩
   have k1b : (c == 119) = false := beq_eq_false_iff_ne.mpr k1
   by_cases k2 : c = 109
   ·have k2b : (c == 109) = true := beq_iff_eq.mpr k2
    have HU := yA (show unitOf c = 3 by subst k2; rfl)
    clear k2
    have HW := yA (show rnums false v true v2 a0 n a1 = (5, a0, a1, 0, 0, 0, 0, v2, 3, 0, 0) by unfold rnums; rw [if_neg (by decide), HC.out, HU.out, if_neg (by rintro (h | h | h | h); cases h; exact g1 h; exact g2 h; exact absurd h (by decide))])
    go_upto_region 21 with (fail)
    have hcz7_8 : World.cell? _ ⟨gb7, 8, none⟩ = some (.int .i64 0) := (yR BK7.out 8).trans rfl; have hfz7_8 := yS BK7.out 8
    go_upto_region 24 with (fail)
    clear hcz7_8 hfz7_8
    have m0_ := blk_put (cs' := #[.int .i64 5, .string a0, .int .i64 a1, .int .i64 0, .int .i64 0, .int .i64 0, .int .i64 0, .int .i64 v2, .int .i64 3]) BK7.out 8 (.int .i64 3) rfl
    have m1_ := blk_far (p := ⟨gb7, 8, none⟩) BK4.out NE.out (.int .i64 3)
    have m2_ := yJ (j := 8) (v := .int .i64 3) HB.out GE7.out
    generalize World.setCell _ _ _ = wn at m0_ m1_ m2_ ⊢
    clear BK4 BK7 HB
    have BK7 := yA m0_
    have BK4 := yA m1_
    have HB := yA m2_
    clear m0_ m1_ m2_
    have hcz4_0 : World.cell? _ ⟨gb4, 0, none⟩ = some (.int .i64 0) := (yR BK4.out 0).trans rfl
    have hfz4_0 := yS BK4.out 0
    have hcz4_1 : World.cell? _ ⟨gb4, 1, none⟩ = some (.string (⟨#[]⟩ : ByteArray)) := (yR BK4.out 1).trans rfl
    have hfz4_1 := yS BK4.out 1
    have hcz4_2 : World.cell? _ ⟨gb4, 2, none⟩ = some (.int .i64 0) := (yR BK4.out 2).trans rfl
    have hfz4_2 := yS BK4.out 2
    have hcz4_3 : World.cell? _ ⟨gb4, 3, none⟩ = some (.int .i64 0) := (yR BK4.out 3).trans rfl
    have hfz4_3 := yS BK4.out 3
    have hcz4_4 : World.cell? _ ⟨gb4, 4, none⟩ = some (.int .i64 0) := (yR BK4.out 4).trans rfl
    have hfz4_4 := yS BK4.out 4
    have hcz4_5 : World.cell? _ ⟨gb4, 5, none⟩ = some (.int .i64 0) := (yR BK4.out 5).trans rfl
    have hfz4_5 := yS BK4.out 5
    have hcz4_6 : World.cell? _ ⟨gb4, 6, none⟩ = some (.int .i64 0) := (yR BK4.out 6).trans rfl
    have hfz4_6 := yS BK4.out 6
    have hcz4_7 : World.cell? _ ⟨gb4, 7, none⟩ = some (.int .i64 0) := (yR BK4.out 7).trans rfl
    have hfz4_7 := yS BK4.out 7
    have hcz4_8 : World.cell? _ ⟨gb4, 8, none⟩ = some (.int .i64 0) := (yR BK4.out 8).trans rfl
    have hfz4_8 := yS BK4.out 8
    have hcz7_0 : World.cell? _ ⟨gb7, 0, none⟩ = some (.int .i64 5) := (yR BK7.out 0).trans rfl
    have hfz7_0 := yS BK7.out 0
    have hcz7_1 : World.cell? _ ⟨gb7, 1, none⟩ = some (.string a0) := (yR BK7.out 1).trans rfl
    have hfz7_1 := yS BK7.out 1
    have hcz7_2 : World.cell? _ ⟨gb7, 2, none⟩ = some (.int .i64 a1) := (yR BK7.out 2).trans rfl
    have hfz7_2 := yS BK7.out 2
    have hcz7_3 : World.cell? _ ⟨gb7, 3, none⟩ = some (.int .i64 0) := (yR BK7.out 3).trans rfl
    have hfz7_3 := yS BK7.out 3
    have hcz7_4 : World.cell? _ ⟨gb7, 4, none⟩ = some (.int .i64 0) := (yR BK7.out 4).trans rfl
    have hfz7_4 := yS BK7.out 4
    have hcz7_5 : World.cell? _ ⟨gb7, 5, none⟩ = some (.int .i64 0) := (yR BK7.out 5).trans rfl
    have hfz7_5 := yS BK7.out 5
    have hcz7_6 : World.cell? _ ⟨gb7, 6, none⟩ = some (.int .i64 0) := (yR BK7.out 6).trans rfl
    have hfz7_6 := yS BK7.out 6
    have hcz7_7 : World.cell? _ ⟨gb7, 7, none⟩ = some (.int .i64 v2) := (yR BK7.out 7).trans rfl
    have hfz7_7 := yS BK7.out 7
    have hcz7_8 : World.cell? _ ⟨gb7, 8, none⟩ = some (.int .i64 3) := (yR BK7.out 8).trans rfl
    have hfz7_8 := yS BK7.out 8
    go_wp2
    refine bodyPost_ret (results_ctt rfl _ _ gb4 32 #[.int .i64 5, .string a0, .int .i64 a1, .int .i64 0, .int .i64 0, .int .i64 0, .int .i64 0, .int .i64 v2, .int .i64 3] (0, 0) _ rfl (put9 BK4.out (.int .i64 5) (.string a0) (.int .i64 a1) (.int .i64 0) (.int .i64 0) (.int .i64 0) (.int .i64 0) (.int .i64 v2) (.int .i64 3)) Tryd.underlying32 rfl (by kernel_rfl)) rfl ?_
    exact ⟨by rw [HW.out]; rfl, bel9 HB.out GE4.out (.int .i64 5) (.string a0) (.int .i64 a1) (.int .i64 0) (.int .i64 0) (.int .i64 0) (.int .i64 0) (.int .i64 v2) (.int .i64 3)⟩
   have k2b : (c == 109) = false := beq_eq_false_iff_ne.mpr k2
   by_cases k3 : c = 121
   ·have k3b : (c == 121) = true := beq_iff_eq.mpr k3
    have HU := yA (show unitOf c = 4 by subst k3; rfl)
    clear k3
    have HW := yA (show rnums false v true v2 a0 n a1 = (5, a0, a1, 0, 0, 0, 0, v2, 4, 0, 0) by unfold rnums; rw [if_neg (by decide), HC.out, HU.out, if_neg (by rintro (h | h | h | h); cases h; exact g1 h; exact g2 h; exact absurd h (by decide))])
    go_upto_region 23 with (fail)
    have hcz7_8 : World.cell? _ ⟨gb7, 8, none⟩ = some (.int .i64 0) := (yR BK7.out 8).trans rfl; have hfz7_8 := yS BK7.out 8
    go_upto_region 24 with (fail)
    clear hcz7_8 hfz7_8
    have m0_ := blk_put (cs' := #[.int .i64 5, .string a0, .int .i64 a1, .int .i64 0, .int .i64 0, .int .i64 0, .int .i64 0, .int .i64 v2, .int .i64 4]) BK7.out 8 (.int .i64 4) rfl
    have m1_ := blk_far (p := ⟨gb7, 8, none⟩) BK4.out NE.out (.int .i64 4)
    have m2_ := yJ (j := 8) (v := .int .i64 4) HB.out GE7.out
    generalize World.setCell _ _ _ = wn at m0_ m1_ m2_ ⊢
    clear BK4 BK7 HB
    have BK7 := yA m0_
    have BK4 := yA m1_
    have HB := yA m2_
    clear m0_ m1_ m2_
    have hcz4_0 : World.cell? _ ⟨gb4, 0, none⟩ = some (.int .i64 0) := (yR BK4.out 0).trans rfl
    have hfz4_0 := yS BK4.out 0
    have hcz4_1 : World.cell? _ ⟨gb4, 1, none⟩ = some (.string (⟨#[]⟩ : ByteArray)) := (yR BK4.out 1).trans rfl
    have hfz4_1 := yS BK4.out 1
    have hcz4_2 : World.cell? _ ⟨gb4, 2, none⟩ = some (.int .i64 0) := (yR BK4.out 2).trans rfl
    have hfz4_2 := yS BK4.out 2
    have hcz4_3 : World.cell? _ ⟨gb4, 3, none⟩ = some (.int .i64 0) := (yR BK4.out 3).trans rfl
    have hfz4_3 := yS BK4.out 3
    have hcz4_4 : World.cell? _ ⟨gb4, 4, none⟩ = some (.int .i64 0) := (yR BK4.out 4).trans rfl
    have hfz4_4 := yS BK4.out 4
    have hcz4_5 : World.cell? _ ⟨gb4, 5, none⟩ = some (.int .i64 0) := (yR BK4.out 5).trans rfl
    have hfz4_5 := yS BK4.out 5
    have hcz4_6 : World.cell? _ ⟨gb4, 6, none⟩ = some (.int .i64 0) := (yR BK4.out 6).trans rfl
    have hfz4_6 := yS BK4.out 6
    have hcz4_7 : World.cell? _ ⟨gb4, 7, none⟩ = some (.int .i64 0) := (yR BK4.out 7).trans rfl
    have hfz4_7 := yS BK4.out 7
    have hcz4_8 : World.cell? _ ⟨gb4, 8, none⟩ = some (.int .i64 0) := (yR BK4.out 8).trans rfl
    have hfz4_8 := yS BK4.out 8
    have hcz7_0 : World.cell? _ ⟨gb7, 0, none⟩ = some (.int .i64 5) := (yR BK7.out 0).trans rfl
    have hfz7_0 := yS BK7.out 0
    have hcz7_1 : World.cell? _ ⟨gb7, 1, none⟩ = some (.string a0) := (yR BK7.out 1).trans rfl
    have hfz7_1 := yS BK7.out 1
    have hcz7_2 : World.cell? _ ⟨gb7, 2, none⟩ = some (.int .i64 a1) := (yR BK7.out 2).trans rfl
    have hfz7_2 := yS BK7.out 2
    have hcz7_3 : World.cell? _ ⟨gb7, 3, none⟩ = some (.int .i64 0) := (yR BK7.out 3).trans rfl
    have hfz7_3 := yS BK7.out 3
    have hcz7_4 : World.cell? _ ⟨gb7, 4, none⟩ = some (.int .i64 0) := (yR BK7.out 4).trans rfl
    have hfz7_4 := yS BK7.out 4
    have hcz7_5 : World.cell? _ ⟨gb7, 5, none⟩ = some (.int .i64 0) := (yR BK7.out 5).trans rfl
    have hfz7_5 := yS BK7.out 5
    have hcz7_6 : World.cell? _ ⟨gb7, 6, none⟩ = some (.int .i64 0) := (yR BK7.out 6).trans rfl
    have hfz7_6 := yS BK7.out 6
    have hcz7_7 : World.cell? _ ⟨gb7, 7, none⟩ = some (.int .i64 v2) := (yR BK7.out 7).trans rfl
    have hfz7_7 := yS BK7.out 7
    have hcz7_8 : World.cell? _ ⟨gb7, 8, none⟩ = some (.int .i64 4) := (yR BK7.out 8).trans rfl
    have hfz7_8 := yS BK7.out 8
    go_wp2
    refine bodyPost_ret (results_ctt rfl _ _ gb4 32 #[.int .i64 5, .string a0, .int .i64 a1, .int .i64 0, .int .i64 0, .int .i64 0, .int .i64 0, .int .i64 v2, .int .i64 4] (0, 0) _ rfl (put9 BK4.out (.int .i64 5) (.string a0) (.int .i64 a1) (.int .i64 0) (.int .i64 0) (.int .i64 0) (.int .i64 0) (.int .i64 v2) (.int .i64 4)) Tryd.underlying32 rfl (by kernel_rfl)) rfl ?_
    exact ⟨by rw [HW.out]; rfl, bel9 HB.out GE4.out (.int .i64 5) (.string a0) (.int .i64 a1) (.int .i64 0) (.int .i64 0) (.int .i64 0) (.int .i64 0) (.int .i64 v2) (.int .i64 4)⟩
   have k3b : (c == 121) = false := beq_eq_false_iff_ne.mpr k3
   have HU := yA (show unitOf c = 0 by unfold unitOf; rw [if_neg k0, if_neg k1, if_neg k2, if_neg k3])
   clear k0 k1 k2 k3
   have HW := yA (show rnums false v true v2 a0 n a1 = errAt a1 62 by unfold rnums; rw [if_neg (by decide), if_pos (by rw [HC.out]; exact Or.inr (Or.inr (Or.inr HU.out)))])
   have hcz4_0 : World.cell? _ ⟨gb4, 0, none⟩ = some (.int .i64 0) := (yR BK4.out 0).trans rfl
   have hfz4_0 := yS BK4.out 0
   have hcz4_1 : World.cell? _ ⟨gb4, 1, none⟩ = some (.string (⟨#[]⟩ : ByteArray)) := (yR BK4.out 1).trans rfl
   have hfz4_1 := yS BK4.out 1
   have hcz4_2 : World.cell? _ ⟨gb4, 2, none⟩ = some (.int .i64 0) := (yR BK4.out 2).trans rfl
   have hfz4_2 := yS BK4.out 2
   have hcz4_3 : World.cell? _ ⟨gb4, 3, none⟩ = some (.int .i64 0) := (yR BK4.out 3).trans rfl
   have hfz4_3 := yS BK4.out 3
   have hcz4_4 : World.cell? _ ⟨gb4, 4, none⟩ = some (.int .i64 0) := (yR BK4.out 4).trans rfl
   have hfz4_4 := yS BK4.out 4
   have hcz4_5 : World.cell? _ ⟨gb4, 5, none⟩ = some (.int .i64 0) := (yR BK4.out 5).trans rfl
   have hfz4_5 := yS BK4.out 5
   have hcz4_6 : World.cell? _ ⟨gb4, 6, none⟩ = some (.int .i64 0) := (yR BK4.out 6).trans rfl
   have hfz4_6 := yS BK4.out 6
   have hcz4_7 : World.cell? _ ⟨gb4, 7, none⟩ = some (.int .i64 0) := (yR BK4.out 7).trans rfl
   have hfz4_7 := yS BK4.out 7
   have hcz4_8 : World.cell? _ ⟨gb4, 8, none⟩ = some (.int .i64 0) := (yR BK4.out 8).trans rfl
   have hfz4_8 := yS BK4.out 8
   go_wp2
   refine bodyPost_ret (results_ctt rfl _ _ gb4 32 #[.int .i64 0, .string (⟨#[]⟩ : ByteArray), .int .i64 0, .int .i64 0, .int .i64 0, .int .i64 0, .int .i64 0, .int .i64 0, .int .i64 0] (0, 0) _ rfl (put9 BK4.out (.int .i64 0) (.string (⟨#[]⟩ : ByteArray)) (.int .i64 0) (.int .i64 0) (.int .i64 0) (.int .i64 0) (.int .i64 0) (.int .i64 0) (.int .i64 0)) Tryd.underlying32 rfl (by kernel_rfl)) rfl ?_
   exact ⟨by rw [HW.out]; rfl, bel9 HB.out GE4.out (.int .i64 0) (.string (⟨#[]⟩ : ByteArray)) (.int .i64 0) (.int .i64 0) (.int .i64 0) (.int .i64 0) (.int .i64 0) (.int .i64 0) (.int .i64 0)⟩
end Go.Proofs.YtkfdninngcakpaaDoor.Pure
