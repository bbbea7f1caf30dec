/- Own text, for this claim: the reference's token (payoffref06) where no date stands, given what its callees answer. Printed by wip/tools/mkref6p.py. -/
import Derived.Test.YtkfdninngcakpaaDoorZRefTok
namespace Go.Proofs.YtkfdninngcakpaaDoor.Pure
open Go.RowKit Go.Proofs.YtkfdninngcakpaaDoor.PLex Go.Proofs.YtkfdninngcakpaaDoorW.PrintWords Go.Proofs.YtkfdninngcakpaaDoorW.PrintLast Go.Proofs.YtkfdninngcakpaaDoorW.PrintMore
set_option linter.unusedVariables false
set_option linter.unusedSimpArgs false
set_option maxHeartbeats 8000000 in
set_option maxRecDepth 100000 in
theorem tok_plain (x : ByteArray) (i : Int) (hd : ∃ k, payoffref06_dated.f k x i = some false) (s : ByteArray) (hs : ∃ k, payoffref06_run.f k x i = some s) (a1 : Int) (a2 : ByteArray) (a3 : Int) (a4 : Int) (a5 : Int) (a6 : Int) (a7 : Int) (a8 : Int) (a9 : Int) (a10 : Int) (a11 : Int) (b1 : Int) (b2 : ByteArray) (b3 : Int) (b4 : Int) (b5 : Int) (b6 : Int) (b7 : Int) (b8 : Int) (b9 : Int) (b10 : Int) (b11 : Int) (m : ByteArray) (hm : ∃ k, payoffref06_marks.f k x i = some m) (T : TokR)
  (hN : 0 < s.size → digitB (bt s 0) = true → T = (a1, a2, a3, a4, a5, a6, a7, a8, a9, a10, a11) ∧ ∀ w : World, Calls Tryd.prog 45 #[.string s, .int .i64 i] w fun e w' => e = .returned (.tuple #[.agg #[.int .i64 a1, .string a2, .int .i64 a3, .int .i64 a4, .int .i64 a5, .int .i64 a6, .int .i64 a7, .int .i64 a8, .int .i64 a9], .int .i64 a10, .int .i64 a11]) ∧ Below w.heap.size w w')
  (hM : 0 < s.size → digitB (bt s 0) = false → bt s 0 ≠ 95 → T = (b1, b2, b3, b4, b5, b6, b7, b8, b9, b10, b11) ∧ ∀ w : World, Calls Tryd.prog 46 #[.string s, .int .i64 i] w fun e w' => e = .returned (.tuple #[.agg #[.int .i64 b1, .string b2, .int .i64 b3, .int .i64 b4, .int .i64 b5, .int .i64 b6, .int .i64 b7, .int .i64 b8, .int .i64 b9], .int .i64 b10, .int .i64 b11]) ∧ Below w.heap.size w w')
  (hK : (0 < s.size → digitB (bt s 0) = false ∧ bt s 0 = 95) → T = if m.size = 0 then errAt i 61 else (6, m, i, 0, 0, 0, 0, 0, 0, 0, 0)) (w : World) : Calls Tryd.prog 23 #[.string x, .int .i64 i] w fun e w' => e = .returned (tokV T) ∧ Below w.heap.size w w' := by
 have hu32 := Tryd.underlying32
 have HB := yA (Below.refl w.heap.size w)
 have HD := yA hd
 have HS := yA hs
 have HMM := yA hm
 have HN := yA hN
 have HM := yA hM
 have HK := yA hK
 clear hd hs hm hN hM hK
 go_enter Tryd.func23, Tryd.ntmps23
 go_upto_region 9 with (first | ((with_reducible refine yP (N := 4) rfl ?_); refine yQ ?hg (N := 4) ?hd (cs := #[.int .i64 0, .string (⟨#[]⟩ : ByteArray), .int .i64 0, .int .i64 0, .int .i64 0, .int .i64 0, .int .i64 0, .int .i64 0, .int .i64 0]) (t := 32) ?hr ?_; (case hd => rfl); (case hg => rfl); (case hr => first | (go_simp; done) | (go_simp; rfl)); intro gb4 hg w2 hbox hb; have GE4 := yA (by rw [hg]; exact HB.out.size : w.heap.size ≤ gb4); replace HB := yA (yB HB.out hb); have BK4 := yA (hbox); clear hb hg hbox) | ((with_reducible refine yO (f := 40) rfl ?_); (try (refine gate_guard (by rfl) ?_; dsimp only)); refine goesL_ (some 13) rfl rfl Tryd.func40 (by kernel_rfl) rfl #[.string x, .int .i64 i] rfl (by (try simp only [List.map_toArray, List.map_cons, List.map_nil]); first | done | rfl) ?_; refine (rdated_any HD.out _).mono ?_; rintro e wa ⟨rfl, hb⟩; refine ⟨_, rfl, ?_⟩; replace HB := yA (yB HB.out hb); replace BK4 := yA (yC BK4.out hb); clear hb) | ((with_reducible refine yO (f := 43) rfl ?_); (try (refine gate_guard (by rfl) ?_; dsimp only)); refine goesL_ (some 90) rfl rfl Tryd.func43 (by kernel_rfl) rfl #[.string x, .int .i64 i] rfl (by (try simp only [List.map_toArray, List.map_cons, List.map_nil]); first | done | rfl) ?_; refine (rrun_any HS.out _).mono ?_; rintro e wb ⟨rfl, hb⟩; refine ⟨_, rfl, ?_⟩; replace HB := yA (yB HB.out hb); replace BK4 := yA (yC BK4.out hb); clear hb))
 by_cases k0 : 0 < s.size
 ·have n0 : (s.toList == ([] : List UInt8)) = false := beq_eq_false_iff_ne.mpr (fun h => by rw [ByteArray.toList_eq] at h; have := congrArg List.length h; rw [data_length] at this; exact absurd this (Nat.ne_of_gt k0))
  have n1 : (s.toList != ([] : List UInt8)) = true := by unfold bne; rw [n0]; rfl
  have q0 : ((0 : Int) < (s.size : Int)) = True := eq_true (by omega)
  have q00 : (0 < s.size) = True := eq_true k0
  have hx0 : ∀ h : 0 < s.size, ((s[0]'h).toNat : Int) = bt s 0 := bt_at s 0
  obtain ⟨dg, hdg⟩ : ∃ dg, digitB (bt s 0) = dg := ⟨_, rfl⟩
  have HDG := yA hdg
  clear hdg
  cases dg with
  | true =>
   obtain ⟨hW, hc⟩ := HN.out k0 HDG.out
   have HW := yA hW
   have HC := yA hc
   clear hW hc k0
   go_wp2_with (first | ((with_reducible refine yO (f := 44) rfl ?_); (try (refine gate_guard (by rfl) ?_; dsimp only)); refine goesL_ (some 96) rfl rfl Tryd.func44 (by kernel_rfl) rfl #[.int .u8 (bt s 0)] rfl (by (try simp only [List.map_toArray, List.map_cons, List.map_nil]); first | done | rfl) ?_; refine (rdigit_any _ _ HDG.out _).mono ?_; rintro e wd ⟨rfl, hb⟩; refine ⟨_, rfl, ?_⟩; replace HB := yA (yB HB.out hb); replace BK4 := yA (yC BK4.out hb); clear hb) | ((with_reducible refine yO (f := 45) rfl ?_); (try (refine gate_guard (by rfl) ?_; dsimp only)); refine goesL_ (some 100) rfl rfl Tryd.func45 (by kernel_rfl) rfl #[.string s, .int .i64 i] rfl (by (try simp only [List.map_toArray, List.map_cons, List.map_nil]); first | done | rfl) ?_; refine (HC.out _).mono ?_; rintro e we ⟨rfl, hb⟩; refine ⟨_, rfl, ?_⟩; replace HB := yA (yB HB.out hb); replace BK4 := yA (yC BK4.out hb); clear hb; have hcz4_0 : World.cell? _ ⟨gb4, 0, none⟩ = some (.int .i64 0) := (yR BK4.out 0).trans rfl; have hfz4_0 := yS BK4.out 0; have hcz4_1 : World.cell? _ ⟨gb4, 1, none⟩ = some (.string (⟨#[]⟩ : ByteArray)) := (yR BK4.out 1).trans rfl; have hfz4_1 := yS BK4.out 1; have hcz4_2 : World.cell? _ ⟨gb4, 2, none⟩ = some (.int .i64 0) := (yR BK4.out 2).trans rfl; have hfz4_2 := yS BK4.out 2; have hcz4_3 : World.cell? _ ⟨gb4, 3, none⟩ = some (.int .i64 0) := (yR BK4.out 3).trans rfl; have hfz4_3 := yS BK4.out 3; have hcz4_4 : World.cell? _ ⟨gb4, 4, none⟩ = some (.int .i64 0) := (yR BK4.out 4).trans rfl; have hfz4_4 := yS BK4.out 4; have hcz4_5 : World.cell? _ ⟨gb4, 5, none⟩ = some (.int .i64 0) := (yR BK4.out 5).trans rfl; have hfz4_5 := yS BK4.out 5; have hcz4_6 : World.cell? _ ⟨gb4, 6, none⟩ = some (.int .i64 0) := (yR BK4.out 6).trans rfl; have hfz4_6 := yS BK4.out 6; have hcz4_7 : World.cell? _ ⟨gb4, 7, none⟩ = some (.int .i64 0) := (yR BK4.out 7).trans rfl; have hfz4_7 := yS BK4.out 7; have hcz4_8 : World.cell? _ ⟨gb4, 8, none⟩ = some (.int .i64 0) := (yR BK4.out 8).trans rfl; have hfz4_8 := yS BK4.out 8))
   refine bodyPost_ret (results_ctt rfl _ _ gb4 32 #[.int .i64 a1, .string a2, .int .i64 a3, .int .i64 a4, .int .i64 a5, .int .i64 a6, .int .i64 a7, .int .i64 a8, .int .i64 a9] (0, 0) _ rfl (put9 BK4.out (.int .i64 a1) (.string a2) (.int .i64 a3) (.int .i64 a4) (.int .i64 a5) (.int .i64 a6) (.int .i64 a7) (.int .i64 a8) (.int .i64 a9)) Tryd.underlying32 rfl (by kernel_rfl)) rfl ?_
   exact ⟨by rw [HW.out]; rfl, bel9 HB.out GE4.out (.int .i64 a1) (.string a2) (.int .i64 a3) (.int .i64 a4) (.int .i64 a5) (.int .i64 a6) (.int .i64 a7) (.int .i64 a8) (.int .i64 a9)⟩
  | false =>
   by_cases k1 : bt s 0 = 95
   ·have k1a : (bt s 0 == 95) = true := beq_iff_eq.mpr k1
    have k1b : (bt s 0 != 95) = false := bne_eq_false_iff_eq.mpr k1
    have HW := yA (HK.out (fun _ => ⟨HDG.out, k1⟩))
    clear k0 k1
    go_upto_region 14 with (first | ((with_reducible refine yO (f := 44) rfl ?_); (try (refine gate_guard (by rfl) ?_; dsimp only)); refine goesL_ (some 96) rfl rfl Tryd.func44 (by kernel_rfl) rfl #[.int .u8 (bt s 0)] rfl (by (try simp only [List.map_toArray, List.map_cons, List.map_nil]); first | done | rfl) ?_; refine (rdigit_any _ _ HDG.out _).mono ?_; rintro e wd ⟨rfl, hb⟩; refine ⟨_, rfl, ?_⟩; replace HB := yA (yB HB.out hb); replace BK4 := yA (yC BK4.out hb); clear hb) | ((with_reducible refine yO (f := 47) rfl ?_); (try (refine gate_guard (by rfl) ?_; dsimp only)); refine goesL_ (some 119) rfl rfl Tryd.func47 (by kernel_rfl) rfl #[.string x, .int .i64 i] rfl (by (try simp only [List.map_toArray, List.map_cons, List.map_nil]); first | done | rfl) ?_; refine (rmarks_any HMM.out _).mono ?_; rintro e wc ⟨rfl, hb⟩; refine ⟨_, rfl, ?_⟩; replace HB := yA (yB HB.out hb); replace BK4 := yA (yC BK4.out hb); clear hb))
    by_cases km : m.size = 0
    ·have km0 : (m.toList == ([] : List UInt8)) = true := beq_iff_eq.mpr (by rw [ByteArray.toList_eq]; exact List.eq_nil_of_length_eq_zero (by rw [data_length]; exact km))
     rw [if_pos km] at HW
     clear km
     have hcz4_0 : World.cell? _ ⟨gb4, 0, none⟩ = some (.int .i64 0) := (yR BK4.out 0).trans rfl
     have hfz4_0 := yS BK4.out 0
     have hcz4_1 : World.cell? _ ⟨gb4, 1, none⟩ = some (.string (⟨#[]⟩ : ByteArray)) := (yR BK4.out 1).trans rfl
     have hfz4_1 := yS BK4.out 1
     have hcz4_2 : World.cell? _ ⟨gb4, 2, none⟩ = some (.int .i64 0) := (yR BK4.out 2).trans rfl
     have hfz4_2 := yS BK4.out 2
     have hcz4_3 : World.cell? _ ⟨gb4, 3, none⟩ = some (.int .i64 0) := (yR BK4.out 3).trans rfl
     have hfz4_3 := yS BK4.out 3
     have hcz4_4 : World.cell? _ ⟨gb4, 4, none⟩ = some (.int .i64 0) := (yR BK4.out 4).trans rfl
     have hfz4_4 := yS BK4.out 4
     have hcz4_5 : World.cell? _ ⟨gb4, 5, none⟩ = some (.int .i64 0) := (yR BK4.out 5).trans rfl
     have hfz4_5 := yS BK4.out 5
     have hcz4_6 : World.cell? _ ⟨gb4, 6, none⟩ = some (.int .i64 0) := (yR BK4.out 6).trans rfl
     have hfz4_6 := yS BK4.out 6
     have hcz4_7 : World.cell? _ ⟨gb4, 7, none⟩ = some (.int .i64 0) := (yR BK4.out 7).trans rfl
     have hfz4_7 := yS BK4.out 7
     have hcz4_8 : World.cell? _ ⟨gb4, 8, none⟩ = some (.int .i64 0) := (yR BK4.out 8).trans rfl
     have hfz4_8 := yS BK4.out 8
     go_wp2
     refine bodyPost_ret (results_ctt rfl _ _ gb4 32 #[.int .i64 0, .string (⟨#[]⟩ : ByteArray), .int .i64 0, .int .i64 0, .int .i64 0, .int .i64 0, .int .i64 0, .int .i64 0, .int .i64 0] (0, 0) _ rfl (put9 BK4.out (.int .i64 0) (.string (⟨#[]⟩ : ByteArray)) (.int .i64 0) (.int .i64 0) (.int .i64 0) (.int .i64 0) (.int .i64 0) (.int .i64 0) (.int .i64 0)) Tryd.underlying32 rfl (by kernel_rfl)) rfl ?_
     exact ⟨by rw [HW.out]; rfl, bel9 HB.out GE4.out (.int .i64 0) (.string (⟨#[]⟩ : ByteArray)) (.int .i64 0) (.int .i64 0) (.int .i64 0) (.int .i64 0) (.int .i64 0) (.int .i64 0) (.int .i64 0)⟩
    ·have km0 : (m.toList == ([] : List UInt8)) = false := beq_eq_false_iff_ne.mpr (fun h => km (by rw [ByteArray.toList_eq] at h; have := congrArg List.length h; rw [data_length] at this; exact this))
     rw [if_neg km] at HW
     clear km
     have hcz4_0 : World.cell? _ ⟨gb4, 0, none⟩ = some (.int .i64 0) := (yR BK4.out 0).trans rfl
     have hfz4_0 := yS BK4.out 0
     have hcz4_1 : World.cell? _ ⟨gb4, 1, none⟩ = some (.string (⟨#[]⟩ : ByteArray)) := (yR BK4.out 1).trans rfl
     have hfz4_1 := yS BK4.out 1
     have hcz4_2 : World.cell? _ ⟨gb4, 2, none⟩ = some (.int .i64 0) := (yR BK4.out 2).trans rfl
     have hfz4_2 := yS BK4.out 2
     have hcz4_3 : World.cell? _ ⟨gb4, 3, none⟩ = some (.int .i64 0) := (yR BK4.out 3).trans rfl
     have hfz4_3 := yS BK4.out 3
     have hcz4_4 : World.cell? _ ⟨gb4, 4, none⟩ = some (.int .i64 0) := (yR BK4.out 4).trans rfl
     have hfz4_4 := yS BK4.out 4
     have hcz4_5 : World.cell? _ ⟨gb4, 5, none⟩ = some (.int .i64 0) := (yR BK4.out 5).trans rfl
     have hfz4_5 := yS BK4.out 5
     have hcz4_6 : World.cell? _ ⟨gb4, 6, none⟩ = some (.int .i64 0) := (yR BK4.out 6).trans rfl
     have hfz4_6 := yS BK4.out 6
     have hcz4_7 : World.cell? _ ⟨gb4, 7, none⟩ = some (.int .i64 0) := (yR BK4.out 7).trans rfl
     have hfz4_7 := yS BK4.out 7
     have hcz4_8 : World.cell? _ ⟨gb4, 8, none⟩ = some (.int .i64 0) := (yR BK4.out 8).trans rfl
     have hfz4_8 := yS BK4.out 8
     go_wp2
     refine bodyPost_ret (results_ctt rfl _ _ gb4 32 #[.int .i64 6, .string m, .int .i64 i, .int .i64 0, .int .i64 0, .int .i64 0, .int .i64 0, .int .i64 0, .int .i64 0] (0, 0) _ rfl (put9 BK4.out (.int .i64 6) (.string m) (.int .i64 i) (.int .i64 0) (.int .i64 0) (.int .i64 0) (.int .i64 0) (.int .i64 0) (.int .i64 0)) Tryd.underlying32 rfl (by kernel_rfl)) rfl ?_
     exact ⟨by rw [HW.out]; rfl, bel9 HB.out GE4.out (.int .i64 6) (.string m) (.int .i64 i) (.int .i64 0) (.int .i64 0) (.int .i64 0) (.int .i64 0) (.int .i64 0) (.int .i64 0)⟩
   ·have k1a : (bt s 0 == 95) = false := beq_eq_false_iff_ne.mpr k1
    have k1b : (bt s 0 != 95) = true := bne_iff_ne.mpr k1
    obtain ⟨hW, hc⟩ := HM.out k0 HDG.out k1
    have HW := yA hW
    have HC := yA hc
    clear hW hc k0 k1
    go_wp2_with (first | ((with_reducible refine yO (f := 44) rfl ?_); (try (refine gate_guard (by rfl) ?_; dsimp only)); refine goesL_ (some 96) rfl rfl Tryd.func44 (by kernel_rfl) rfl #[.int .u8 (bt s 0)] rfl (by (try simp only [List.map_toArray, List.map_cons, List.map_nil]); first | done | rfl) ?_; refine (rdigit_any _ _ HDG.out _).mono ?_; rintro e wd ⟨rfl, hb⟩; refine ⟨_, rfl, ?_⟩; replace HB := yA (yB HB.out hb); replace BK4 := yA (yC BK4.out hb); clear hb) | ((with_reducible refine yO (f := 46) rfl ?_); (try (refine gate_guard (by rfl) ?_; dsimp only)); refine goesL_ (some 113) rfl rfl Tryd.func46 (by kernel_rfl) rfl #[.string s, .int .i64 i] rfl (by (try simp only [List.map_toArray, List.map_cons, List.map_nil]); first | done | rfl) ?_; refine (HC.out _).mono ?_; rintro e we ⟨rfl, hb⟩; refine ⟨_, rfl, ?_⟩; replace HB := yA (yB HB.out hb); replace BK4 := yA (yC BK4.out hb); clear hb; have hcz4_0 : World.cell? _ ⟨gb4, 0, none⟩ = some (.int .i64 0) := (yR BK4.out 0).trans rfl; have hfz4_0 := yS BK4.out 0; have hcz4_1 : World.cell? _ ⟨gb4, 1, none⟩ = some (.string (⟨#[]⟩ : ByteArray)) := (yR BK4.out 1).trans rfl; have hfz4_1 := yS BK4.out 1; have hcz4_2 : World.cell? _ ⟨gb4, 2, none⟩ = some (.int .i64 0) := (yR BK4.out 2).trans rfl; have hfz4_2 := yS BK4.out 2; have hcz4_3 : World.cell? _ ⟨gb4, 3, none⟩ = some (.int .i64 0) := (yR BK4.out 3).trans rfl; have hfz4_3 := yS BK4.out 3; have hcz4_4 : World.cell? _ ⟨gb4, 4, none⟩ = some (.int .i64 0) := (yR BK4.out 4).trans rfl; have hfz4_4 := yS BK4.out 4; have hcz4_5 : World.cell? _ ⟨gb4, 5, none⟩ = some (.int .i64 0) := (yR BK4.out 5).trans rfl; have hfz4_5 := yS BK4.out 5; have hcz4_6 : World.cell? _ ⟨gb4, 6, none⟩ = some (.int .i64 0) := (yR BK4.out 6).trans rfl; have hfz4_6 := yS BK4.out 6; have hcz4_7 : World.cell? _ ⟨gb4, 7, none⟩ = some (.int .i64 0) := (yR BK4.out 7).trans rfl; have hfz4_7 := yS BK4.out 7; have hcz4_8 : World.cell? _ ⟨gb4, 8, none⟩ = some (.int .i64 0) := (yR BK4.out 8).trans rfl; have hfz4_8 := yS BK4.out 8))
    refine bodyPost_ret (results_ctt rfl _ _ gb4 32 #[.int .i64 b1, .string b2, .int .i64 b3, .int .i64 b4, .int .i64 b5, .int .i64 b6, .int .i64 b7, .int .i64 b8, .int .i64 b9] (0, 0) _ rfl (put9 BK4.out (.int .i64 b1) (.string b2) (.int .i64 b3) (.int .i64 b4) (.int .i64 b5) (.int .i64 b6) (.int .i64 b7) (.int .i64 b8) (.int .i64 b9)) Tryd.underlying32 rfl (by kernel_rfl)) rfl ?_
    exact ⟨by rw [HW.out]; rfl, bel9 HB.out GE4.out (.int .i64 b1) (.string b2) (.int .i64 b3) (.int .i64 b4) (.int .i64 b5) (.int .i64 b6) (.int .i64 b7) (.int .i64 b8) (.int .i64 b9)⟩
 ·have n0 : (s.toList == ([] : List UInt8)) = true := beq_iff_eq.mpr (by rw [ByteArray.toList_eq]; exact List.eq_nil_of_length_eq_zero (by rw [data_length]; omega))
  have n1 : (s.toList != ([] : List UInt8)) = false := by unfold bne; rw [n0]; rfl
  have HW := yA (HK.out (fun h => absurd h k0))
  clear k0
  go_upto_region 14 with (first | ((with_reducible refine yO (f := 47) rfl ?_); (try (refine gate_guard (by rfl) ?_; dsimp only)); refine goesL_ (some 119) rfl rfl Tryd.func47 (by kernel_rfl) rfl #[.string x, .int .i64 i] rfl (by (try simp only [List.map_toArray, List.map_cons, List.map_nil]); first | done | rfl) ?_; refine (rmarks_any HMM.out _).mono ?_; rintro e wc ⟨rfl, hb⟩; refine ⟨_, rfl, ?_⟩; replace HB := yA (yB HB.out hb); replace BK4 := yA (yC BK4.out hb); clear hb))
  by_cases km : m.size = 0
  ·have km0 : (m.toList == ([] : List UInt8)) = true := beq_iff_eq.mpr (by rw [ByteArray.toList_eq]; exact List.eq_nil_of_length_eq_zero (by rw [data_length]; exact km))
   rw [if_pos km] at HW
   clear km
   have hcz4_0 : World.cell? _ ⟨gb4, 0, none⟩ = some (.int .i64 0) := (yR BK4.out 0).trans rfl
   have hfz4_0 := yS BK4.out 0
   have hcz4_1 : World.cell? _ ⟨gb4, 1, none⟩ = some (.string (⟨#[]⟩ : ByteArray)) := (yR BK4.out 1).trans rfl
   have hfz4_1 := yS BK4.out 1
   have hcz4_2 : World.cell? _ ⟨gb4, 2, none⟩ = some (.int .i64 0) := (yR BK4.out 2).trans rfl
   have hfz4_2 := yS BK4.out 2
   have hcz4_3 : World.cell? _ ⟨gb4, 3, none⟩ = some (.int .i64 0) := (yR BK4.out 3).trans rfl
   have hfz4_3 := yS BK4.out 3
   have hcz4_4 : World.cell? _ ⟨gb4, 4, none⟩ = some (.int .i64 0) := (yR BK4.out 4).trans rfl
   have hfz4_4 := yS BK4.out 4
   have hcz4_5 : World.cell? _ ⟨gb4, 5, none⟩ = some (.int .i64 0) := (yR BK4.out 5).trans rfl
   have hfz4_5 := yS BK4.out 5
   have hcz4_6 : World.cell? _ ⟨gb4, 6, none⟩ = some (.int .i64 0) := (yR BK4.out 6).trans rfl
   have hfz4_6 := yS BK4.out 6
   have hcz4_7 : World.cell? _ ⟨gb4, 7, none⟩ = some (.int .i64 0) := (yR BK4.out 7).trans rfl
   have hfz4_7 := yS BK4.out 7
   have hcz4_8 : World.cell? _ ⟨gb4, 8, none⟩ = some (.int .i64 0) := (yR BK4.out 8).trans rfl
   have hfz4_8 := yS BK4.out 8
   go_wp2
   refine bodyPost_ret (results_ctt rfl _ _ gb4 32 #[.int .i64 0, .string (⟨#[]⟩ : ByteArray), .int .i64 0, .int .i64 0, .int .i64 0, .int .i64 0, .int .i64 0, .int .i64 0, .int .i64 0] (0, 0) _ rfl (put9 BK4.out (.int .i64 0) (.string (⟨#[]⟩ : ByteArray)) (.int .i64 0) (.int .i64 0) (.int .i64 0) (.int .i64 0) (.int .i64 0) (.int .i64 0) (.int .i64 0)) Tryd.underlying32 rfl (by kernel_rfl)) rfl ?_
   exact ⟨by rw [HW.out]; rfl, bel9 HB.out GE4.out (.int .i64 0) (.string (⟨#[]⟩ : ByteArray)) (.int .i64 0) (.int .i64 0) (.int .i64 0) (.int .i64 0) (.int .i64 0) (.int .i64 0) (.int .i64 0)⟩
  ·have km0 : (m.toList == ([] : List UInt8)) = false := beq_eq_false_iff_ne.mpr (fun h => km (by rw [ByteArray.toList_eq] at h; have := congrArg List.length h; rw [data_length] at this; exact this))
   rw [if_neg km] at HW
   clear km
   have hcz4_0 : World.cell? _ ⟨gb4, 0, none⟩ = some (.int .i64 0) := (yR BK4.out 0).trans rfl
   have hfz4_0 := yS BK4.out 0
   have hcz4_1 : World.cell? _ ⟨gb4, 1, none⟩ = some (.string (⟨#[]⟩ : ByteArray)) := (yR BK4.out 1).trans rfl
   have hfz4_1 := yS BK4.out 1
   have hcz4_2 : World.cell? _ ⟨gb4, 2, none⟩ = some (.int .i64 0) := (yR BK4.out 2).trans rfl
   have hfz4_2 := yS BK4.out 2
   have hcz4_3 : World.cell? _ ⟨gb4, 3, none⟩ = some (.int .i64 0) := (yR BK4.out 3).trans rfl
   have hfz4_3 := yS BK4.out 3
   have hcz4_4 : World.cell? _ ⟨gb4, 4, none⟩ = some (.int .i64 0) := (yR BK4.out 4).trans rfl
   have hfz4_4 := yS BK4.out 4
   have hcz4_5 : World.cell? _ ⟨gb4, 5, none⟩ = some (.int .i64 0) := (yR BK4.out 5).trans rfl
   have hfz4_5 := yS BK4.out 5
   have hcz4_6 : World.cell? _ ⟨gb4, 6, none⟩ = some (.int .i64 0) := (yR BK4.out 6).trans rfl
   have hfz4_6 := yS BK4.out 6
   have hcz4_7 : World.cell? _ ⟨gb4, 7, none⟩ = some (.int .i64 0) := (yR BK4.out 7).trans rfl
   have hfz4_7 := yS BK4.out 7
   have hcz4_8 : World.cell? _ ⟨gb4, 8, none⟩ = some (.int .i64 0) := (yR BK4.out 8).trans rfl
   have hfz4_8 := yS BK4.out 8
   go_wp2
   refine bodyPost_ret (results_ctt rfl _ _ gb4 32 #[.int .i64 6, .string m, .int .i64 i, .int .i64 0, .int .i64 0, .int .i64 0, .int .i64 0, .int .i64 0, .int .i64 0] (0, 0) _ rfl (put9 BK4.out (.int .i64 6) (.string m) (.int .i64 i) (.int .i64 0) (.int .i64 0) (.int .i64 0) (.int .i64 0) (.int .i64 0) (.int .i64 0)) Tryd.underlying32 rfl (by kernel_rfl)) rfl ?_
   exact ⟨by rw [HW.out]; rfl, bel9 HB.out GE4.out (.int .i64 6) (.string m) (.int .i64 i) (.int .i64 0) (.int .i64 0) (.int .i64 0) (.int .i64 0) (.int .i64 0) (.int .i64 0)⟩
end Go.Proofs.YtkfdninngcakpaaDoor.Pure
