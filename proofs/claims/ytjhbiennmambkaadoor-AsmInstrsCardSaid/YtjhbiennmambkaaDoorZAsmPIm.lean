/- Own text, for this claim: asm.PrintInstr and the reference's answer the same. -/
import Derived.Test.YtjhbiennmambkaaDoorZAsmPIs
namespace Go.Proofs.YtjhbiennmambkaaDoor.Pure
open Go.RowKit Go.Proofs.YtjhbiennmambkaaDoorW.PrintWords Go.Proofs.YtjhbiennmambkaaDoorW.PrintLast Go.Proofs.YtjhbiennmambkaaDoorW.PrintMore Go.Proofs.YtjhbiennmambkaaDoor.PAsmInstrs Go.Proofs.YtjhbiennmambkaaDoor.PAsm
set_option linter.unusedVariables false
set_option linter.unusedSimpArgs false
theorem mapD_has (n2 n0 n1 : Nat) (op : Int) : Maps.has (mapD n2 n0 n1) (.int .i64 op) = decide (op = 28 ∨ op = 3 ∨ op = 1) := by
 have h1 : Maps.IsMap (DataW.map (H := Unit) []) := Maps.isMap_empty
 unfold mapD
 by_cases h4 : op = 28
 ·subst h4; rw [Maps.has_put_same ((h1.put _ _).put _ _) (show WideAt.IsKeyLit (.int .i64 28) from trivial)]; rfl
 rw [Maps.has_put_other (by simpa using h4)]
 by_cases h3 : op = 3
 ·subst h3; rw [Maps.has_put_same (h1.put _ _) (show WideAt.IsKeyLit (.int .i64 3) from trivial)]; rfl
 rw [Maps.has_put_other (by simpa using h3)]
 by_cases h2 : op = 1
 ·subst h2; rw [Maps.has_put_same h1 (show WideAt.IsKeyLit (.int .i64 1) from trivial)]; rfl
 rw [Maps.has_put_other (by simpa using h2), yM (by omega)]; rfl
section
variable (A0 A1 A2 A7 : Option Addr) (c0 c1 c2 c7 n7 : Nat) (l0 l1 : List ByteArray) (l2 : List Int) (a3 a4 a5 a6 : Int) (op a b : Int) (s : ByteArray) (e : Int) (w : World)
theorem api_any (hG : GA w) (hC0 : Kd.string.C w A0 l0.length l0) (hC1 : Kd.string.C w A1 l1.length l1) (hC2 : (Kd.int .i64).C w A2 l2.length l2) (hL : LB l0 l1 l2 op a b) (hs : PiIs l0 l1 l2 op a b s e) :
  Calls Tryd.prog 6 #[.agg #[.slice A0 l0.length c0, .slice A1 l1.length c1, .slice A2 l2.length c2, .int .i64 a3, .int .i64 a4, .int .i64 a5, .int .i64 a6, .slice A7 n7 c7], .agg #[.int .i64 op, .int .i64 a, .int .i64 b]] w fun e' w' => e' = .returned (.tuple #[.string s, .int .i64 e]) ∧ Below w.heap.size w w' := by
 rcases valid_two op a b with hv | hv
 ·obtain ⟨v1, v2, v3, v4, v5, v6⟩ := valid_facts hv
  obtain ⟨i, rfl⟩ := Int.eq_ofNat_of_zero_le v3
  have hhas := mapD_has l2.length l0.length l1.length op
  have hat := mapD_at l2.length l0.length l1.length op
  by_cases ho : outB l0 l1 l2 op (i : Int)
  ·obtain ⟨rfl, rfl⟩ := (hs.2 hv).1 ho
   rcases ho with ⟨h, hr⟩ | ⟨h, hr⟩ | ⟨h, hr⟩
   ·subst h; exact pi_range A0 A1 A2 A7 c0 c1 c2 c7 n7 l0 l1 l2 a3 a4 a5 a6 1 _ b w hG hL.wo hL.m0 hL.m1 hL.m2 _ hv hhas hat hr
   ·subst h; exact pi_range A0 A1 A2 A7 c0 c1 c2 c7 n7 l0 l1 l2 a3 a4 a5 a6 3 _ b w hG hL.wo hL.m0 hL.m1 hL.m2 _ hv hhas hat hr
   ·subst h; exact pi_range A0 A1 A2 A7 c0 c1 c2 c7 n7 l0 l1 l2 a3 a4 a5 a6 28 _ b w hG hL.wo hL.m0 hL.m1 hL.m2 _ hv hhas hat hr
  ·obtain ⟨rfl, rfl⟩ := (hs.2 hv).2 ho
   have hj := ws_join hL hv ho
   have hwl := ws_len l0 l1 l2 op (i : Int) b
   by_cases h1 : op = 1
   ·subst h1
    have hi : i < l2.length := by
     rcases Nat.lt_or_ge i l2.length with g | g
     ·exact g
     ·exact absurd (.inl ⟨rfl, by omega⟩) ho
    refine pi_okn A0 A1 A2 A7 c0 c1 c2 c7 n7 l0 l1 l2 a3 a4 a5 a6 1 _ b w hG hL.wo hL.m0 hL.m1 hL.m2 (l2.length : Int) ⟨v1, v2⟩ hv hhas hat (by omega) _ hwl (Nat.le_of_lt hj) (fun W hb => ?_)
    exact oper_const A0 A1 A2 A7 c0 c1 c2 c7 n7 l0 l1 l2 a3 a4 a5 a6 i b W (hG.below hb) (Kd.C_below hC2 hb) hi (hL.n2 _ (rd_mem hi))
   by_cases h3 : op = 3
   ·subst h3
    have hi : i < l0.length := by
     rcases Nat.lt_or_ge i l0.length with g | g
     ·exact g
     ·exact absurd (.inr (.inl ⟨rfl, by omega⟩)) ho
    refine pi_okn A0 A1 A2 A7 c0 c1 c2 c7 n7 l0 l1 l2 a3 a4 a5 a6 3 _ b w hG hL.wo hL.m0 hL.m1 hL.m2 (l0.length : Int) ⟨v1, v2⟩ hv hhas hat (by omega) _ hwl (Nat.le_of_lt hj) (fun W hb => ?_)
    exact oper_obs A0 A1 A2 A7 c0 c1 c2 c7 n7 l0 l1 l2 a3 a4 a5 a6 i b W (hG.below hb) (Kd.C_below hC0 hb) hi hL.wb
   by_cases h28 : op = 28
   ·subst h28
    have hi : i < l1.length := by
     rcases Nat.lt_or_ge i l1.length with g | g
     ·exact g
     ·exact absurd (.inr (.inr ⟨rfl, by omega⟩)) ho
    refine pi_okn A0 A1 A2 A7 c0 c1 c2 c7 n7 l0 l1 l2 a3 a4 a5 a6 28 _ b w hG hL.wo hL.m0 hL.m1 hL.m2 (l1.length : Int) ⟨v1, v2⟩ hv hhas hat (by omega) _ hwl (Nat.le_of_lt hj) (fun W hb => ?_)
    exact oper_flow A0 A1 A2 A7 c0 c1 c2 c7 n7 l0 l1 l2 a3 a4 a5 a6 i b W (hG.below hb) (Kd.C_below hC1 hb) hi
   have hno : Maps.has (mapD l2.length l0.length l1.length) (.int .i64 op) = false := by rw [hhas]; exact yM (by omega)
   refine pi_oko A0 A1 A2 A7 c0 c1 c2 c7 n7 l0 l1 l2 a3 a4 a5 a6 op _ b w hG hL.wo hL.m0 hL.m1 hL.m2 _ ⟨v1, v2⟩ hv hno hat _ hwl (Nat.le_of_lt hj) (fun W hb => ?_)
   unfold wsOf
   rw [if_neg h1, if_neg h3, if_neg h28]
   by_cases h18 : op = 18
   ·subst h18
    have v4 : (i : Int) ≤ 4 := v4
    rw [if_pos rfl, Int.toNat_natCast]
    exact oper_ratio A0 A1 A2 A7 c0 c1 c2 c7 n7 l0 l1 l2 a3 a4 a5 a6 i b W (hG.below hb) (by omega)
   rw [if_neg h18]
   by_cases h0 : opn op = 0
   ·rw [if_pos h0]
    exact oper_none A0 A1 A2 A7 c0 c1 c2 c7 n7 l0 l1 l2 a3 a4 a5 a6 op _ b W (hG.below hb) ⟨v1, v2⟩ h1 h3 h28 h18 h0
   ·rw [if_neg h0]
    exact oper_one A0 A1 A2 A7 c0 c1 c2 c7 n7 l0 l1 l2 a3 a4 a5 a6 op _ b W (hG.below hb) ⟨v1, v2⟩ h1 h3 h28 h18 h0 hL.wa
 ·obtain ⟨rfl, rfl⟩ := hs.1 hv
  exact pi_err A0 A1 A2 A7 c0 c1 c2 c7 n7 l0 l1 l2 a3 a4 a5 a6 op a b w hG hL.wo hL.m0 hL.m1 hL.m2 hv
theorem rpi_any (hG : GA w) (hC0 : Kd.string.C w A0 l0.length l0) (hC1 : Kd.string.C w A1 l1.length l1) (hC2 : (Kd.int .i64).C w A2 l2.length l2) (hL : LB l0 l1 l2 op a b) (hs : PiIs l0 l1 l2 op a b s e) :
  Calls Tryd.prog 7 #[.agg #[.slice A0 l0.length c0, .slice A1 l1.length c1, .slice A2 l2.length c2, .int .i64 a3, .int .i64 a4, .int .i64 a5, .int .i64 a6, .slice A7 n7 c7], .agg #[.int .i64 op, .int .i64 a, .int .i64 b]] w fun e' w' => e' = .returned (.tuple #[.string s, .int .i64 e]) ∧ Below w.heap.size w w' := by
 rcases valid_two op a b with hv | hv
 ·obtain ⟨v1, v2, v3, v4, v5, v6⟩ := valid_facts hv
  obtain ⟨i, rfl⟩ := Int.eq_ofNat_of_zero_le v3
  by_cases ho : outB l0 l1 l2 op (i : Int)
  ·obtain ⟨rfl, rfl⟩ := (hs.2 hv).1 ho
   refine rpi_err A0 A1 A2 A7 c0 c1 c2 c7 n7 l0 l1 l2 a3 a4 a5 a6 op _ b 2 (by decide) w (fun W hb => ?_)
   rcases ho with ⟨h, hr⟩ | ⟨h, hr⟩ | ⟨h, hr⟩
   ·exact rin_range1 A0 A1 A2 A7 c0 c1 c2 c7 n7 l0 l1 l2 a3 a4 a5 a6 op _ b W (hG.below hb) h hv hr
   ·exact rin_range3 A0 A1 A2 A7 c0 c1 c2 c7 n7 l0 l1 l2 a3 a4 a5 a6 op _ b W (hG.below hb) h hv hr
   ·exact rin_range28 A0 A1 A2 A7 c0 c1 c2 c7 n7 l0 l1 l2 a3 a4 a5 a6 op _ b W (hG.below hb) h hv hr
  ·obtain ⟨rfl, rfl⟩ := (hs.2 hv).2 ho
   have hj := ws_join hL hv ho
   have hwl := ws_len l0 l1 l2 op (i : Int) b
   refine rpi_ok A0 A1 A2 A7 c0 c1 c2 c7 n7 l0 l1 l2 a3 a4 a5 a6 op _ b _ _ hwl hj w (fun W hb => ?_)
   unfold wsOf
   by_cases h1 : op = 1
   ·have hi : i < l2.length := by
     rcases Nat.lt_or_ge i l2.length with g | g
     ·exact g
     ·exact absurd (.inl ⟨h1, by omega⟩) ho
    rw [if_pos h1]
    exact rin_const A0 A1 A2 A7 c0 c1 c2 c7 n7 l0 l1 l2 a3 a4 a5 a6 op i b W (hG.below hb) h1 hv (Kd.C_below hC2 hb) hi (hL.n2 _ (rd_mem hi))
   rw [if_neg h1]
   by_cases h3 : op = 3
   ·have hi : i < l0.length := by
     rcases Nat.lt_or_ge i l0.length with g | g
     ·exact g
     ·exact absurd (.inr (.inl ⟨h3, by omega⟩)) ho
    rw [if_pos h3]
    exact rin_obs A0 A1 A2 A7 c0 c1 c2 c7 n7 l0 l1 l2 a3 a4 a5 a6 op i b W (hG.below hb) h3 hv (Kd.C_below hC0 hb) hi hL.wb
   rw [if_neg h3]
   by_cases h28 : op = 28
   ·have hi : i < l1.length := by
     rcases Nat.lt_or_ge i l1.length with g | g
     ·exact g
     ·exact absurd (.inr (.inr ⟨h28, by omega⟩)) ho
    rw [if_pos h28]
    exact rin_flow A0 A1 A2 A7 c0 c1 c2 c7 n7 l0 l1 l2 a3 a4 a5 a6 op i b W (hG.below hb) h28 hv (Kd.C_below hC1 hb) hi
   rw [if_neg h28]
   by_cases h18 : op = 18
   ·have v4 : (i : Int) ≤ 4 := by subst h18; exact v4
    rw [if_pos h18, Int.toNat_natCast]
    exact rin_ratio A0 A1 A2 A7 c0 c1 c2 c7 n7 l0 l1 l2 a3 a4 a5 a6 op i b W (hG.below hb) h18 hv (by omega)
   rw [if_neg h18]
   by_cases h0 : opn op = 0
   ·rw [if_pos h0]
    exact rin_none A0 A1 A2 A7 c0 c1 c2 c7 n7 l0 l1 l2 a3 a4 a5 a6 op _ b W (hG.below hb) h1 h3 h28 h18 ⟨v1, v2⟩ hv h0
   ·rw [if_neg h0]
    have hge : 0 ≤ opn op := opn_ge op.toNat (by omega)
    exact rin_one A0 A1 A2 A7 c0 c1 c2 c7 n7 l0 l1 l2 a3 a4 a5 a6 op _ b W (hG.below hb) h1 h3 h28 h18 ⟨v1, v2⟩ hv (by omega) hL.wa
 ·obtain ⟨rfl, rfl⟩ := hs.1 hv
  exact rpi_err A0 A1 A2 A7 c0 c1 c2 c7 n7 l0 l1 l2 a3 a4 a5 a6 op a b 111 (by decide) w (fun W hb => rin_err A0 A1 A2 A7 c0 c1 c2 c7 n7 l0 l1 l2 a3 a4 a5 a6 op a b W (hG.below hb) hv)
end
end Go.Proofs.YtjhbiennmambkaaDoor.Pure
