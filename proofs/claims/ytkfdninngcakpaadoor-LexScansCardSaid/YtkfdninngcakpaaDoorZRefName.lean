/- Own text, for this claim: the reference's names (payoffref06) walked. Printed by wip/tools/mkref6.py. -/
import Derived.Test.YtkfdninngcakpaaDoorZQLexr0
import Derived.Test.YtkfdninngcakpaaDoorZLexPure
namespace Go.Proofs.YtkfdninngcakpaaDoor.Pure
open Go.RowKit Go.Proofs.YtkfdninngcakpaaDoor.PLex Go.Proofs.YtkfdninngcakpaaDoorW.PrintWords Go.Proofs.YtkfdninngcakpaaDoorW.PrintLast Go.Proofs.YtkfdninngcakpaaDoorW.PrintMore
set_option linter.unusedVariables false
set_option linter.unusedSimpArgs false
theorem put9 {w : World} {g : Nat} {z0 z1 z2 z3 z4 z5 z6 z7 z8 : Value} (h : w.heap[g]? = some (.cells #[z0, z1, z2, z3, z4, z5, z6, z7, z8] 32 (0, 0))) (v0 v1 v2 v3 v4 v5 v6 v7 v8 : Value) : (((((((((w.setCell ⟨g, 0, none⟩ (v0)).setCell ⟨g, 1, none⟩ (v1)).setCell ⟨g, 2, none⟩ (v2)).setCell ⟨g, 3, none⟩ (v3)).setCell ⟨g, 4, none⟩ (v4)).setCell ⟨g, 5, none⟩ (v5)).setCell ⟨g, 6, none⟩ (v6)).setCell ⟨g, 7, none⟩ (v7)).setCell ⟨g, 8, none⟩ (v8)).heap[g]? = some (.cells #[v0, v1, v2, v3, v4, v5, v6, v7, v8] 32 (0, 0)) :=
 blk_put (cs' := #[v0, v1, v2, v3, v4, v5, v6, v7, v8]) (blk_put (cs' := #[v0, v1, v2, v3, v4, v5, v6, v7, z8]) (blk_put (cs' := #[v0, v1, v2, v3, v4, v5, v6, z7, z8]) (blk_put (cs' := #[v0, v1, v2, v3, v4, v5, z6, z7, z8]) (blk_put (cs' := #[v0, v1, v2, v3, v4, z5, z6, z7, z8]) (blk_put (cs' := #[v0, v1, v2, v3, z4, z5, z6, z7, z8]) (blk_put (cs' := #[v0, v1, v2, z3, z4, z5, z6, z7, z8]) (blk_put (cs' := #[v0, v1, z2, z3, z4, z5, z6, z7, z8]) (blk_put (cs' := #[v0, z1, z2, z3, z4, z5, z6, z7, z8]) (h) 0 v0 rfl) 1 v1 rfl) 2 v2 rfl) 3 v3 rfl) 4 v4 rfl) 5 v5 rfl) 6 v6 rfl) 7 v7 rfl) 8 v8 rfl
theorem far9 {w : World} {g b : Nat} {cs : Array Value} {t : TypeId} (h : w.heap[b]? = some (.cells cs t (0, 0))) (hn : b ≠ g) (v0 v1 v2 v3 v4 v5 v6 v7 v8 : Value) : (((((((((w.setCell ⟨g, 0, none⟩ (v0)).setCell ⟨g, 1, none⟩ (v1)).setCell ⟨g, 2, none⟩ (v2)).setCell ⟨g, 3, none⟩ (v3)).setCell ⟨g, 4, none⟩ (v4)).setCell ⟨g, 5, none⟩ (v5)).setCell ⟨g, 6, none⟩ (v6)).setCell ⟨g, 7, none⟩ (v7)).setCell ⟨g, 8, none⟩ (v8)).heap[b]? = some (.cells cs t (0, 0)) :=
 blk_far (p := ⟨g, 8, none⟩) (blk_far (p := ⟨g, 7, none⟩) (blk_far (p := ⟨g, 6, none⟩) (blk_far (p := ⟨g, 5, none⟩) (blk_far (p := ⟨g, 4, none⟩) (blk_far (p := ⟨g, 3, none⟩) (blk_far (p := ⟨g, 2, none⟩) (blk_far (p := ⟨g, 1, none⟩) (blk_far (p := ⟨g, 0, none⟩) (h) hn v0) hn v1) hn v2) hn v3) hn v4) hn v5) hn v6) hn v7) hn v8
theorem bel9 {w W : World} {g : Nat} (h : Below w.heap.size w W) (hg : w.heap.size ≤ g) (v0 v1 v2 v3 v4 v5 v6 v7 v8 : Value) : Below w.heap.size w (((((((((W.setCell ⟨g, 0, none⟩ (v0)).setCell ⟨g, 1, none⟩ (v1)).setCell ⟨g, 2, none⟩ (v2)).setCell ⟨g, 3, none⟩ (v3)).setCell ⟨g, 4, none⟩ (v4)).setCell ⟨g, 5, none⟩ (v5)).setCell ⟨g, 6, none⟩ (v6)).setCell ⟨g, 7, none⟩ (v7)).setCell ⟨g, 8, none⟩ (v8)) :=
 yJ (j := 8) (v := v8) (yJ (j := 7) (v := v7) (yJ (j := 6) (v := v6) (yJ (j := 5) (v := v5) (yJ (j := 4) (v := v4) (yJ (j := 3) (v := v3) (yJ (j := 2) (v := v2) (yJ (j := 1) (v := v1) (yJ (j := 0) (v := v0) (h) hg) hg) hg) hg) hg) hg) hg) hg) hg
theorem rcap_any (c : Int) (b : Bool) (hb : bigB c = b) (w : World) : Calls Tryd.prog 61 #[.int .u8 c] w fun e w' => e = .returned (.bool b) ∧ Below w.heap.size w w' :=
 (payoffref06_capital.calls c _ w (by subst hb; unfold payoffref06_capital.f bigB; by_cases h : c ≥ 65 <;> simp [h])).mono fun e w' ⟨h1, nd, h2⟩ => ⟨h1, by rw [h2]; exact yF (Below.refl _ _) _⟩
theorem rsmall_any (c : Int) (b : Bool) (hb : smallB c = b) (w : World) : Calls Tryd.prog 62 #[.int .u8 c] w fun e w' => e = .returned (.bool b) ∧ Below w.heap.size w w' :=
 (payoffref06_small.calls c _ w (by subst hb; unfold payoffref06_small.f smallB; by_cases h : c ≥ 97 <;> simp [h])).mono fun e w' ⟨h1, nd, h2⟩ => ⟨h1, by rw [h2]; exact yF (Below.refl _ _) _⟩
def othAt (L : Int → Bool) (s : ByteArray) : Nat → Int → Int
 | 0, i => i
 | n + 1, i => if L (bt s i) = true then i else othAt L s n (i + 1)
def Lq (q : Bool) : Int → Bool := if q = true then smallB else bigB
def rname (q : Bool) (s : ByteArray) (at_ : Int) : TokR :=
 if othAt (Lq q) s s.size 0 < s.size then (0, (⟨#[]⟩ : ByteArray), 0, 0, 0, 0, 0, 0, 0, wrap64 (at_ + othAt (Lq q) s s.size 0), 61)
 else if (s.size : Int) > 31 then (0, (⟨#[]⟩ : ByteArray), 0, 0, 0, 0, 0, 0, 0, at_, 6) else (if q = true then 2 else 1, s, at_, 0, 0, 0, 0, 0, 0, 0, 0)
set_option maxHeartbeats 8000000 in
set_option maxRecDepth 100000 in
theorem name_any (a0 : ByteArray) (a1 : Int) (h0 : 0 < a0.size) (hs : a0.size ≤ 140737488355328) (q : Bool) (hq : bigB (bt a0 0) = q) (w : World) : Calls Tryd.prog 46 #[.string a0, .int .i64 a1] w fun e w' => e = .returned (tokV (rname q a0 a1)) ∧ Below w.heap.size w w' := by
 have hu32 := Tryd.underlying32
 have HB := yA (Below.refl w.heap.size w)
 have HS := yA hs
 have HQ := yA hq
 have q0 : ((0 : Int) < (a0.size : Int)) = True := eq_true (by omega)
 have q00 : (0 < a0.size) = True := eq_true h0
 have hx0 : ∀ h : 0 < a0.size, ((a0[0]'h).toNat : Int) = bt a0 0 := bt_at a0 0
 clear hs hq
 go_enter Tryd.func46, Tryd.ntmps46
 go_upto_region 2 with (first | ((with_reducible refine yP (N := 4) rfl ?_); refine yQ ?hg (N := 4) ?hd (cs := #[.int .i64 0, .string (⟨#[]⟩ : ByteArray), .int .i64 0, .int .i64 0, .int .i64 0, .int .i64 0, .int .i64 0, .int .i64 0, .int .i64 0]) (t := 32) ?hr ?_; (case hd => rfl); (case hg => rfl); (case hr => first | (go_simp; done) | (go_simp; rfl)); intro gb4 hg w2 hbox hb; have GE4 := yA (by rw [hg]; exact HB.out.size : w.heap.size ≤ gb4); replace HB := yA (yB HB.out hb); have BK4 := yA (hbox); clear hb hg hbox) | ((with_reducible refine yP (N := 7) rfl ?_); refine yQ ?hg (N := 7) ?hd (cs := #[.int .i64 0, .string (⟨#[]⟩ : ByteArray), .int .i64 0, .int .i64 0, .int .i64 0, .int .i64 0, .int .i64 0, .int .i64 0, .int .i64 0]) (t := 32) ?hr ?_; (case hd => rfl); (case hg => rfl); (case hr => first | (go_simp; done) | (go_simp; rfl)); intro gb7 hg w3 hbox hb; have GE7 := yA (by rw [hg]; exact HB.out.size : w.heap.size ≤ gb7); have NE := yA (by rw [hg]; exact Nat.ne_of_lt (blk_lt BK4.out) : gb4 ≠ gb7); replace HB := yA (yB HB.out hb); replace BK4 := yA (yC BK4.out hb); have BK7 := yA (hbox); have hcz7_0 : World.cell? _ ⟨gb7, 0, none⟩ = some (.int .i64 0) := (yR BK7.out 0).trans rfl; have hfz7_0 := yS BK7.out 0; have hcz7_1 : World.cell? _ ⟨gb7, 1, none⟩ = some (.string (⟨#[]⟩ : ByteArray)) := (yR BK7.out 1).trans rfl; have hfz7_1 := yS BK7.out 1; have hcz7_2 : World.cell? _ ⟨gb7, 2, none⟩ = some (.int .i64 0) := (yR BK7.out 2).trans rfl; have hfz7_2 := yS BK7.out 2; have hcz7_3 : World.cell? _ ⟨gb7, 3, none⟩ = some (.int .i64 0) := (yR BK7.out 3).trans rfl; have hfz7_3 := yS BK7.out 3; have hcz7_4 : World.cell? _ ⟨gb7, 4, none⟩ = some (.int .i64 0) := (yR BK7.out 4).trans rfl; have hfz7_4 := yS BK7.out 4; have hcz7_5 : World.cell? _ ⟨gb7, 5, none⟩ = some (.int .i64 0) := (yR BK7.out 5).trans rfl; have hfz7_5 := yS BK7.out 5; have hcz7_6 : World.cell? _ ⟨gb7, 6, none⟩ = some (.int .i64 0) := (yR BK7.out 6).trans rfl; have hfz7_6 := yS BK7.out 6; have hcz7_7 : World.cell? _ ⟨gb7, 7, none⟩ = some (.int .i64 0) := (yR BK7.out 7).trans rfl; have hfz7_7 := yS BK7.out 7; have hcz7_8 : World.cell? _ ⟨gb7, 8, none⟩ = some (.int .i64 0) := (yR BK7.out 8).trans rfl; have hfz7_8 := yS BK7.out 8; clear hb hg hbox))
 clear hcz7_0 hfz7_0 hcz7_1 hfz7_1 hcz7_2 hfz7_2 hcz7_3 hfz7_3 hcz7_4 hfz7_4 hcz7_5 hfz7_5 hcz7_6 hfz7_6 hcz7_7 hfz7_7 hcz7_8 hfz7_8
 have m0_ := put9 BK7.out (.int .i64 1) (.string a0) (.int .i64 a1) (.int .i64 0) (.int .i64 0) (.int .i64 0) (.int .i64 0) (.int .i64 0) (.int .i64 0)
 have m1_ := far9 BK4.out NE.out (.int .i64 1) (.string a0) (.int .i64 a1) (.int .i64 0) (.int .i64 0) (.int .i64 0) (.int .i64 0) (.int .i64 0) (.int .i64 0)
 have m2_ := bel9 HB.out GE7.out (.int .i64 1) (.string a0) (.int .i64 a1) (.int .i64 0) (.int .i64 0) (.int .i64 0) (.int .i64 0) (.int .i64 0) (.int .i64 0)
 generalize ((((((((w3.setCell ⟨gb7, 0, none⟩ (.int .i64 1)).setCell ⟨gb7, 1, none⟩ (.string a0)).setCell ⟨gb7, 2, none⟩ (.int .i64 a1)).setCell ⟨gb7, 3, none⟩ (.int .i64 0)).setCell ⟨gb7, 4, none⟩ (.int .i64 0)).setCell ⟨gb7, 5, none⟩ (.int .i64 0)).setCell ⟨gb7, 6, none⟩ (.int .i64 0)).setCell ⟨gb7, 7, none⟩ (.int .i64 0)).setCell ⟨gb7, 8, none⟩ (.int .i64 0) = w4 at m0_ m1_ m2_ ⊢
 clear BK4 BK7 HB
 have BK7 := yA m0_
 have BK4 := yA m1_
 have HB := yA m2_
 clear m0_ m1_ m2_
 go_upto_if 14 with (first | ((with_reducible refine yO (f := 61) rfl ?_); (try (refine gate_guard (by rfl) ?_; dsimp only)); refine goesL_ (some 14) rfl rfl Tryd.func61 (by kernel_rfl) rfl #[.int .u8 (bt a0 0)] rfl (by (try simp only [List.map_toArray, List.map_cons, List.map_nil]); first | done | rfl) ?_; refine (rcap_any (bt a0 0) _ HQ.out _).mono ?_; rintro e wa ⟨rfl, hb⟩; refine ⟨_, rfl, ?_⟩; replace HB := yA (yB HB.out hb); replace BK4 := yA (yC BK4.out hb); replace BK7 := yA (yC BK7.out hb); clear hb; have hcz7_0 : World.cell? _ ⟨gb7, 0, none⟩ = some (.int .i64 1) := (yR BK7.out 0).trans rfl; have hfz7_0 := yS BK7.out 0))
 (try simp only [Act.put, lA, lB, lC])
 go_cut [15] (fun v15 wc => Aside0 (wc.heap[gb4]? = some (.cells #[.int .i64 0, .string (⟨#[]⟩ : ByteArray), .int .i64 0, .int .i64 0, .int .i64 0, .int .i64 0, .int .i64 0, .int .i64 0, .int .i64 0] 32 (0, 0))) ∧ Aside0 (wc.heap[gb7]? = some (.cells #[.int .i64 (if q = true then 2 else 1), .string a0, .int .i64 a1, .int .i64 0, .int .i64 0, .int .i64 0, .int .i64 0, .int .i64 0, .int .i64 0] 32 (0, 0))) ∧ Aside0 (Below w.heap.size w wc))
 case first =>
  cases q with
  | false => go_wp2; go_meet; case rel => exact ⟨BK4, BK7, HB⟩
  | true => go_wp2; go_meet; case rel => exact ⟨⟨blk_far (p := ⟨gb7, 0, none⟩) BK4.out NE.out _⟩, ⟨blk_put (cs' := #[.int .i64 2, .string a0, .int .i64 a1, .int .i64 0, .int .i64 0, .int .i64 0, .int .i64 0, .int .i64 0, .int .i64 0]) BK7.out 0 (.int .i64 2) rfl⟩, ⟨yJ HB.out GE7.out⟩⟩
 case rest =>
  obtain ⟨BK4, BK7, HB⟩ := hcut
  obtain ⟨L, hL⟩ : ∃ L, Lq q = L := ⟨_, rfl⟩
  have HL := yA hL
  clear hL
  go_wp2
  go_loopw [8] (fun v8 w' => ∃ (i : Int), v8 = .int .i64 i ∧ Aside0 (0 ≤ i ∧ i ≤ a0.size) ∧ Aside0 (othAt L a0 a0.size 0 = othAt L a0 (a0.size - i.toNat) i) ∧ Aside0 (w'.heap[gb4]? = some (.cells #[.int .i64 0, .string (⟨#[]⟩ : ByteArray), .int .i64 0, .int .i64 0, .int .i64 0, .int .i64 0, .int .i64 0, .int .i64 0, .int .i64 0] 32 (0, 0))) ∧ Aside0 (w'.heap[gb7]? = some (.cells #[.int .i64 (if q = true then 2 else 1), .string a0, .int .i64 a1, .int .i64 0, .int .i64 0, .int .i64 0, .int .i64 0, .int .i64 0, .int .i64 0] 32 (0, 0))) ∧ Aside0 (Below w.heap.size w w')) (fun v8 _ => (a0.size - intOf v8).toNat)
  case atStart => exact ⟨0, rfl, ⟨by omega⟩, ⟨by simp⟩, BK4, BK7, HB⟩
  case round =>
   obtain ⟨i, rfl, HI, HM, BK4_, BK7_, HB_⟩ := hrel
   clear BK4 BK7 HB
   have BK4 := BK4_
   have BK7 := BK7_
   have HB := HB_
   clear BK4_ BK7_ HB_
   have hi1 : i ≤ 140737488355328 := by have := HS.out; have := HI.out; omega
   by_cases c3 : i < (a0.size : Int)
   ·have c3b0 : decide (i < (a0.size : Int)) = true := yL c3
    have p6 : (0 ≤ (i : Int)) = True := eq_true HI.out.1
    have q6 : (i < (a0.size : Int)) = True := eq_true c3
    have hx6 := bt_at a0 i
    obtain ⟨n, hn⟩ : ∃ n, a0.size - i.toNat = n + 1 := ⟨a0.size - i.toNat - 1, by have := HI.out; omega⟩
    have hn' : a0.size - (i + 1).toNat = n := by have := HI.out; omega
    rw [hn, othAt] at HM
    have HN := yA hn'
    clear hn hn'
    obtain ⟨lb, hlb⟩ : ∃ lb, L (bt a0 i) = lb := ⟨_, rfl⟩
    have HLB := yA hlb
    rw [hlb] at HM
    clear hlb
    cases q with
    | true =>
     cases lb with
     | true =>
      replace BK7 : Aside0 ((_ : Option Obj) = some (Obj.cells #[.int .i64 2, .string a0, .int .i64 a1, .int .i64 0, .int .i64 0, .int .i64 0, .int .i64 0, .int .i64 0, .int .i64 0] 32 (0, 0))) := BK7
      have HLQ := yA (show smallB (bt a0 i) = true by rw [← HLB.out, ← HL.out]; rfl)
      have hcz7_0 : World.cell? _ ⟨gb7, 0, none⟩ = some (.int .i64 2) := (yR BK7.out 0).trans rfl
      have hfz7_0 := yS BK7.out 0
      have hcz7_1 : World.cell? _ ⟨gb7, 1, none⟩ = some (.string a0) := (yR BK7.out 1).trans rfl
      have hfz7_1 := yS BK7.out 1
      have hcz7_2 : World.cell? _ ⟨gb7, 2, none⟩ = some (.int .i64 a1) := (yR BK7.out 2).trans rfl
      have hfz7_2 := yS BK7.out 2
      have hcz7_3 : World.cell? _ ⟨gb7, 3, none⟩ = some (.int .i64 0) := (yR BK7.out 3).trans rfl
      have hfz7_3 := yS BK7.out 3
      have hcz7_4 : World.cell? _ ⟨gb7, 4, none⟩ = some (.int .i64 0) := (yR BK7.out 4).trans rfl
      have hfz7_4 := yS BK7.out 4
      have hcz7_5 : World.cell? _ ⟨gb7, 5, none⟩ = some (.int .i64 0) := (yR BK7.out 5).trans rfl
      have hfz7_5 := yS BK7.out 5
      have hcz7_6 : World.cell? _ ⟨gb7, 6, none⟩ = some (.int .i64 0) := (yR BK7.out 6).trans rfl
      have hfz7_6 := yS BK7.out 6
      have hcz7_7 : World.cell? _ ⟨gb7, 7, none⟩ = some (.int .i64 0) := (yR BK7.out 7).trans rfl
      have hfz7_7 := yS BK7.out 7
      have hcz7_8 : World.cell? _ ⟨gb7, 8, none⟩ = some (.int .i64 0) := (yR BK7.out 8).trans rfl
      have hfz7_8 := yS BK7.out 8
      have HM' := yA (show othAt L a0 a0.size 0 = i by rw [HM.out, if_pos rfl])
      clear HM
      go_wp2_with (first | ((with_reducible refine yO (f := 62) rfl ?_); (try (refine gate_guard (by rfl) ?_; dsimp only)); refine goesL_ (some 39) rfl rfl Tryd.func62 (by kernel_rfl) rfl #[.int .u8 (bt a0 i)] rfl (by (try simp only [List.map_toArray, List.map_cons, List.map_nil]); first | done | rfl) ?_; refine (rsmall_any (bt a0 i) _ HLQ.out _).mono ?_; rintro e wb ⟨rfl, hb⟩; refine ⟨_, rfl, ?_⟩; replace HB := yA (yB HB.out hb); replace BK4 := yA (yC BK4.out hb); replace BK7 := yA (yC BK7.out hb); clear hb; have hcz4_0 : World.cell? _ ⟨gb4, 0, none⟩ = some (.int .i64 0) := (yR BK4.out 0).trans rfl; have hfz4_0 := yS BK4.out 0; have hcz4_1 : World.cell? _ ⟨gb4, 1, none⟩ = some (.string (⟨#[]⟩ : ByteArray)) := (yR BK4.out 1).trans rfl; have hfz4_1 := yS BK4.out 1; have hcz4_2 : World.cell? _ ⟨gb4, 2, none⟩ = some (.int .i64 0) := (yR BK4.out 2).trans rfl; have hfz4_2 := yS BK4.out 2; have hcz4_3 : World.cell? _ ⟨gb4, 3, none⟩ = some (.int .i64 0) := (yR BK4.out 3).trans rfl; have hfz4_3 := yS BK4.out 3; have hcz4_4 : World.cell? _ ⟨gb4, 4, none⟩ = some (.int .i64 0) := (yR BK4.out 4).trans rfl; have hfz4_4 := yS BK4.out 4; have hcz4_5 : World.cell? _ ⟨gb4, 5, none⟩ = some (.int .i64 0) := (yR BK4.out 5).trans rfl; have hfz4_5 := yS BK4.out 5; have hcz4_6 : World.cell? _ ⟨gb4, 6, none⟩ = some (.int .i64 0) := (yR BK4.out 6).trans rfl; have hfz4_6 := yS BK4.out 6; have hcz4_7 : World.cell? _ ⟨gb4, 7, none⟩ = some (.int .i64 0) := (yR BK4.out 7).trans rfl; have hfz4_7 := yS BK4.out 7; have hcz4_8 : World.cell? _ ⟨gb4, 8, none⟩ = some (.int .i64 0) := (yR BK4.out 8).trans rfl; have hfz4_8 := yS BK4.out 8))
      have HW := yA (show rname true a0 a1 = (0, (⟨#[]⟩ : ByteArray), 0, 0, 0, 0, 0, 0, 0, wrap64 (a1 + i), 61) by unfold rname; rw [HL.out, HM'.out, if_pos c3])
      refine bodyPost_ret (results_ctt rfl _ _ gb4 32 #[.int .i64 0, .string (⟨#[]⟩ : ByteArray), .int .i64 0, .int .i64 0, .int .i64 0, .int .i64 0, .int .i64 0, .int .i64 0, .int .i64 0] (0, 0) _ rfl (put9 BK4.out (.int .i64 0) (.string (⟨#[]⟩ : ByteArray)) (.int .i64 0) (.int .i64 0) (.int .i64 0) (.int .i64 0) (.int .i64 0) (.int .i64 0) (.int .i64 0)) Tryd.underlying32 rfl (by kernel_rfl)) rfl ?_
      exact ⟨by rw [HW.out]; rfl, bel9 HB.out GE4.out (.int .i64 0) (.string (⟨#[]⟩ : ByteArray)) (.int .i64 0) (.int .i64 0) (.int .i64 0) (.int .i64 0) (.int .i64 0) (.int .i64 0) (.int .i64 0)⟩
     | false =>
      replace BK7 : Aside0 ((_ : Option Obj) = some (Obj.cells #[.int .i64 2, .string a0, .int .i64 a1, .int .i64 0, .int .i64 0, .int .i64 0, .int .i64 0, .int .i64 0, .int .i64 0] 32 (0, 0))) := BK7
      have HLQ := yA (show smallB (bt a0 i) = false by rw [← HLB.out, ← HL.out]; rfl)
      have hcz7_0 : World.cell? _ ⟨gb7, 0, none⟩ = some (.int .i64 2) := (yR BK7.out 0).trans rfl
      have hfz7_0 := yS BK7.out 0
      have hcz7_1 : World.cell? _ ⟨gb7, 1, none⟩ = some (.string a0) := (yR BK7.out 1).trans rfl
      have hfz7_1 := yS BK7.out 1
      have hcz7_2 : World.cell? _ ⟨gb7, 2, none⟩ = some (.int .i64 a1) := (yR BK7.out 2).trans rfl
      have hfz7_2 := yS BK7.out 2
      have hcz7_3 : World.cell? _ ⟨gb7, 3, none⟩ = some (.int .i64 0) := (yR BK7.out 3).trans rfl
      have hfz7_3 := yS BK7.out 3
      have hcz7_4 : World.cell? _ ⟨gb7, 4, none⟩ = some (.int .i64 0) := (yR BK7.out 4).trans rfl
      have hfz7_4 := yS BK7.out 4
      have hcz7_5 : World.cell? _ ⟨gb7, 5, none⟩ = some (.int .i64 0) := (yR BK7.out 5).trans rfl
      have hfz7_5 := yS BK7.out 5
      have hcz7_6 : World.cell? _ ⟨gb7, 6, none⟩ = some (.int .i64 0) := (yR BK7.out 6).trans rfl
      have hfz7_6 := yS BK7.out 6
      have hcz7_7 : World.cell? _ ⟨gb7, 7, none⟩ = some (.int .i64 0) := (yR BK7.out 7).trans rfl
      have hfz7_7 := yS BK7.out 7
      have hcz7_8 : World.cell? _ ⟨gb7, 8, none⟩ = some (.int .i64 0) := (yR BK7.out 8).trans rfl
      have hfz7_8 := yS BK7.out 8
      have HM' := yA (show othAt L a0 a0.size 0 = othAt L a0 n (i + 1) by rw [HM.out, if_neg (by decide)])
      clear HM
      go_wp2_with (first | ((with_reducible refine yO (f := 62) rfl ?_); (try (refine gate_guard (by rfl) ?_; dsimp only)); refine goesL_ (some 39) rfl rfl Tryd.func62 (by kernel_rfl) rfl #[.int .u8 (bt a0 i)] rfl (by (try simp only [List.map_toArray, List.map_cons, List.map_nil]); first | done | rfl) ?_; refine (rsmall_any (bt a0 i) _ HLQ.out _).mono ?_; rintro e wb ⟨rfl, hb⟩; refine ⟨_, rfl, ?_⟩; replace HB := yA (yB HB.out hb); replace BK4 := yA (yC BK4.out hb); replace BK7 := yA (yC BK7.out hb); clear hb))
      go_roundw
      case measure => have := HI.out; have := HS.out; simp [intOf]; (try rw [w64 (by omega)]); omega
      case rel => exact ⟨i + 1, by first | rfl | (rw [w64 (by have := HI.out; have := HS.out; omega)]), ⟨by have := HI.out; omega⟩, ⟨by rw [HN.out]; exact HM'.out⟩, BK4, BK7, HB⟩
    | false =>
     cases lb with
     | true =>
      replace BK7 : Aside0 ((_ : Option Obj) = some (Obj.cells #[.int .i64 1, .string a0, .int .i64 a1, .int .i64 0, .int .i64 0, .int .i64 0, .int .i64 0, .int .i64 0, .int .i64 0] 32 (0, 0))) := BK7
      have HLQ := yA (show bigB (bt a0 i) = true by rw [← HLB.out, ← HL.out]; rfl)
      have hcz7_0 : World.cell? _ ⟨gb7, 0, none⟩ = some (.int .i64 1) := (yR BK7.out 0).trans rfl
      have hfz7_0 := yS BK7.out 0
      have hcz7_1 : World.cell? _ ⟨gb7, 1, none⟩ = some (.string a0) := (yR BK7.out 1).trans rfl
      have hfz7_1 := yS BK7.out 1
      have hcz7_2 : World.cell? _ ⟨gb7, 2, none⟩ = some (.int .i64 a1) := (yR BK7.out 2).trans rfl
      have hfz7_2 := yS BK7.out 2
      have hcz7_3 : World.cell? _ ⟨gb7, 3, none⟩ = some (.int .i64 0) := (yR BK7.out 3).trans rfl
      have hfz7_3 := yS BK7.out 3
      have hcz7_4 : World.cell? _ ⟨gb7, 4, none⟩ = some (.int .i64 0) := (yR BK7.out 4).trans rfl
      have hfz7_4 := yS BK7.out 4
      have hcz7_5 : World.cell? _ ⟨gb7, 5, none⟩ = some (.int .i64 0) := (yR BK7.out 5).trans rfl
      have hfz7_5 := yS BK7.out 5
      have hcz7_6 : World.cell? _ ⟨gb7, 6, none⟩ = some (.int .i64 0) := (yR BK7.out 6).trans rfl
      have hfz7_6 := yS BK7.out 6
      have hcz7_7 : World.cell? _ ⟨gb7, 7, none⟩ = some (.int .i64 0) := (yR BK7.out 7).trans rfl
      have hfz7_7 := yS BK7.out 7
      have hcz7_8 : World.cell? _ ⟨gb7, 8, none⟩ = some (.int .i64 0) := (yR BK7.out 8).trans rfl
      have hfz7_8 := yS BK7.out 8
      have HM' := yA (show othAt L a0 a0.size 0 = i by rw [HM.out, if_pos rfl])
      clear HM
      go_wp2_with (first | ((with_reducible refine yO (f := 61) rfl ?_); (try (refine gate_guard (by rfl) ?_; dsimp only)); refine goesL_ (some 29) rfl rfl Tryd.func61 (by kernel_rfl) rfl #[.int .u8 (bt a0 i)] rfl (by (try simp only [List.map_toArray, List.map_cons, List.map_nil]); first | done | rfl) ?_; refine (rcap_any (bt a0 i) _ HLQ.out _).mono ?_; rintro e wa ⟨rfl, hb⟩; refine ⟨_, rfl, ?_⟩; replace HB := yA (yB HB.out hb); replace BK4 := yA (yC BK4.out hb); replace BK7 := yA (yC BK7.out hb); clear hb; have hcz4_0 : World.cell? _ ⟨gb4, 0, none⟩ = some (.int .i64 0) := (yR BK4.out 0).trans rfl; have hfz4_0 := yS BK4.out 0; have hcz4_1 : World.cell? _ ⟨gb4, 1, none⟩ = some (.string (⟨#[]⟩ : ByteArray)) := (yR BK4.out 1).trans rfl; have hfz4_1 := yS BK4.out 1; have hcz4_2 : World.cell? _ ⟨gb4, 2, none⟩ = some (.int .i64 0) := (yR BK4.out 2).trans rfl; have hfz4_2 := yS BK4.out 2; have hcz4_3 : World.cell? _ ⟨gb4, 3, none⟩ = some (.int .i64 0) := (yR BK4.out 3).trans rfl; have hfz4_3 := yS BK4.out 3; have hcz4_4 : World.cell? _ ⟨gb4, 4, none⟩ = some (.int .i64 0) := (yR BK4.out 4).trans rfl; have hfz4_4 := yS BK4.out 4; have hcz4_5 : World.cell? _ ⟨gb4, 5, none⟩ = some (.int .i64 0) := (yR BK4.out 5).trans rfl; have hfz4_5 := yS BK4.out 5; have hcz4_6 : World.cell? _ ⟨gb4, 6, none⟩ = some (.int .i64 0) := (yR BK4.out 6).trans rfl; have hfz4_6 := yS BK4.out 6; have hcz4_7 : World.cell? _ ⟨gb4, 7, none⟩ = some (.int .i64 0) := (yR BK4.out 7).trans rfl; have hfz4_7 := yS BK4.out 7; have hcz4_8 : World.cell? _ ⟨gb4, 8, none⟩ = some (.int .i64 0) := (yR BK4.out 8).trans rfl; have hfz4_8 := yS BK4.out 8; have hcz7_0 : World.cell? _ ⟨gb7, 0, none⟩ = some (.int .i64 1) := (yR BK7.out 0).trans rfl; have hfz7_0 := yS BK7.out 0))
      have HW := yA (show rname false a0 a1 = (0, (⟨#[]⟩ : ByteArray), 0, 0, 0, 0, 0, 0, 0, wrap64 (a1 + i), 61) by unfold rname; rw [HL.out, HM'.out, if_pos c3])
      refine bodyPost_ret (results_ctt rfl _ _ gb4 32 #[.int .i64 0, .string (⟨#[]⟩ : ByteArray), .int .i64 0, .int .i64 0, .int .i64 0, .int .i64 0, .int .i64 0, .int .i64 0, .int .i64 0] (0, 0) _ rfl (put9 BK4.out (.int .i64 0) (.string (⟨#[]⟩ : ByteArray)) (.int .i64 0) (.int .i64 0) (.int .i64 0) (.int .i64 0) (.int .i64 0) (.int .i64 0) (.int .i64 0)) Tryd.underlying32 rfl (by kernel_rfl)) rfl ?_
      exact ⟨by rw [HW.out]; rfl, bel9 HB.out GE4.out (.int .i64 0) (.string (⟨#[]⟩ : ByteArray)) (.int .i64 0) (.int .i64 0) (.int .i64 0) (.int .i64 0) (.int .i64 0) (.int .i64 0) (.int .i64 0)⟩
     | false =>
      replace BK7 : Aside0 ((_ : Option Obj) = some (Obj.cells #[.int .i64 1, .string a0, .int .i64 a1, .int .i64 0, .int .i64 0, .int .i64 0, .int .i64 0, .int .i64 0, .int .i64 0] 32 (0, 0))) := BK7
      have HLQ := yA (show bigB (bt a0 i) = false by rw [← HLB.out, ← HL.out]; rfl)
      have hcz7_0 : World.cell? _ ⟨gb7, 0, none⟩ = some (.int .i64 1) := (yR BK7.out 0).trans rfl
      have hfz7_0 := yS BK7.out 0
      have hcz7_1 : World.cell? _ ⟨gb7, 1, none⟩ = some (.string a0) := (yR BK7.out 1).trans rfl
      have hfz7_1 := yS BK7.out 1
      have hcz7_2 : World.cell? _ ⟨gb7, 2, none⟩ = some (.int .i64 a1) := (yR BK7.out 2).trans rfl
      have hfz7_2 := yS BK7.out 2
      have hcz7_3 : World.cell? _ ⟨gb7, 3, none⟩ = some (.int .i64 0) := (yR BK7.out 3).trans rfl
      have hfz7_3 := yS BK7.out 3
      have hcz7_4 : World.cell? _ ⟨gb7, 4, none⟩ = some (.int .i64 0) := (yR BK7.out 4).trans rfl
      have hfz7_4 := yS BK7.out 4
      have hcz7_5 : World.cell? _ ⟨gb7, 5, none⟩ = some (.int .i64 0) := (yR BK7.out 5).trans rfl
      have hfz7_5 := yS BK7.out 5
      have hcz7_6 : World.cell? _ ⟨gb7, 6, none⟩ = some (.int .i64 0) := (yR BK7.out 6).trans rfl
      have hfz7_6 := yS BK7.out 6
      have hcz7_7 : World.cell? _ ⟨gb7, 7, none⟩ = some (.int .i64 0) := (yR BK7.out 7).trans rfl
      have hfz7_7 := yS BK7.out 7
      have hcz7_8 : World.cell? _ ⟨gb7, 8, none⟩ = some (.int .i64 0) := (yR BK7.out 8).trans rfl
      have hfz7_8 := yS BK7.out 8
      have HM' := yA (show othAt L a0 a0.size 0 = othAt L a0 n (i + 1) by rw [HM.out, if_neg (by decide)])
      clear HM
      go_wp2_with (first | ((with_reducible refine yO (f := 61) rfl ?_); (try (refine gate_guard (by rfl) ?_; dsimp only)); refine goesL_ (some 29) rfl rfl Tryd.func61 (by kernel_rfl) rfl #[.int .u8 (bt a0 i)] rfl (by (try simp only [List.map_toArray, List.map_cons, List.map_nil]); first | done | rfl) ?_; refine (rcap_any (bt a0 i) _ HLQ.out _).mono ?_; rintro e wa ⟨rfl, hb⟩; refine ⟨_, rfl, ?_⟩; replace HB := yA (yB HB.out hb); replace BK4 := yA (yC BK4.out hb); replace BK7 := yA (yC BK7.out hb); clear hb; have hcz7_0 : World.cell? _ ⟨gb7, 0, none⟩ = some (.int .i64 1) := (yR BK7.out 0).trans rfl; have hfz7_0 := yS BK7.out 0))
      go_roundw
      case measure => have := HI.out; have := HS.out; simp [intOf]; (try rw [w64 (by omega)]); omega
      case rel => exact ⟨i + 1, by first | rfl | (rw [w64 (by have := HI.out; have := HS.out; omega)]), ⟨by have := HI.out; omega⟩, ⟨by rw [HN.out]; exact HM'.out⟩, BK4, BK7, HB⟩
   ·have c3b0 : decide (i < (a0.size : Int)) = false := yM c3
    have HE := yA (show othAt L a0 a0.size 0 = (a0.size : Int) by rw [HM.out, show a0.size - i.toNat = 0 by have := HI.out; omega]; have := HI.out; show i = _; omega)
    clear HM
    by_cases c4 : (a0.size : Int) > 31
    ·have c4b0 : decide ((a0.size : Int) > 31) = true := yL c4
     have c4b1 : decide (31 < (a0.size : Int)) = true := yL c4
     have HW := yA (show rname q a0 a1 = (0, (⟨#[]⟩ : ByteArray), 0, 0, 0, 0, 0, 0, 0, a1, 6) by unfold rname; rw [HL.out, HE.out, if_neg (by omega), if_pos c4])
     clear c4
     have hcz4_0 : World.cell? _ ⟨gb4, 0, none⟩ = some (.int .i64 0) := (yR BK4.out 0).trans rfl
     have hfz4_0 := yS BK4.out 0
     have hcz4_1 : World.cell? _ ⟨gb4, 1, none⟩ = some (.string (⟨#[]⟩ : ByteArray)) := (yR BK4.out 1).trans rfl
     have hfz4_1 := yS BK4.out 1
     have hcz4_2 : World.cell? _ ⟨gb4, 2, none⟩ = some (.int .i64 0) := (yR BK4.out 2).trans rfl
     have hfz4_2 := yS BK4.out 2
     have hcz4_3 : World.cell? _ ⟨gb4, 3, none⟩ = some (.int .i64 0) := (yR BK4.out 3).trans rfl
     have hfz4_3 := yS BK4.out 3
     have hcz4_4 : World.cell? _ ⟨gb4, 4, none⟩ = some (.int .i64 0) := (yR BK4.out 4).trans rfl
     have hfz4_4 := yS BK4.out 4
     have hcz4_5 : World.cell? _ ⟨gb4, 5, none⟩ = some (.int .i64 0) := (yR BK4.out 5).trans rfl
     have hfz4_5 := yS BK4.out 5
     have hcz4_6 : World.cell? _ ⟨gb4, 6, none⟩ = some (.int .i64 0) := (yR BK4.out 6).trans rfl
     have hfz4_6 := yS BK4.out 6
     have hcz4_7 : World.cell? _ ⟨gb4, 7, none⟩ = some (.int .i64 0) := (yR BK4.out 7).trans rfl
     have hfz4_7 := yS BK4.out 7
     have hcz4_8 : World.cell? _ ⟨gb4, 8, none⟩ = some (.int .i64 0) := (yR BK4.out 8).trans rfl
     have hfz4_8 := yS BK4.out 8
     go_wp2
     refine bodyPost_ret (results_ctt rfl _ _ gb4 32 #[.int .i64 0, .string (⟨#[]⟩ : ByteArray), .int .i64 0, .int .i64 0, .int .i64 0, .int .i64 0, .int .i64 0, .int .i64 0, .int .i64 0] (0, 0) _ rfl (put9 BK4.out (.int .i64 0) (.string (⟨#[]⟩ : ByteArray)) (.int .i64 0) (.int .i64 0) (.int .i64 0) (.int .i64 0) (.int .i64 0) (.int .i64 0) (.int .i64 0)) Tryd.underlying32 rfl (by kernel_rfl)) rfl ?_
     exact ⟨by rw [HW.out]; rfl, bel9 HB.out GE4.out (.int .i64 0) (.string (⟨#[]⟩ : ByteArray)) (.int .i64 0) (.int .i64 0) (.int .i64 0) (.int .i64 0) (.int .i64 0) (.int .i64 0) (.int .i64 0)⟩
    ·have c4b0 : decide ((a0.size : Int) > 31) = false := yM c4
     have c4b1 : decide (31 < (a0.size : Int)) = false := yM c4
     have HW := yA (show rname q a0 a1 = (if q = true then 2 else 1, a0, a1, 0, 0, 0, 0, 0, 0, 0, 0) by unfold rname; rw [HL.out, HE.out, if_neg (by omega), if_neg c4])
     clear c4
     cases q with
     | true =>
      replace BK7 : Aside0 ((_ : Option Obj) = some (Obj.cells #[.int .i64 2, .string a0, .int .i64 a1, .int .i64 0, .int .i64 0, .int .i64 0, .int .i64 0, .int .i64 0, .int .i64 0] 32 (0, 0))) := BK7
      have hcz4_0 : World.cell? _ ⟨gb4, 0, none⟩ = some (.int .i64 0) := (yR BK4.out 0).trans rfl
      have hfz4_0 := yS BK4.out 0
      have hcz4_1 : World.cell? _ ⟨gb4, 1, none⟩ = some (.string (⟨#[]⟩ : ByteArray)) := (yR BK4.out 1).trans rfl
      have hfz4_1 := yS BK4.out 1
      have hcz4_2 : World.cell? _ ⟨gb4, 2, none⟩ = some (.int .i64 0) := (yR BK4.out 2).trans rfl
      have hfz4_2 := yS BK4.out 2
      have hcz4_3 : World.cell? _ ⟨gb4, 3, none⟩ = some (.int .i64 0) := (yR BK4.out 3).trans rfl
      have hfz4_3 := yS BK4.out 3
      have hcz4_4 : World.cell? _ ⟨gb4, 4, none⟩ = some (.int .i64 0) := (yR BK4.out 4).trans rfl
      have hfz4_4 := yS BK4.out 4
      have hcz4_5 : World.cell? _ ⟨gb4, 5, none⟩ = some (.int .i64 0) := (yR BK4.out 5).trans rfl
      have hfz4_5 := yS BK4.out 5
      have hcz4_6 : World.cell? _ ⟨gb4, 6, none⟩ = some (.int .i64 0) := (yR BK4.out 6).trans rfl
      have hfz4_6 := yS BK4.out 6
      have hcz4_7 : World.cell? _ ⟨gb4, 7, none⟩ = some (.int .i64 0) := (yR BK4.out 7).trans rfl
      have hfz4_7 := yS BK4.out 7
      have hcz4_8 : World.cell? _ ⟨gb4, 8, none⟩ = some (.int .i64 0) := (yR BK4.out 8).trans rfl
      have hfz4_8 := yS BK4.out 8
      have hcz7_0 : World.cell? _ ⟨gb7, 0, none⟩ = some (.int .i64 2) := (yR BK7.out 0).trans rfl
      have hfz7_0 := yS BK7.out 0
      have hcz7_1 : World.cell? _ ⟨gb7, 1, none⟩ = some (.string a0) := (yR BK7.out 1).trans rfl
      have hfz7_1 := yS BK7.out 1
      have hcz7_2 : World.cell? _ ⟨gb7, 2, none⟩ = some (.int .i64 a1) := (yR BK7.out 2).trans rfl
      have hfz7_2 := yS BK7.out 2
      have hcz7_3 : World.cell? _ ⟨gb7, 3, none⟩ = some (.int .i64 0) := (yR BK7.out 3).trans rfl
      have hfz7_3 := yS BK7.out 3
      have hcz7_4 : World.cell? _ ⟨gb7, 4, none⟩ = some (.int .i64 0) := (yR BK7.out 4).trans rfl
      have hfz7_4 := yS BK7.out 4
      have hcz7_5 : World.cell? _ ⟨gb7, 5, none⟩ = some (.int .i64 0) := (yR BK7.out 5).trans rfl
      have hfz7_5 := yS BK7.out 5
      have hcz7_6 : World.cell? _ ⟨gb7, 6, none⟩ = some (.int .i64 0) := (yR BK7.out 6).trans rfl
      have hfz7_6 := yS BK7.out 6
      have hcz7_7 : World.cell? _ ⟨gb7, 7, none⟩ = some (.int .i64 0) := (yR BK7.out 7).trans rfl
      have hfz7_7 := yS BK7.out 7
      have hcz7_8 : World.cell? _ ⟨gb7, 8, none⟩ = some (.int .i64 0) := (yR BK7.out 8).trans rfl
      have hfz7_8 := yS BK7.out 8
      go_wp2
      refine bodyPost_ret (results_ctt rfl _ _ gb4 32 #[.int .i64 2, .string a0, .int .i64 a1, .int .i64 0, .int .i64 0, .int .i64 0, .int .i64 0, .int .i64 0, .int .i64 0] (0, 0) _ rfl (put9 BK4.out (.int .i64 2) (.string a0) (.int .i64 a1) (.int .i64 0) (.int .i64 0) (.int .i64 0) (.int .i64 0) (.int .i64 0) (.int .i64 0)) Tryd.underlying32 rfl (by kernel_rfl)) rfl ?_
      exact ⟨by rw [HW.out]; rfl, bel9 HB.out GE4.out (.int .i64 2) (.string a0) (.int .i64 a1) (.int .i64 0) (.int .i64 0) (.int .i64 0) (.int .i64 0) (.int .i64 0) (.int .i64 0)⟩
     | false =>
      replace BK7 : Aside0 ((_ : Option Obj) = some (Obj.cells #[.int .i64 1, .string a0, .int .i64 a1, .int .i64 0, .int .i64 0, .int .i64 0, .int .i64 0, .int .i64 0, .int .i64 0] 32 (0, 0))) := BK7
      have hcz4_0 : World.cell? _ ⟨gb4, 0, none⟩ = some (.int .i64 0) := (yR BK4.out 0).trans rfl
      have hfz4_0 := yS BK4.out 0
      have hcz4_1 : World.cell? _ ⟨gb4, 1, none⟩ = some (.string (⟨#[]⟩ : ByteArray)) := (yR BK4.out 1).trans rfl
      have hfz4_1 := yS BK4.out 1
      have hcz4_2 : World.cell? _ ⟨gb4, 2, none⟩ = some (.int .i64 0) := (yR BK4.out 2).trans rfl
      have hfz4_2 := yS BK4.out 2
      have hcz4_3 : World.cell? _ ⟨gb4, 3, none⟩ = some (.int .i64 0) := (yR BK4.out 3).trans rfl
      have hfz4_3 := yS BK4.out 3
      have hcz4_4 : World.cell? _ ⟨gb4, 4, none⟩ = some (.int .i64 0) := (yR BK4.out 4).trans rfl
      have hfz4_4 := yS BK4.out 4
      have hcz4_5 : World.cell? _ ⟨gb4, 5, none⟩ = some (.int .i64 0) := (yR BK4.out 5).trans rfl
      have hfz4_5 := yS BK4.out 5
      have hcz4_6 : World.cell? _ ⟨gb4, 6, none⟩ = some (.int .i64 0) := (yR BK4.out 6).trans rfl
      have hfz4_6 := yS BK4.out 6
      have hcz4_7 : World.cell? _ ⟨gb4, 7, none⟩ = some (.int .i64 0) := (yR BK4.out 7).trans rfl
      have hfz4_7 := yS BK4.out 7
      have hcz4_8 : World.cell? _ ⟨gb4, 8, none⟩ = some (.int .i64 0) := (yR BK4.out 8).trans rfl
      have hfz4_8 := yS BK4.out 8
      have hcz7_0 : World.cell? _ ⟨gb7, 0, none⟩ = some (.int .i64 1) := (yR BK7.out 0).trans rfl
      have hfz7_0 := yS BK7.out 0
      have hcz7_1 : World.cell? _ ⟨gb7, 1, none⟩ = some (.string a0) := (yR BK7.out 1).trans rfl
      have hfz7_1 := yS BK7.out 1
      have hcz7_2 : World.cell? _ ⟨gb7, 2, none⟩ = some (.int .i64 a1) := (yR BK7.out 2).trans rfl
      have hfz7_2 := yS BK7.out 2
      have hcz7_3 : World.cell? _ ⟨gb7, 3, none⟩ = some (.int .i64 0) := (yR BK7.out 3).trans rfl
      have hfz7_3 := yS BK7.out 3
      have hcz7_4 : World.cell? _ ⟨gb7, 4, none⟩ = some (.int .i64 0) := (yR BK7.out 4).trans rfl
      have hfz7_4 := yS BK7.out 4
      have hcz7_5 : World.cell? _ ⟨gb7, 5, none⟩ = some (.int .i64 0) := (yR BK7.out 5).trans rfl
      have hfz7_5 := yS BK7.out 5
      have hcz7_6 : World.cell? _ ⟨gb7, 6, none⟩ = some (.int .i64 0) := (yR BK7.out 6).trans rfl
      have hfz7_6 := yS BK7.out 6
      have hcz7_7 : World.cell? _ ⟨gb7, 7, none⟩ = some (.int .i64 0) := (yR BK7.out 7).trans rfl
      have hfz7_7 := yS BK7.out 7
      have hcz7_8 : World.cell? _ ⟨gb7, 8, none⟩ = some (.int .i64 0) := (yR BK7.out 8).trans rfl
      have hfz7_8 := yS BK7.out 8
      go_wp2
      refine bodyPost_ret (results_ctt rfl _ _ gb4 32 #[.int .i64 1, .string a0, .int .i64 a1, .int .i64 0, .int .i64 0, .int .i64 0, .int .i64 0, .int .i64 0, .int .i64 0] (0, 0) _ rfl (put9 BK4.out (.int .i64 1) (.string a0) (.int .i64 a1) (.int .i64 0) (.int .i64 0) (.int .i64 0) (.int .i64 0) (.int .i64 0) (.int .i64 0)) Tryd.underlying32 rfl (by kernel_rfl)) rfl ?_
      exact ⟨by rw [HW.out]; rfl, bel9 HB.out GE4.out (.int .i64 1) (.string a0) (.int .i64 a1) (.int .i64 0) (.int .i64 0) (.int .i64 0) (.int .i64 0) (.int .i64 0) (.int .i64 0)⟩
end Go.Proofs.YtkfdninngcakpaaDoor.Pure
