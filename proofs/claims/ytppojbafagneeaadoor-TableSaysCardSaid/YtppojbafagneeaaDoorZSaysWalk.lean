/- Own text, for this claim: TableSays: the law walked. Printed by wip/tools/mksays.py. -/
import Derived.Test.YtppojbafagneeaaDoorZPlainTab
import Derived.Test.YtppojbafagneeaaDoorZSaysP
namespace Go.Proofs.YtppojbafagneeaaDoor.Pure
open Go.RowKit Go.Maps Go.ChangeShapes Go.WideShapes Go.Proofs.YtppojbafagneeaaDoor.PTab Go.Proofs.YtppojbafagneeaaDoorW.PrintWords Go.Proofs.YtppojbafagneeaaDoorW.PrintLast Go.Proofs.YtppojbafagneeaaDoorW.PrintMore
set_option linter.unusedVariables false
set_option linter.unusedSimpArgs false
attribute [local go_sem high] eqA52 eqA68
theorem valid_is {w : World} {A B : Option Addr} {c d : Nat} {l0 : List ByteArray} {l1 : List (List S52)} (h : TB w A c l0 B d l1) (hs : SmallT l0 l1) {v : Int} (hv : validT l0 l1 = v) : Calls Tryd.prog 20 #[.agg #[.slice A l0.length c, .slice B l1.length d]] w fun e w' => e = .returned (.int .i64 v) ∧ Below w.heap.size w w' := by
 subst hv
 exact valid_tb h hs
structure TO (w : World) (A : Option Addr) (c : Nat) (l0 : List ByteArray) (B : Option Addr) (d : Nat) (l1 : List (List S52)) : Prop where
 n : ∃ b, Kd.R Kd.string 9 w b (fun _ => True) (.slice A l0.length c) l0
 r : ∃ b, Kd.S (Kd.slice 52 k52) 54 w b (fun _ => True) (.slice B l1.length d) l1
theorem TO.below {w w1 : World} {A B : Option Addr} {c d : Nat} {l0 : List ByteArray} {l1 : List (List S52)} (h : TO w A c l0 B d l1) (hb : Below w.heap.size w w1) : TO w1 A c l0 B d l1 :=
 ⟨h.n.imp fun _ q => Kd.R_below q hb, h.r.imp fun _ q => Kd.S_below q hb⟩
theorem TO.drew {w : World} {A B : Option Addr} {c d : Nat} {l0 : List ByteArray} {l1 : List (List S52)} (h : TO w A c l0 B d l1) : TO w.drew A c l0 B d l1 := h.below (below_drew (Below.refl _ _))
theorem TO.set {w : World} {A B : Option Addr} {c d : Nat} {l0 : List ByteArray} {l1 : List (List S52)} (h : TO w A c l0 B d l1) {g : Nat} {cs : Array Value} (hb : w.heap[g]? = some (.cells cs 25 (0, 0))) (j : Nat) (u : Value) : TO (w.setCell ⟨g, j, none⟩ u) A c l0 B d l1 :=
 ⟨h.n.imp fun _ q => Kd.R_set q hb (by decide) j u, h.r.imp fun _ q => Kd.S_set q hb (by decide) j u⟩
theorem TO.tb {w : World} {A B : Option Addr} {c d : Nat} {l0 : List ByteArray} {l1 : List (List S52)} (h : TO w A c l0 B d l1) : TB w A c l0 B d l1 := by
 obtain ⟨⟨b, hn⟩, ⟨b', hr⟩⟩ := h
 exact ⟨(Kd.R_reads' hn).2.2, (Kd.R_reads' hn).2.1, (Kd.S_reads' hr).2.2, (Kd.S_reads' hr).2.1⟩
theorem cut_to {w : World} {A B : Option Addr} {c d : Nat} {l0 m0 : List ByteArray} {l1 m1 : List (List S52)} (h : TB w A c l0 B d l1) {k : Nat} {n e : Int} (hf : table_Cut.f k l0 l1 n = some (m0, m1, e)) :
  Calls Tryd.prog 36 #[.agg #[.slice A l0.length c, .slice B l1.length d], .int .i64 n] w fun x w' => ∃ (A' : Option Addr) (c' : Nat) (B' : Option Addr) (d' : Nat), x = .returned (.tuple #[.agg #[.slice A' m0.length c', .slice B' m1.length d'], .int .i64 e]) ∧ TO w' A' c' m0 B' d' m1 ∧ Below w.heap.size w w' := by
 refine (table_Cut.calls k A c l0 B d l1 n m0 m1 e w h.n h.hn h.r h.hr hf).mono ?_
 rintro x w' ⟨v0, v1, rfl, h0, h1, hb⟩
 obtain ⟨A', c', rfl⟩ := Kd.R_slice h0
 obtain ⟨B', d', rfl⟩ := Kd.S_slice h1
 exact ⟨A', c', B', d', rfl, ⟨⟨_, h0⟩, ⟨_, h1⟩⟩, hb⟩
theorem overlay_to {w : World} {A A' B B' : Option Addr} {c c' d d' : Nat} {l0 m0 p0 : List ByteArray} {l1 m1 p1 : List (List S52)} (h : TB w A c l0 B d l1) (g : TB w A' c' m0 B' d' m1) {k : Nat} {e : Int} (hf : table_Overlay.f k l0 l1 m0 m1 = some (p0, p1, e)) :
  Calls Tryd.prog 37 #[.agg #[.slice A l0.length c, .slice B l1.length d], .agg #[.slice A' m0.length c', .slice B' m1.length d']] w fun x w' => ∃ (C : Option Addr) (q : Nat) (D : Option Addr) (s : Nat), x = .returned (.tuple #[.agg #[.slice C p0.length q, .slice D p1.length s], .int .i64 e]) ∧ TO w' C q p0 D s p1 ∧ Below w.heap.size w w' := by
 refine (table_Overlay.calls k A c l0 B d l1 A' c' m0 B' d' m1 p0 p1 e w h.n h.hn h.r h.hr g.n g.hn g.r g.hr hf).mono ?_
 rintro x w' ⟨v0, v1, rfl, h0, h1, hb⟩
 obtain ⟨C, q, rfl⟩ := Kd.R_slice h0
 obtain ⟨D, s, rfl⟩ := Kd.S_slice h1
 exact ⟨C, q, D, s, rfl, ⟨⟨_, h0⟩, ⟨_, h1⟩⟩, hb⟩
theorem cell_is {w : World} {A B : Option Addr} {c d : Nat} {l0 : List ByteArray} {l1 : List (List S52)} (h : TB w A c l0 B d l1) (hs : SmallT l0 l1) (hv : validT l0 l1 = 0) {n : ByteArray} {day : Int} {b p0 : Bool} {p1 : Int} (hc : capB n = b) (hp : bcell l0 l1 n day = ⟨p0, p1⟩) :
  Calls Tryd.prog 38 #[.agg #[.slice A l0.length c, .slice B l1.length d], .string n, .int .i64 day] w fun e w' => e = .returned (.tuple #[.agg #[.bool p0, .int .i64 p1], .bool b]) ∧ Below w.heap.size w w' := by
 obtain ⟨k, hk⟩ := (bcell_ev hs hv n day).rounds
 rw [hp, hc] at hk
 exact payofflaw05_cell.calls k A c l0 B d l1 n day p0 p1 b w h.n h.hn h.r h.hr hk
theorem missing_is {w : World} {A B C : Option Addr} {c d f : Nat} {l0 : List ByteArray} {l1 : List (List S52)} (h : TB w A c l0 B d l1) (hs : SmallT l0 l1) (hv : validT l0 l1 = 0) {n : ByteArray} (hc : capB n = true) {day : Int} (h0 : 0 ≤ day) (h1 : day ≤ 3660) (hn : Kd.C Kd.string w C 1 [n]) (hf : 1 ≤ f) :
  Calls Tryd.prog 39 #[.agg #[.slice A l0.length c, .slice B l1.length d], .slice C 1 f, .int .i64 day] w fun e w' => ∃ (D : Option Addr) (q : Nat), e = .returned (.tuple #[.slice D (missD l0 l1 n (day.toNat + 1)).length q, .int .i64 0]) ∧ Kd.C k68 w' D (missD l0 l1 n (day.toNat + 1)).length (missD l0 l1 n (day.toNat + 1)) ∧ Below w.heap.size w w' := by
 obtain ⟨m, rfl⟩ := Int.eq_ofNat_of_zero_le h0
 obtain ⟨k, hk⟩ := (missing_ev hs hv hc m (by omega)).rounds
 refine (table_Missing.calls k A c l0 B d l1 C f [n] (m : Int) _ _ w h.n h.hn h.r h.hr hn hf hk).mono ?_
 rintro x w' ⟨v0, rfl, ho, hb⟩
 obtain ⟨D, q, rfl⟩ := Kd.R_slice ho
 exact ⟨D, q, rfl, (Kd.R_reads' ho).2.2, hb⟩
theorem bcell_of {l0 : List ByteArray} {l1 : List (List S52)} {n : ByteArray} {d : Int} (h : capB n = true) : bcell l0 l1 n d = cellC l0 l1 n d := by unfold bcell; rw [if_pos h]
theorem cut_neg (l0 : List ByteArray) (l1 : List (List S52)) {r : Int} (h : r < 0) : table_Cut.f 0 l0 l1 r = some ([], [], 1) := by unfold table_Cut.f; rw [if_pos h]
theorem overlay_all {l0 : List ByteArray} {l1 : List (List S52)} {m0 : List ByteArray} {m1 : List (List S52)} (hs : SmallT l0 l1) (gs : SmallT m0 m1) : ∃ (k : Nat) (xn : List ByteArray) (xr : List (List S52)) (xe : Int), table_Overlay.f k l0 l1 m0 m1 = some (xn, xr, xe) ∧ (¬ (validT l0 l1 = 0 ∧ validT m0 m1 = 0) → xe ≠ 0) ∧
  (validT l0 l1 = 0 → validT m0 m1 = 0 → (xe = 0 ∧ xn = ovNames l0 m0 ∧ xr = ovRows l0 l1 m0 m1 ∧ (ovNames l0 m0).length ≤ 64) ∨ (xe = 6 ∧ 64 < l0.length + m0.length)) := by
 by_cases hv : validT l0 l1 = 0
 ·by_cases gv : validT m0 m1 = 0
  ·obtain ⟨k, hk⟩ := (overlay_ev hs hv gs gv).rounds
   by_cases hn : (ovNames l0 m0).length ≤ 64
   ·rw [if_pos hn] at hk
    exact ⟨k, _, _, _, hk, fun h => absurd ⟨hv, gv⟩ h, fun _ _ => Or.inl ⟨rfl, rfl, rfl, hn⟩⟩
   ·rw [if_neg hn] at hk
    refine ⟨k, _, _, _, hk, fun h => absurd ⟨hv, gv⟩ h, fun _ _ => Or.inr ⟨rfl, ?_⟩⟩
    have h1 : (ovNames l0 m0).length ≤ l0.length + m0.length := by
     unfold ovNames
     rw [List.length_append]
     have := List.length_filter_le (fun n => !has (colD l0 0 (.map [])) (keyS n)) m0
     omega
    omega
  ·have h : Ev (fun k => table_Overlay.f k l0 l1 m0 m1) ([], [], validT m0 m1) := by
    unfold table_Overlay.f
    exact Ev.pos' ⟨hs.n, gs.n⟩ (Ev.bind (valid_ev0 hs hv) (Ev.pos rfl (Ev.bind (validT_ev m0 m1 gs) (Ev.neg gv (Ev.ret rfl)))))
   obtain ⟨k, hk⟩ := h.rounds
   exact ⟨k, _, _, _, hk, fun _ => gv, fun _ h => absurd h gv⟩
 ·have h : Ev (fun k => table_Overlay.f k l0 l1 m0 m1) ([], [], validT l0 l1) := by
   unfold table_Overlay.f
   exact Ev.pos' ⟨hs.n, gs.n⟩ (Ev.bind (validT_ev l0 l1 hs) (Ev.neg hv (Ev.ret rfl)))
  obtain ⟨k, hk⟩ := h.rounds
  exact ⟨k, _, _, _, hk, fun _ => hv, fun h => absurd h hv⟩
def payofflaw05_TableSays.T5 : Bool × List (List Nat × List Nat) := (true, [([], []), ([0], [0]), ([], []), ([2, 1], [2]), ([1, 3, 3], [1, 3]), ([4], [4]), ([5], [5]), ([5], [5]), ([], []), ([8, 6, 4, 0, 1, 2, 3, 4, 5, 6, 8], [6, 8]), ([7, 9, 0, 1, 2, 3, 4, 5, 6, 7, 8, 9], [7])])
def payofflaw05_TableSays.B5 : List Nat := [0, 1, 0, 7, 15, 31, 63, 63, 0, 383, 1023]
theorem payofflaw05_TableSays.tab5 : rtab .any (opsOf Tryd.f15 5) = payofflaw05_TableSays.T5 := by kernel_rfl
theorem payofflaw05_TableSays.bits5 : waitsOk payofflaw05_TableSays.T5.2 payofflaw05_TableSays.B5 = true := by kernel_rfl
theorem payofflaw05_TableSays.tab7 : rtab .any (opsOf Tryd.f15 7) = payofflaw05_TableSays.T5 := by kernel_rfl
theorem payofflaw05_TableSays.bits7 : waitsOk payofflaw05_TableSays.T5.2 payofflaw05_TableSays.B5 = true := by kernel_rfl
set_option maxHeartbeats 8000000 in
set_option maxRecDepth 100000 in
theorem TableSays_walk0 (A0 : Option Addr) (c0 : Nat) (l0 : List ByteArray) (A1 : Option Addr) (c1 : Nat) (l1 : List (List S52)) (B0 : Option Addr) (d0 : Nat) (m0 : List ByteArray) (B1 : Option Addr) (d1 : Nat) (m1 : List (List S52)) (nm : ByteArray) (day rows : Int) (w : World) (ha : TB w A0 c0 l0 A1 c1 l1) (hb : TB w B0 d0 m0 B1 d1 m1) (sa : SmallT l0 l1) (sb : SmallT m0 m1) (hG : GB w) :
  Calls Tryd.prog 15 #[.agg #[.slice A0 l0.length c0, .slice A1 l1.length c1], .agg #[.slice B0 m0.length d0, .slice B1 m1.length d1], .string nm, .int .i64 day, .int .i64 rows] w fun e w' => e = .returned (.bool true) ∧ Below w.heap.size w w' := by
 have hu25 := Tryd.underlying25
 have hu52 := Tryd.underlying52
 have hu68 := Tryd.underlying68
 have HA := yA ha
 have HBT := yA hb
 have SA := yA sa
 have SB := yA sb
 have HG := yA hG
 have HB := yA (Below.refl w.heap.size w)
 clear ha hb sa sb hG
 go_enter Tryd.func15, Tryd.ntmps15
 go_upto_region 4 with (first | ((with_reducible refine yP (N := 5) rfl ?_); refine yQ ?hg (N := 5) ?hd (cs := #[.slice A0 l0.length c0, .slice A1 l1.length c1]) (t := 25) ?hr ?_; (case hd => rfl); (case hg => rfl); (case hr => first | (go_simp; done) | (go_simp; rfl)); intro gb5 hg w3 hbox hb; replace HB := yA (yB HB.out hb); have BK5 := yA (hbox); clear hb hg hbox) | ((with_reducible refine yP (N := 6) rfl ?_); refine yQ ?hg (N := 6) ?hd (cs := #[.slice B0 m0.length d0, .slice B1 m1.length d1]) (t := 25) ?hr ?_; (case hd => rfl); (case hg => rfl); (case hr => first | (go_simp; done) | (go_simp; rfl)); intro gb6 hg w4 hbox hb; replace HB := yA (yB HB.out hb); replace BK5 := yA (yC BK5.out hb); have BK6 := yA (hbox); clear hb hg hbox) | ((with_reducible refine yO (f := 32) rfl ?_); refine goesL_ (some 34) rfl rfl Tryd.func32 (by kernel_rfl) rfl #[] rfl (by (try simp only [List.map_toArray, List.map_cons, List.map_nil]); first | done | rfl) ?_; refine (plain_raw _).mono ?_; rintro e w5 ⟨g0, g1, g2, g3, gO, rfl, hp, hb⟩; refine ⟨_, rfl, ?_⟩; have P0 := yA (hp); replace HB := yA (yB HB.out hb); replace BK5 := yA (yC BK5.out hb); replace BK6 := yA (yC BK6.out hb); clear hb; clear hp) | ((with_reducible refine yO (f := 31) rfl ?_); refine goesL_ (some 35) rfl rfl Tryd.func31 (by kernel_rfl) rfl #[.agg #[.slice (some ⟨g0, 0, none⟩) 2 2, .slice (some ⟨gO, 0, none⟩) 3 3]] rfl (by (try simp only [List.map_toArray, List.map_cons, List.map_nil]); first | done | rfl) ?_; refine (back_tb (PB.tb P0.out) (HG.out.below HB.out)).mono ?_; rintro e w6 ⟨rfl, hb⟩; refine ⟨_, rfl, ?_⟩; replace HB := yA (yB HB.out hb); replace BK5 := yA (yC BK5.out hb); replace BK6 := yA (yC BK6.out hb); clear hb; clear P0))
 obtain ⟨va, hva⟩ : ∃ va, validT l0 l1 = va := ⟨_, rfl⟩
 obtain ⟨vb, hvb⟩ : ∃ vb, validT m0 m1 = vb := ⟨_, rfl⟩
 have HVA := yA hva
 have HVB := yA hvb
 clear hva hvb
 go_cut [47] (fun v47 wc => ∃ bad : Bool, v47 = .bool bad ∧ Aside0 (bad = true ↔ ¬ (va = 0 ∧ vb = 0)) ∧ Aside0 (wc.heap[gb5]? = some (.cells #[.slice A0 l0.length c0, .slice A1 l1.length c1] 25 (0, 0))) ∧ Aside0 (wc.heap[gb6]? = some (.cells #[.slice B0 m0.length d0, .slice B1 m1.length d1] 25 (0, 0))) ∧ Aside0 (Below w.heap.size w wc))
 case first =>
  have hcz5_0 : World.cell? _ ⟨gb5, 0, none⟩ = some (.slice A0 l0.length c0) := (yR BK5.out 0).trans rfl
  have hfz5_0 := yS BK5.out 0
  have hcz5_1 : World.cell? _ ⟨gb5, 1, none⟩ = some (.slice A1 l1.length c1) := (yR BK5.out 1).trans rfl
  have hfz5_1 := yS BK5.out 1
  by_cases h1 : va = 0
  ·have h10 : (va == 0) = true := beq_iff_eq.mpr h1
   have h11 : (va != 0) = false := bne_eq_false_iff_eq.mpr h1
   by_cases h2 : vb = 0
   ·have h20 : (vb == 0) = true := beq_iff_eq.mpr h2
    have h21 : (vb != 0) = false := bne_eq_false_iff_eq.mpr h2
    go_wp2_with (first | ((with_reducible refine yO (f := 16) rfl ?_); refine goesL_ (some 39) rfl rfl Tryd.func16 (by kernel_rfl) rfl #[.agg #[.slice A0 l0.length c0, .slice A1 l1.length c1]] rfl (by (try simp only [List.map_toArray, List.map_cons, List.map_nil]); first | done | rfl) ?_; refine (own_tb (HA.out.below HB.out) SA.out ((HG.out.below HB.out).beh)).mono ?_; rintro e wa ⟨Ao, co, Bo, do_, rfl, ht, hb⟩; refine ⟨_, rfl, ?_⟩; have T1 := yA (ht); replace HB := yA (yB HB.out hb); replace BK5 := yA (yC BK5.out hb); replace BK6 := yA (yC BK6.out hb); clear hb; clear ht) | ((with_reducible refine yO (f := 20) rfl ?_); refine goesL_ (some 40) rfl rfl Tryd.func20 (by kernel_rfl) rfl #[.agg #[.slice Ao l0.length co, .slice Bo l1.length do_]] rfl (by (try simp only [List.map_toArray, List.map_cons, List.map_nil]); first | done | rfl) ?_; refine (valid_is T1.out SA.out HVA.out).mono ?_; rintro e wb ⟨rfl, hb⟩; refine ⟨_, rfl, ?_⟩; replace HB := yA (yB HB.out hb); replace BK5 := yA (yC BK5.out hb); replace BK6 := yA (yC BK6.out hb); clear hb; clear T1; have hcz6_0 : World.cell? _ ⟨gb6, 0, none⟩ = some (.slice B0 m0.length d0) := (yR BK6.out 0).trans rfl; have hfz6_0 := yS BK6.out 0; have hcz6_1 : World.cell? _ ⟨gb6, 1, none⟩ = some (.slice B1 m1.length d1) := (yR BK6.out 1).trans rfl; have hfz6_1 := yS BK6.out 1) | ((with_reducible refine yO (f := 16) rfl ?_); (try (refine gate_guard (by rfl) ?_; dsimp only)); refine goesL_ (some 44) rfl rfl Tryd.func16 (by kernel_rfl) rfl #[.agg #[.slice B0 m0.length d0, .slice B1 m1.length d1]] rfl (by (try simp only [List.map_toArray, List.map_cons, List.map_nil]); first | done | rfl) ?_; refine (own_tb (HBT.out.below HB.out) SB.out ((HG.out.below HB.out).beh)).mono ?_; rintro e wa ⟨Ap, cp, Bp, dp, rfl, ht, hb⟩; refine ⟨_, rfl, ?_⟩; have T2 := yA (ht); replace HB := yA (yB HB.out hb); replace BK5 := yA (yC BK5.out hb); replace BK6 := yA (yC BK6.out hb); clear hb; clear ht) | ((with_reducible refine yO (f := 20) rfl ?_); (try (refine gate_guard (by rfl) ?_; dsimp only)); refine goesL_ (some 45) rfl rfl Tryd.func20 (by kernel_rfl) rfl #[.agg #[.slice Ap m0.length cp, .slice Bp m1.length dp]] rfl (by (try simp only [List.map_toArray, List.map_cons, List.map_nil]); first | done | rfl) ?_; refine (valid_is T2.out SB.out HVB.out).mono ?_; rintro e wb2 ⟨rfl, hb⟩; refine ⟨_, rfl, ?_⟩; replace HB := yA (yB HB.out hb); replace BK5 := yA (yC BK5.out hb); replace BK6 := yA (yC BK6.out hb); clear hb; clear T2))
    go_meet
    case rel => exact ⟨false, rfl, ⟨by simp [*]⟩, BK5, BK6, HB⟩
   ·have h20 : (vb == 0) = false := beq_eq_false_iff_ne.mpr h2
    have h21 : (vb != 0) = true := bne_iff_ne.mpr h2
    go_wp2_with (first | ((with_reducible refine yO (f := 16) rfl ?_); refine goesL_ (some 39) rfl rfl Tryd.func16 (by kernel_rfl) rfl #[.agg #[.slice A0 l0.length c0, .slice A1 l1.length c1]] rfl (by (try simp only [List.map_toArray, List.map_cons, List.map_nil]); first | done | rfl) ?_; refine (own_tb (HA.out.below HB.out) SA.out ((HG.out.below HB.out).beh)).mono ?_; rintro e wa ⟨Ao, co, Bo, do_, rfl, ht, hb⟩; refine ⟨_, rfl, ?_⟩; have T1 := yA (ht); replace HB := yA (yB HB.out hb); replace BK5 := yA (yC BK5.out hb); replace BK6 := yA (yC BK6.out hb); clear hb; clear ht) | ((with_reducible refine yO (f := 20) rfl ?_); refine goesL_ (some 40) rfl rfl Tryd.func20 (by kernel_rfl) rfl #[.agg #[.slice Ao l0.length co, .slice Bo l1.length do_]] rfl (by (try simp only [List.map_toArray, List.map_cons, List.map_nil]); first | done | rfl) ?_; refine (valid_is T1.out SA.out HVA.out).mono ?_; rintro e wb ⟨rfl, hb⟩; refine ⟨_, rfl, ?_⟩; replace HB := yA (yB HB.out hb); replace BK5 := yA (yC BK5.out hb); replace BK6 := yA (yC BK6.out hb); clear hb; clear T1; have hcz6_0 : World.cell? _ ⟨gb6, 0, none⟩ = some (.slice B0 m0.length d0) := (yR BK6.out 0).trans rfl; have hfz6_0 := yS BK6.out 0; have hcz6_1 : World.cell? _ ⟨gb6, 1, none⟩ = some (.slice B1 m1.length d1) := (yR BK6.out 1).trans rfl; have hfz6_1 := yS BK6.out 1) | ((with_reducible refine yO (f := 16) rfl ?_); (try (refine gate_guard (by rfl) ?_; dsimp only)); refine goesL_ (some 44) rfl rfl Tryd.func16 (by kernel_rfl) rfl #[.agg #[.slice B0 m0.length d0, .slice B1 m1.length d1]] rfl (by (try simp only [List.map_toArray, List.map_cons, List.map_nil]); first | done | rfl) ?_; refine (own_tb (HBT.out.below HB.out) SB.out ((HG.out.below HB.out).beh)).mono ?_; rintro e wa ⟨Ap, cp, Bp, dp, rfl, ht, hb⟩; refine ⟨_, rfl, ?_⟩; have T2 := yA (ht); replace HB := yA (yB HB.out hb); replace BK5 := yA (yC BK5.out hb); replace BK6 := yA (yC BK6.out hb); clear hb; clear ht) | ((with_reducible refine yO (f := 20) rfl ?_); (try (refine gate_guard (by rfl) ?_; dsimp only)); refine goesL_ (some 45) rfl rfl Tryd.func20 (by kernel_rfl) rfl #[.agg #[.slice Ap m0.length cp, .slice Bp m1.length dp]] rfl (by (try simp only [List.map_toArray, List.map_cons, List.map_nil]); first | done | rfl) ?_; refine (valid_is T2.out SB.out HVB.out).mono ?_; rintro e wb2 ⟨rfl, hb⟩; refine ⟨_, rfl, ?_⟩; replace HB := yA (yB HB.out hb); replace BK5 := yA (yC BK5.out hb); replace BK6 := yA (yC BK6.out hb); clear hb; clear T2))
    go_meet
    case rel => exact ⟨true, rfl, ⟨by simp [*]⟩, BK5, BK6, HB⟩
  ·have h10 : (va == 0) = false := beq_eq_false_iff_ne.mpr h1
   have h11 : (va != 0) = true := bne_iff_ne.mpr h1
   go_wp2_with (first | ((with_reducible refine yO (f := 16) rfl ?_); refine goesL_ (some 39) rfl rfl Tryd.func16 (by kernel_rfl) rfl #[.agg #[.slice A0 l0.length c0, .slice A1 l1.length c1]] rfl (by (try simp only [List.map_toArray, List.map_cons, List.map_nil]); first | done | rfl) ?_; refine (own_tb (HA.out.below HB.out) SA.out ((HG.out.below HB.out).beh)).mono ?_; rintro e wa ⟨Ao, co, Bo, do_, rfl, ht, hb⟩; refine ⟨_, rfl, ?_⟩; have T1 := yA (ht); replace HB := yA (yB HB.out hb); replace BK5 := yA (yC BK5.out hb); replace BK6 := yA (yC BK6.out hb); clear hb; clear ht) | ((with_reducible refine yO (f := 20) rfl ?_); refine goesL_ (some 40) rfl rfl Tryd.func20 (by kernel_rfl) rfl #[.agg #[.slice Ao l0.length co, .slice Bo l1.length do_]] rfl (by (try simp only [List.map_toArray, List.map_cons, List.map_nil]); first | done | rfl) ?_; refine (valid_is T1.out SA.out HVA.out).mono ?_; rintro e wb ⟨rfl, hb⟩; refine ⟨_, rfl, ?_⟩; replace HB := yA (yB HB.out hb); replace BK5 := yA (yC BK5.out hb); replace BK6 := yA (yC BK6.out hb); clear hb; clear T1))
   go_meet
   case rel => exact ⟨true, rfl, ⟨by simp [*]⟩, BK5, BK6, HB⟩
 case rest =>
  obtain ⟨bad, rfl, HBAD, BK5, BK6, HB⟩ := hcut
  obtain ⟨ko, xn, xr, xe, hov, hxe⟩ := overlay_all SA.out SB.out
  have HOV := yA hov
  have HXE := yA hxe
  clear hov hxe
  cases bad with
  | true => as_aux_lemma =>
   obtain ⟨hx, -⟩ := HXE.out
   have hx0 := hx (HVA.out ▸ HVB.out ▸ HBAD.out.1 rfl)
   have hx1 : (xe != 0) = true := bne_iff_ne.mpr hx0
   have hx2 : (xe == 0) = false := beq_eq_false_iff_ne.mpr hx0
   clear hx hx0
   go_wp2
   replace HB := yA (yD HB.out)
   replace BK5 := yA (yH BK5.out)
   replace BK6 := yA (yH BK6.out)
   refine start_ (n := 11) (S := fun w' => w'.cell? ⟨gb5, 0, none⟩ = some (.slice A0 l0.length c0) ∧ w'.cell? ⟨gb5, 1, none⟩ = some (.slice A1 l1.length c1) ∧ w'.cell? ⟨gb6, 0, none⟩ = some (.slice B0 m0.length d0) ∧ w'.cell? ⟨gb6, 1, none⟩ = some (.slice B1 m1.length d1)) (ds := []) #[false, false, false, false, false, false, false, false, false, false, false] (by kernel_rfl) rfl rfl ⟨(yR BK5.out 0).trans rfl, (yR BK5.out 1).trans rfl, (yR BK6.out 0).trans rfl, (yR BK6.out 1).trans rfl⟩ (fun hHeld => ?_); refine with_tabW payofflaw05_TableSays.tab5 payofflaw05_TableSays.bits5 (fun HT_ HW_ => ?_)
   generalize World.drew _ = wu at HB BK5 BK6 hHeld ⊢
   refine take_ (i := 0) (N := some 49) (v := ?_) (a' := ?_) #[true, false, false, false, false, false, false, false, false, false, false] rfl rfl (take_ofW HT_.out HW_.out (by kernel_rfl)) (fun _ _ _ h => h) (Or.inl ⟨by rfl, ?_⟩) hHeld ?_ ?_
   rotate_left; (focus (rintro w' ⟨s0, s1, s2, s3⟩; go_simp; with_reducible rfl)); rotate_left; (focus (simp only [Act.put, lA, lB, lC, i64_w, i32_w]; rfl))
   refine take_ (i := 2) (N := some 51) (v := ?_) (a' := ?_) #[true, false, true, false, false, false, false, false, false, false, false] rfl rfl (take_ofW HT_.out HW_.out (by kernel_rfl)) (fun _ _ _ h => h) (Or.inl ⟨by rfl, ?_⟩) hHeld ?_ ?_
   rotate_left; (focus (rintro w' ⟨s0, s1, s2, s3⟩; go_simp; with_reducible rfl)); rotate_left; (focus (simp only [Act.put, lA, lB, lC, i64_w, i32_w]; rfl))
   clear hHeld
   refine join_ (σ := (Option Addr × Nat × Option Addr × Nat) × (Option Addr × Nat × Option Addr × Nat) × (Option Addr × Nat × Option Addr × Nat) × Nat) 2 #[true, true, true, true, true, true, true, true, true, false, false] (fun s_ => [(50, .agg #[.slice s_.1.1 l0.length s_.1.2.1, .slice s_.1.2.2.1 l1.length s_.1.2.2.2]), (52, .agg #[.slice s_.2.1.1 m0.length s_.2.1.2.1, .slice s_.2.1.2.2.1 m1.length s_.2.1.2.2.2]), (53, .tuple #[.agg #[.slice s_.2.2.1.1 xn.length s_.2.2.1.2.1, .slice s_.2.2.1.2.2.1 xr.length s_.2.2.1.2.2.2], .int .i64 xe]), (48, .tuple #[.agg #[.slice s_.2.2.1.1 xn.length s_.2.2.1.2.1, .slice s_.2.2.1.2.2.1 xr.length s_.2.2.1.2.2.2], .int .i64 xe]), (54, .agg #[.slice s_.2.2.1.1 xn.length s_.2.2.1.2.1, .slice s_.2.2.1.2.2.1 xr.length s_.2.2.1.2.2.2]), (55, .int .i64 xe), (12, .pointer (some ⟨s_.2.2.2, 0, none⟩))]) (fun s_ w' => (w'.heap[gb5]? = some (.cells #[.slice A0 l0.length c0, .slice A1 l1.length c1] 25 (0, 0))) ∧ (w'.heap[gb6]? = some (.cells #[.slice B0 m0.length d0, .slice B1 m1.length d1] 25 (0, 0))) ∧ (TO w' s_.2.2.1.1 s_.2.2.1.2.1 xn s_.2.2.1.2.2.1 s_.2.2.1.2.2.2 xr) ∧ (w'.heap[s_.2.2.2]? = some (.cells #[.slice none 0 0, .slice none 0 0] 25 (0, 0))) ∧ (w.heap.size ≤ s_.2.2.2) ∧ (gb5 ≠ s_.2.2.2) ∧ (gb6 ≠ s_.2.2.2) ∧ (Below w.heap.size w w')) ?_ ?_
   rotate_left
   ·intro hJ
    refine two_ (i := 1) (j := 8) (Ni := some 50) (Nj := some 12) #[true, true, true, false, false, false, false, false, false, false, false] #[true, false, true, false, false, false, false, false, true, false, false] rfl rfl rfl rfl (two_of HT_.out (by kernel_rfl)) (by decide) (by decide) (fun K hK => ?_) (fun K hK => ?_)
    ·skip
     refine goes_ Tryd.func16 (by kernel_rfl) rfl #[.agg #[.slice A0 l0.length c0, .slice A1 l1.length c1]] (by rfl) rfl rfl (by (try simp only [List.map_toArray, List.map_cons, List.map_nil]); first | done | rfl) ?_
     refine (own_tb (HA.out.below HB.out) SA.out ((HG.out.below HB.out).beh)).mono ?_
     rintro e wv ⟨A1_, c1_, B1_, d1_, rfl, ht, hb⟩
     refine ⟨_, rfl, ?_⟩
     replace HB := yA (yB HB.out hb)
     replace BK5 := yA (yC BK5.out hb)
     replace BK6 := yA (yC BK6.out hb)
     have T1 := yA ht
     clear hb ht
     refine hK.out _ _ ⟨(yR BK5.out 0).trans rfl, (yR BK5.out 1).trans rfl, (yR BK6.out 0).trans rfl, (yR BK6.out 1).trans rfl⟩ (fun hHeld => ?_)
     clear hK K hHeld
     refine norm_ (a' := ?_) ?_ ?_
     rotate_left; (focus (show Act.put _ (some 50) _ = _; simp only [Act.put, lA, lB, lC, i64_w, i32_w]; rfl))
     refine two_ (i := 3) (j := 8) (Ni := some 52) (Nj := some 12) #[true, true, true, true, false, false, false, false, false, false, false] #[true, true, true, false, false, false, false, false, true, false, false] rfl rfl rfl rfl (two_of HT_.out (by kernel_rfl)) (by decide) (by decide) (fun K hK => ?_) (fun K hK => ?_)
     ·skip
      refine goes_ Tryd.func16 (by kernel_rfl) rfl #[.agg #[.slice B0 m0.length d0, .slice B1 m1.length d1]] (by rfl) rfl rfl (by (try simp only [List.map_toArray, List.map_cons, List.map_nil]); first | done | rfl) ?_
      refine (own_tb (HBT.out.below HB.out) SB.out ((HG.out.below HB.out).beh)).mono ?_
      rintro e wv ⟨A2_, c2_, B2_, d2_, rfl, ht, hb⟩
      refine ⟨_, rfl, ?_⟩
      replace HB := yA (yB HB.out hb)
      replace BK5 := yA (yC BK5.out hb)
      replace BK6 := yA (yC BK6.out hb)
      replace T1 := yA (T1.out.below hb)
      have T2 := yA ht
      clear hb ht
      refine hK.out _ _ ⟨(yR BK5.out 0).trans rfl, (yR BK5.out 1).trans rfl, (yR BK6.out 0).trans rfl, (yR BK6.out 1).trans rfl⟩ (fun hHeld => ?_)
      clear hK K hHeld
      refine norm_ (a' := ?_) ?_ ?_
      rotate_left; (focus (show Act.put _ (some 52) _ = _; simp only [Act.put, lA, lB, lC, i64_w, i32_w]; rfl))
      refine two_ (i := 4) (j := 8) (Ni := some 53) (Nj := some 12) #[true, true, true, true, true, false, false, false, false, false, false] #[true, true, true, true, false, false, false, false, true, false, false] rfl rfl rfl rfl (two_of HT_.out (by kernel_rfl)) (by decide) (by decide) (fun K hK => ?_) (fun K hK => ?_)
      ·skip
       refine goes_ Tryd.func37 (by kernel_rfl) rfl #[.agg #[.slice A1_ l0.length c1_, .slice B1_ l1.length d1_], .agg #[.slice A2_ m0.length c2_, .slice B2_ m1.length d2_]] (by rfl) rfl rfl (by (try simp only [List.map_toArray, List.map_cons, List.map_nil]); first | done | rfl) ?_
       refine (overlay_to T1.out T2.out HOV.out).mono ?_
       rintro e wv ⟨A3_, c3_, B3_, d3_, rfl, ht, hb⟩
       refine ⟨_, rfl, ?_⟩
       replace HB := yA (yB HB.out hb)
       replace BK5 := yA (yC BK5.out hb)
       replace BK6 := yA (yC BK6.out hb)
       replace T1 := yA (T1.out.below hb)
       replace T2 := yA (T2.out.below hb)
       have TX := yA ht
       clear hb ht T1 T2
       refine hK.out _ _ ⟨(yR BK5.out 0).trans rfl, (yR BK5.out 1).trans rfl, (yR BK6.out 0).trans rfl, (yR BK6.out 1).trans rfl⟩ (fun hHeld => ?_)
       clear hK K hHeld
       refine norm_ (a' := ?_) ?_ ?_
       rotate_left; (focus (show Act.put _ (some 53) _ = _; simp only [Act.put, lA, lB, lC, i64_w, i32_w]; rfl))
       refine pure_ (i := 5) (N := some 48) (v := ?_) (a' := ?_) #[true, true, true, true, true, true, false, false, false, false, false] rfl rfl (any_of HT_.out (by kernel_rfl)) (fun _ _ _ h => h) (Or.inl ⟨by rfl, ?_⟩) ?_ ?_
       rotate_left; (focus (intro w'; go_simp; with_reducible rfl)); rotate_left; (focus (simp only [Act.put, lA, lB, lC, i64_w, i32_w]; rfl))
       refine pure_ (i := 6) (N := some 54) (v := ?_) (a' := ?_) #[true, true, true, true, true, true, true, false, false, false, false] rfl rfl (any_of HT_.out (by kernel_rfl)) (fun _ _ _ h => h) (Or.inl ⟨by rfl, ?_⟩) ?_ ?_
       rotate_left; (focus (intro w'; go_simp; with_reducible rfl)); rotate_left; (focus (simp only [Act.put, lA, lB, lC, i64_w, i32_w]; rfl))
       refine pure_ (i := 7) (N := some 55) (v := ?_) (a' := ?_) #[true, true, true, true, true, true, true, true, false, false, false] rfl rfl (any_of HT_.out (by kernel_rfl)) (fun _ _ _ h => h) (Or.inl ⟨by rfl, ?_⟩) ?_ ?_
       rotate_left; (focus (intro w'; go_simp; with_reducible rfl)); rotate_left; (focus (simp only [Act.put, lA, lB, lC, i64_w, i32_w]; rfl))
       refine one_ (i := 8) (N := some 12) #[true, true, true, true, true, true, true, true, true, false, false] rfl rfl (one_of HT_.out (by kernel_rfl)) (by decide) (fun K hK => ?_)
       refine box_step ?hg (N := 12) ?hd (cs := #[.slice none 0 0, .slice none 0 0]) (t := 25) ?hr ?_; (case hd => rfl); (case hg => rfl); (case hr => first | (go_simp; done) | (go_simp; rfl))
       intro gX hg wv hbox hb
       have GX := yA (show w.heap.size ≤ gX by rw [hg]; exact HB.out.size)
       have NE5 := yA (show gb5 ≠ gX by rw [hg]; exact Nat.ne_of_lt (blk_lt BK5.out))
       have NE6 := yA (show gb6 ≠ gX by rw [hg]; exact Nat.ne_of_lt (blk_lt BK6.out))
       replace HB := yA (yB HB.out hb)
       replace BK5 := yA (yC BK5.out hb)
       replace BK6 := yA (yC BK6.out hb)
       replace TX := yA (TX.out.below hb)
       have BX := yA hbox
       clear hb hg hbox
       refine hK.out _ _ ⟨(yR BK5.out 0).trans rfl, (yR BK5.out 1).trans rfl, (yR BK6.out 0).trans rfl, (yR BK6.out 1).trans rfl⟩ (fun hHeld => ?_)
       clear hK K hHeld
       refine norm_ (a' := ?_) ?_ ?_
       rotate_left; (focus (show Act.put _ (some 12) _ = _; simp only [Act.put, lA, lB, lC, i64_w, i32_w]; rfl))
       exact norm_ (by first | (simp only [putAll, Act.put, lA, lB, lC]; done) | (simp only [putAll, Act.put, lA, lB, lC]; rfl)) (hJ ((A1_, c1_, B1_, d1_), (A2_, c2_, B2_, d2_), (A3_, c3_, B3_, d3_), gX) _ ⟨BK5.out, BK6.out, TX.out, BX.out, GX.out, NE5.out, NE6.out, HB.out⟩)
      ·skip
       refine box_step ?hg (N := 12) ?hd (cs := #[.slice none 0 0, .slice none 0 0]) (t := 25) ?hr ?_; (case hd => rfl); (case hg => rfl); (case hr => first | (go_simp; done) | (go_simp; rfl))
       intro gX hg wv hbox hb
       have GX := yA (show w.heap.size ≤ gX by rw [hg]; exact HB.out.size)
       have NE5 := yA (show gb5 ≠ gX by rw [hg]; exact Nat.ne_of_lt (blk_lt BK5.out))
       have NE6 := yA (show gb6 ≠ gX by rw [hg]; exact Nat.ne_of_lt (blk_lt BK6.out))
       replace HB := yA (yB HB.out hb)
       replace BK5 := yA (yC BK5.out hb)
       replace BK6 := yA (yC BK6.out hb)
       replace T1 := yA (T1.out.below hb)
       replace T2 := yA (T2.out.below hb)
       have BX := yA hbox
       clear hb hg hbox
       refine hK.out _ _ ⟨(yR BK5.out 0).trans rfl, (yR BK5.out 1).trans rfl, (yR BK6.out 0).trans rfl, (yR BK6.out 1).trans rfl⟩ (fun hHeld => ?_)
       clear hK K hHeld
       refine norm_ (a' := ?_) ?_ ?_
       rotate_left; (focus (show Act.put _ (some 12) _ = _; simp only [Act.put, lA, lB, lC, i64_w, i32_w]; rfl))
       refine one_ (i := 4) (N := some 53) #[true, true, true, true, true, false, false, false, true, false, false] rfl rfl (one_of HT_.out (by kernel_rfl)) (by decide) (fun K hK => ?_)
       refine goes_ Tryd.func37 (by kernel_rfl) rfl #[.agg #[.slice A1_ l0.length c1_, .slice B1_ l1.length d1_], .agg #[.slice A2_ m0.length c2_, .slice B2_ m1.length d2_]] (by rfl) rfl rfl (by (try simp only [List.map_toArray, List.map_cons, List.map_nil]); first | done | rfl) ?_
       refine (overlay_to T1.out T2.out HOV.out).mono ?_
       rintro e wv ⟨A3_, c3_, B3_, d3_, rfl, ht, hb⟩
       refine ⟨_, rfl, ?_⟩
       replace HB := yA (yB HB.out hb)
       replace BK5 := yA (yC BK5.out hb)
       replace BK6 := yA (yC BK6.out hb)
       replace T1 := yA (T1.out.below hb)
       replace T2 := yA (T2.out.below hb)
       replace BX := yA (yC BX.out hb)
       have TX := yA ht
       clear hb ht T1 T2
       refine hK.out _ _ ⟨(yR BK5.out 0).trans rfl, (yR BK5.out 1).trans rfl, (yR BK6.out 0).trans rfl, (yR BK6.out 1).trans rfl⟩ (fun hHeld => ?_)
       clear hK K hHeld
       refine norm_ (a' := ?_) ?_ ?_
       rotate_left; (focus (show Act.put _ (some 53) _ = _; simp only [Act.put, lA, lB, lC, i64_w, i32_w]; rfl))
       refine pure_ (i := 5) (N := some 48) (v := ?_) (a' := ?_) #[true, true, true, true, true, true, false, false, true, false, false] rfl rfl (any_of HT_.out (by kernel_rfl)) (fun _ _ _ h => h) (Or.inl ⟨by rfl, ?_⟩) ?_ ?_
       rotate_left; (focus (intro w'; go_simp; with_reducible rfl)); rotate_left; (focus (simp only [Act.put, lA, lB, lC, i64_w, i32_w]; rfl))
       refine pure_ (i := 6) (N := some 54) (v := ?_) (a' := ?_) #[true, true, true, true, true, true, true, false, true, false, false] rfl rfl (any_of HT_.out (by kernel_rfl)) (fun _ _ _ h => h) (Or.inl ⟨by rfl, ?_⟩) ?_ ?_
       rotate_left; (focus (intro w'; go_simp; with_reducible rfl)); rotate_left; (focus (simp only [Act.put, lA, lB, lC, i64_w, i32_w]; rfl))
       refine pure_ (i := 7) (N := some 55) (v := ?_) (a' := ?_) #[true, true, true, true, true, true, true, true, true, false, false] rfl rfl (any_of HT_.out (by kernel_rfl)) (fun _ _ _ h => h) (Or.inl ⟨by rfl, ?_⟩) ?_ ?_
       rotate_left; (focus (intro w'; go_simp; with_reducible rfl)); rotate_left; (focus (simp only [Act.put, lA, lB, lC, i64_w, i32_w]; rfl))
       exact norm_ (by first | (simp only [putAll, Act.put, lA, lB, lC]; done) | (simp only [putAll, Act.put, lA, lB, lC]; rfl)) (hJ ((A1_, c1_, B1_, d1_), (A2_, c2_, B2_, d2_), (A3_, c3_, B3_, d3_), gX) _ ⟨BK5.out, BK6.out, TX.out, BX.out, GX.out, NE5.out, NE6.out, HB.out⟩)
     ·skip
      refine box_step ?hg (N := 12) ?hd (cs := #[.slice none 0 0, .slice none 0 0]) (t := 25) ?hr ?_; (case hd => rfl); (case hg => rfl); (case hr => first | (go_simp; done) | (go_simp; rfl))
      intro gX hg wv hbox hb
      have GX := yA (show w.heap.size ≤ gX by rw [hg]; exact HB.out.size)
      have NE5 := yA (show gb5 ≠ gX by rw [hg]; exact Nat.ne_of_lt (blk_lt BK5.out))
      have NE6 := yA (show gb6 ≠ gX by rw [hg]; exact Nat.ne_of_lt (blk_lt BK6.out))
      replace HB := yA (yB HB.out hb)
      replace BK5 := yA (yC BK5.out hb)
      replace BK6 := yA (yC BK6.out hb)
      replace T1 := yA (T1.out.below hb)
      have BX := yA hbox
      clear hb hg hbox
      refine hK.out _ _ ⟨(yR BK5.out 0).trans rfl, (yR BK5.out 1).trans rfl, (yR BK6.out 0).trans rfl, (yR BK6.out 1).trans rfl⟩ (fun hHeld => ?_)
      clear hK K hHeld
      refine norm_ (a' := ?_) ?_ ?_
      rotate_left; (focus (show Act.put _ (some 12) _ = _; simp only [Act.put, lA, lB, lC, i64_w, i32_w]; rfl))
      refine one_ (i := 3) (N := some 52) #[true, true, true, true, false, false, false, false, true, false, false] rfl rfl (one_of HT_.out (by kernel_rfl)) (by decide) (fun K hK => ?_)
      refine goes_ Tryd.func16 (by kernel_rfl) rfl #[.agg #[.slice B0 m0.length d0, .slice B1 m1.length d1]] (by rfl) rfl rfl (by (try simp only [List.map_toArray, List.map_cons, List.map_nil]); first | done | rfl) ?_
      refine (own_tb (HBT.out.below HB.out) SB.out ((HG.out.below HB.out).beh)).mono ?_
      rintro e wv ⟨A2_, c2_, B2_, d2_, rfl, ht, hb⟩
      refine ⟨_, rfl, ?_⟩
      replace HB := yA (yB HB.out hb)
      replace BK5 := yA (yC BK5.out hb)
      replace BK6 := yA (yC BK6.out hb)
      replace T1 := yA (T1.out.below hb)
      replace BX := yA (yC BX.out hb)
      have T2 := yA ht
      clear hb ht
      refine hK.out _ _ ⟨(yR BK5.out 0).trans rfl, (yR BK5.out 1).trans rfl, (yR BK6.out 0).trans rfl, (yR BK6.out 1).trans rfl⟩ (fun hHeld => ?_)
      clear hK K hHeld
      refine norm_ (a' := ?_) ?_ ?_
      rotate_left; (focus (show Act.put _ (some 52) _ = _; simp only [Act.put, lA, lB, lC, i64_w, i32_w]; rfl))
      refine one_ (i := 4) (N := some 53) #[true, true, true, true, true, false, false, false, true, false, false] rfl rfl (one_of HT_.out (by kernel_rfl)) (by decide) (fun K hK => ?_)
      refine goes_ Tryd.func37 (by kernel_rfl) rfl #[.agg #[.slice A1_ l0.length c1_, .slice B1_ l1.length d1_], .agg #[.slice A2_ m0.length c2_, .slice B2_ m1.length d2_]] (by rfl) rfl rfl (by (try simp only [List.map_toArray, List.map_cons, List.map_nil]); first | done | rfl) ?_
      refine (overlay_to T1.out T2.out HOV.out).mono ?_
      rintro e wv ⟨A3_, c3_, B3_, d3_, rfl, ht, hb⟩
      refine ⟨_, rfl, ?_⟩
      replace HB := yA (yB HB.out hb)
      replace BK5 := yA (yC BK5.out hb)
      replace BK6 := yA (yC BK6.out hb)
      replace T1 := yA (T1.out.below hb)
      replace T2 := yA (T2.out.below hb)
      replace BX := yA (yC BX.out hb)
      have TX := yA ht
      clear hb ht T1 T2
      refine hK.out _ _ ⟨(yR BK5.out 0).trans rfl, (yR BK5.out 1).trans rfl, (yR BK6.out 0).trans rfl, (yR BK6.out 1).trans rfl⟩ (fun hHeld => ?_)
      clear hK K hHeld
      refine norm_ (a' := ?_) ?_ ?_
      rotate_left; (focus (show Act.put _ (some 53) _ = _; simp only [Act.put, lA, lB, lC, i64_w, i32_w]; rfl))
      refine pure_ (i := 5) (N := some 48) (v := ?_) (a' := ?_) #[true, true, true, true, true, true, false, false, true, false, false] rfl rfl (any_of HT_.out (by kernel_rfl)) (fun _ _ _ h => h) (Or.inl ⟨by rfl, ?_⟩) ?_ ?_
      rotate_left; (focus (intro w'; go_simp; with_reducible rfl)); rotate_left; (focus (simp only [Act.put, lA, lB, lC, i64_w, i32_w]; rfl))
      refine pure_ (i := 6) (N := some 54) (v := ?_) (a' := ?_) #[true, true, true, true, true, true, true, false, true, false, false] rfl rfl (any_of HT_.out (by kernel_rfl)) (fun _ _ _ h => h) (Or.inl ⟨by rfl, ?_⟩) ?_ ?_
      rotate_left; (focus (intro w'; go_simp; with_reducible rfl)); rotate_left; (focus (simp only [Act.put, lA, lB, lC, i64_w, i32_w]; rfl))
      refine pure_ (i := 7) (N := some 55) (v := ?_) (a' := ?_) #[true, true, true, true, true, true, true, true, true, false, false] rfl rfl (any_of HT_.out (by kernel_rfl)) (fun _ _ _ h => h) (Or.inl ⟨by rfl, ?_⟩) ?_ ?_
      rotate_left; (focus (intro w'; go_simp; with_reducible rfl)); rotate_left; (focus (simp only [Act.put, lA, lB, lC, i64_w, i32_w]; rfl))
      exact norm_ (by first | (simp only [putAll, Act.put, lA, lB, lC]; done) | (simp only [putAll, Act.put, lA, lB, lC]; rfl)) (hJ ((A1_, c1_, B1_, d1_), (A2_, c2_, B2_, d2_), (A3_, c3_, B3_, d3_), gX) _ ⟨BK5.out, BK6.out, TX.out, BX.out, GX.out, NE5.out, NE6.out, HB.out⟩)
    ·skip
     refine box_step ?hg (N := 12) ?hd (cs := #[.slice none 0 0, .slice none 0 0]) (t := 25) ?hr ?_; (case hd => rfl); (case hg => rfl); (case hr => first | (go_simp; done) | (go_simp; rfl))
     intro gX hg wv hbox hb
     have GX := yA (show w.heap.size ≤ gX by rw [hg]; exact HB.out.size)
     have NE5 := yA (show gb5 ≠ gX by rw [hg]; exact Nat.ne_of_lt (blk_lt BK5.out))
     have NE6 := yA (show gb6 ≠ gX by rw [hg]; exact Nat.ne_of_lt (blk_lt BK6.out))
     replace HB := yA (yB HB.out hb)
     replace BK5 := yA (yC BK5.out hb)
     replace BK6 := yA (yC BK6.out hb)
     have BX := yA hbox
     clear hb hg hbox
     refine hK.out _ _ ⟨(yR BK5.out 0).trans rfl, (yR BK5.out 1).trans rfl, (yR BK6.out 0).trans rfl, (yR BK6.out 1).trans rfl⟩ (fun hHeld => ?_)
     clear hK K hHeld
     refine norm_ (a' := ?_) ?_ ?_
     rotate_left; (focus (show Act.put _ (some 12) _ = _; simp only [Act.put, lA, lB, lC, i64_w, i32_w]; rfl))
     refine one_ (i := 1) (N := some 50) #[true, true, true, false, false, false, false, false, true, false, false] rfl rfl (one_of HT_.out (by kernel_rfl)) (by decide) (fun K hK => ?_)
     refine goes_ Tryd.func16 (by kernel_rfl) rfl #[.agg #[.slice A0 l0.length c0, .slice A1 l1.length c1]] (by rfl) rfl rfl (by (try simp only [List.map_toArray, List.map_cons, List.map_nil]); first | done | rfl) ?_
     refine (own_tb (HA.out.below HB.out) SA.out ((HG.out.below HB.out).beh)).mono ?_
     rintro e wv ⟨A1_, c1_, B1_, d1_, rfl, ht, hb⟩
     refine ⟨_, rfl, ?_⟩
     replace HB := yA (yB HB.out hb)
     replace BK5 := yA (yC BK5.out hb)
     replace BK6 := yA (yC BK6.out hb)
     replace BX := yA (yC BX.out hb)
     have T1 := yA ht
     clear hb ht
     refine hK.out _ _ ⟨(yR BK5.out 0).trans rfl, (yR BK5.out 1).trans rfl, (yR BK6.out 0).trans rfl, (yR BK6.out 1).trans rfl⟩ (fun hHeld => ?_)
     clear hK K hHeld
     refine norm_ (a' := ?_) ?_ ?_
     rotate_left; (focus (show Act.put _ (some 50) _ = _; simp only [Act.put, lA, lB, lC, i64_w, i32_w]; rfl))
     refine one_ (i := 3) (N := some 52) #[true, true, true, true, false, false, false, false, true, false, false] rfl rfl (one_of HT_.out (by kernel_rfl)) (by decide) (fun K hK => ?_)
     refine goes_ Tryd.func16 (by kernel_rfl) rfl #[.agg #[.slice B0 m0.length d0, .slice B1 m1.length d1]] (by rfl) rfl rfl (by (try simp only [List.map_toArray, List.map_cons, List.map_nil]); first | done | rfl) ?_
     refine (own_tb (HBT.out.below HB.out) SB.out ((HG.out.below HB.out).beh)).mono ?_
     rintro e wv ⟨A2_, c2_, B2_, d2_, rfl, ht, hb⟩
     refine ⟨_, rfl, ?_⟩
     replace HB := yA (yB HB.out hb)
     replace BK5 := yA (yC BK5.out hb)
     replace BK6 := yA (yC BK6.out hb)
     replace T1 := yA (T1.out.below hb)
     replace BX := yA (yC BX.out hb)
     have T2 := yA ht
     clear hb ht
     refine hK.out _ _ ⟨(yR BK5.out 0).trans rfl, (yR BK5.out 1).trans rfl, (yR BK6.out 0).trans rfl, (yR BK6.out 1).trans rfl⟩ (fun hHeld => ?_)
     clear hK K hHeld
     refine norm_ (a' := ?_) ?_ ?_
     rotate_left; (focus (show Act.put _ (some 52) _ = _; simp only [Act.put, lA, lB, lC, i64_w, i32_w]; rfl))
     refine one_ (i := 4) (N := some 53) #[true, true, true, true, true, false, false, false, true, false, false] rfl rfl (one_of HT_.out (by kernel_rfl)) (by decide) (fun K hK => ?_)
     refine goes_ Tryd.func37 (by kernel_rfl) rfl #[.agg #[.slice A1_ l0.length c1_, .slice B1_ l1.length d1_], .agg #[.slice A2_ m0.length c2_, .slice B2_ m1.length d2_]] (by rfl) rfl rfl (by (try simp only [List.map_toArray, List.map_cons, List.map_nil]); first | done | rfl) ?_
     refine (overlay_to T1.out T2.out HOV.out).mono ?_
     rintro e wv ⟨A3_, c3_, B3_, d3_, rfl, ht, hb⟩
     refine ⟨_, rfl, ?_⟩
     replace HB := yA (yB HB.out hb)
     replace BK5 := yA (yC BK5.out hb)
     replace BK6 := yA (yC BK6.out hb)
     replace T1 := yA (T1.out.below hb)
     replace T2 := yA (T2.out.below hb)
     replace BX := yA (yC BX.out hb)
     have TX := yA ht
     clear hb ht T1 T2
     refine hK.out _ _ ⟨(yR BK5.out 0).trans rfl, (yR BK5.out 1).trans rfl, (yR BK6.out 0).trans rfl, (yR BK6.out 1).trans rfl⟩ (fun hHeld => ?_)
     clear hK K hHeld
     refine norm_ (a' := ?_) ?_ ?_
     rotate_left; (focus (show Act.put _ (some 53) _ = _; simp only [Act.put, lA, lB, lC, i64_w, i32_w]; rfl))
     refine pure_ (i := 5) (N := some 48) (v := ?_) (a' := ?_) #[true, true, true, true, true, true, false, false, true, false, false] rfl rfl (any_of HT_.out (by kernel_rfl)) (fun _ _ _ h => h) (Or.inl ⟨by rfl, ?_⟩) ?_ ?_
     rotate_left; (focus (intro w'; go_simp; with_reducible rfl)); rotate_left; (focus (simp only [Act.put, lA, lB, lC, i64_w, i32_w]; rfl))
     refine pure_ (i := 6) (N := some 54) (v := ?_) (a' := ?_) #[true, true, true, true, true, true, true, false, true, false, false] rfl rfl (any_of HT_.out (by kernel_rfl)) (fun _ _ _ h => h) (Or.inl ⟨by rfl, ?_⟩) ?_ ?_
     rotate_left; (focus (intro w'; go_simp; with_reducible rfl)); rotate_left; (focus (simp only [Act.put, lA, lB, lC, i64_w, i32_w]; rfl))
     refine pure_ (i := 7) (N := some 55) (v := ?_) (a' := ?_) #[true, true, true, true, true, true, true, true, true, false, false] rfl rfl (any_of HT_.out (by kernel_rfl)) (fun _ _ _ h => h) (Or.inl ⟨by rfl, ?_⟩) ?_ ?_
     rotate_left; (focus (intro w'; go_simp; with_reducible rfl)); rotate_left; (focus (simp only [Act.put, lA, lB, lC, i64_w, i32_w]; rfl))
     exact norm_ (by first | (simp only [putAll, Act.put, lA, lB, lC]; done) | (simp only [putAll, Act.put, lA, lB, lC]; rfl)) (hJ ((A1_, c1_, B1_, d1_), (A2_, c2_, B2_, d2_), (A3_, c3_, B3_, d3_), gX) _ ⟨BK5.out, BK6.out, TX.out, BX.out, GX.out, NE5.out, NE6.out, HB.out⟩)
   rintro ⟨⟨A1_, c1_, B1_, d1_⟩, ⟨A2_, c2_, B2_, d2_⟩, ⟨A3_, c3_, B3_, d3_⟩, gb12⟩ wx ⟨h0_, h1_, h2_, h3_, h4_, h5_, h6_, h7_⟩
   clear BK5 BK6 HB
   have BK5 := yA h0_
   have BK6 := yA h1_
   have TX := yA h2_
   have BK12 := yA h3_
   have GX := yA h4_
   have NE5 := yA h5_
   have NE6 := yA h6_
   have HB := yA h7_
   clear h0_ h1_ h2_ h3_ h4_ h5_ h6_ h7_
   refine norm_ (a' := ?_) ?_ ?_
   rotate_left
   ·simp only [putAll, Act.put, lA, lB, lC, i64_w, i32_w]
    rfl
   refine one_ (i := 9) (N := none) #[true, true, true, true, true, true, true, true, true, true, false] rfl rfl (one_of HT_.out (by kernel_rfl)) (by decide) (fun K hK => ?_)
   have hcz12_0 : World.cell? _ ⟨gb12, 0, none⟩ = some (.slice none 0 0) := (yR BK12.out 0).trans rfl
   have hfz12_0 := yS BK12.out 0
   have hcz12_1 : World.cell? _ ⟨gb12, 1, none⟩ = some (.slice none 0 0) := (yR BK12.out 1).trans rfl
   have hfz12_1 := yS BK12.out 1
   refine skip_ (w1 := ?_) (by rfl) rfl ?_ ?_
   rotate_left
   ·go_simp
    rfl
   clear hcz12_0 hfz12_0 hcz12_1 hfz12_1
   have m0_ := yA (blk_far (p := ⟨gb12, 1, none⟩) (blk_far (p := ⟨gb12, 0, none⟩) BK5.out NE5.out (.slice A3_ xn.length c3_)) NE5.out (.slice B3_ xr.length d3_))
   have m1_ := yA (blk_far (p := ⟨gb12, 1, none⟩) (blk_far (p := ⟨gb12, 0, none⟩) BK6.out NE6.out (.slice A3_ xn.length c3_)) NE6.out (.slice B3_ xr.length d3_))
   have m2_ := yA ((TX.out.set BK12.out 0 (.slice A3_ xn.length c3_)).set (blk_put (cs' := #[.slice A3_ xn.length c3_, .slice none 0 0]) BK12.out 0 (.slice A3_ xn.length c3_) rfl) 1 (.slice B3_ xr.length d3_))
   have m3_ := yA (blk_put (cs' := #[.slice A3_ xn.length c3_, .slice B3_ xr.length d3_]) (blk_put (cs' := #[.slice A3_ xn.length c3_, .slice none 0 0]) BK12.out 0 (.slice A3_ xn.length c3_) rfl) 1 (.slice B3_ xr.length d3_) rfl)
   have m4_ := yA (yJ (j := 1) (v := .slice B3_ xr.length d3_) (yJ (j := 0) (v := .slice A3_ xn.length c3_) HB.out GX.out) GX.out)
   generalize (wx.setCell ⟨gb12, 0, none⟩ (.slice A3_ xn.length c3_)).setCell ⟨gb12, 1, none⟩ (.slice B3_ xr.length d3_) = wy at m0_ m1_ m2_ m3_ m4_ ⊢
   clear BK5 BK6 TX BK12 HB NE5 NE6 GX
   have BK5 := m0_
   have BK6 := m1_
   have TX := m2_
   have BK12 := m3_
   have HB := m4_
   clear m0_ m1_ m2_ m3_ m4_
   refine hK.out _ _ ⟨(yR BK5.out 0).trans rfl, (yR BK5.out 1).trans rfl, (yR BK6.out 0).trans rfl, (yR BK6.out 1).trans rfl⟩ (fun hHeld => ?_)
   clear hK K hHeld
   refine pure_ (i := 10) (N := some 13) (v := ?_) (a' := ?_) #[true, true, true, true, true, true, true, true, true, true, true] rfl rfl (any_of HT_.out (by kernel_rfl)) (fun _ _ _ h => h) (Or.inl ⟨by rfl, ?_⟩) ?_ ?_
   rotate_left; (focus (intro w'; go_simp; with_reducible rfl)); rotate_left; (focus (simp only [Act.put, lA, lB, lC, i64_w, i32_w]; rfl))
   refine done_ (done_of HT_.out (by kernel_rfl)) ?_
   clear HT_ HW_
   clear TX BK12
   go_wp2
   go_ret
   exact ⟨rfl, HB.out⟩
  | false => as_aux_lemma =>
   obtain ⟨hA0, hB0⟩ : validT l0 l1 = 0 ∧ validT m0 m1 = 0 := by have h := HBAD.out; rw [HVA.out, HVB.out]; simpa using h
   have VA := yA hA0
   have VB := yA hB0
   obtain ⟨-, hx⟩ := HXE.out
   have HX := yA (hx hA0 hB0)
   clear HVA HVB HBAD HXE hA0 hB0 hx
   go_wp2
   replace HB := yA (yD HB.out)
   replace BK5 := yA (yH BK5.out)
   replace BK6 := yA (yH BK6.out)
   refine start_ (n := 11) (S := fun w' => w'.cell? ⟨gb5, 0, none⟩ = some (.slice A0 l0.length c0) ∧ w'.cell? ⟨gb5, 1, none⟩ = some (.slice A1 l1.length c1) ∧ w'.cell? ⟨gb6, 0, none⟩ = some (.slice B0 m0.length d0) ∧ w'.cell? ⟨gb6, 1, none⟩ = some (.slice B1 m1.length d1)) (ds := []) #[false, false, false, false, false, false, false, false, false, false, false] (by kernel_rfl) rfl rfl ⟨(yR BK5.out 0).trans rfl, (yR BK5.out 1).trans rfl, (yR BK6.out 0).trans rfl, (yR BK6.out 1).trans rfl⟩ (fun hHeld => ?_); refine with_tabW payofflaw05_TableSays.tab7 payofflaw05_TableSays.bits7 (fun HT_ HW_ => ?_)
   generalize World.drew _ = wu at HB BK5 BK6 hHeld ⊢
   refine take_ (i := 0) (N := some 59) (v := ?_) (a' := ?_) #[true, false, false, false, false, false, false, false, false, false, false] rfl rfl (take_ofW HT_.out HW_.out (by kernel_rfl)) (fun _ _ _ h => h) (Or.inl ⟨by rfl, ?_⟩) hHeld ?_ ?_
   rotate_left; (focus (rintro w' ⟨s0, s1, s2, s3⟩; go_simp; with_reducible rfl)); rotate_left; (focus (simp only [Act.put, lA, lB, lC, i64_w, i32_w]; rfl))
   refine take_ (i := 2) (N := some 61) (v := ?_) (a' := ?_) #[true, false, true, false, false, false, false, false, false, false, false] rfl rfl (take_ofW HT_.out HW_.out (by kernel_rfl)) (fun _ _ _ h => h) (Or.inl ⟨by rfl, ?_⟩) hHeld ?_ ?_
   rotate_left; (focus (rintro w' ⟨s0, s1, s2, s3⟩; go_simp; with_reducible rfl)); rotate_left; (focus (simp only [Act.put, lA, lB, lC, i64_w, i32_w]; rfl))
   clear hHeld
   refine join_ (σ := (Option Addr × Nat × Option Addr × Nat) × (Option Addr × Nat × Option Addr × Nat) × (Option Addr × Nat × Option Addr × Nat) × Nat) 2 #[true, true, true, true, true, true, true, true, true, false, false] (fun s_ => [(60, .agg #[.slice s_.1.1 l0.length s_.1.2.1, .slice s_.1.2.2.1 l1.length s_.1.2.2.2]), (62, .agg #[.slice s_.2.1.1 m0.length s_.2.1.2.1, .slice s_.2.1.2.2.1 m1.length s_.2.1.2.2.2]), (63, .tuple #[.agg #[.slice s_.2.2.1.1 xn.length s_.2.2.1.2.1, .slice s_.2.2.1.2.2.1 xr.length s_.2.2.1.2.2.2], .int .i64 xe]), (58, .tuple #[.agg #[.slice s_.2.2.1.1 xn.length s_.2.2.1.2.1, .slice s_.2.2.1.2.2.1 xr.length s_.2.2.1.2.2.2], .int .i64 xe]), (64, .agg #[.slice s_.2.2.1.1 xn.length s_.2.2.1.2.1, .slice s_.2.2.1.2.2.1 xr.length s_.2.2.1.2.2.2]), (65, .int .i64 xe), (14, .pointer (some ⟨s_.2.2.2, 0, none⟩))]) (fun s_ w' => (w'.heap[gb5]? = some (.cells #[.slice A0 l0.length c0, .slice A1 l1.length c1] 25 (0, 0))) ∧ (w'.heap[gb6]? = some (.cells #[.slice B0 m0.length d0, .slice B1 m1.length d1] 25 (0, 0))) ∧ (TO w' s_.2.2.1.1 s_.2.2.1.2.1 xn s_.2.2.1.2.2.1 s_.2.2.1.2.2.2 xr) ∧ (w'.heap[s_.2.2.2]? = some (.cells #[.slice none 0 0, .slice none 0 0] 25 (0, 0))) ∧ (w.heap.size ≤ s_.2.2.2) ∧ (gb5 ≠ s_.2.2.2) ∧ (gb6 ≠ s_.2.2.2) ∧ (Below w.heap.size w w')) ?_ ?_
   rotate_left
   ·intro hJ
    refine two_ (i := 1) (j := 8) (Ni := some 60) (Nj := some 14) #[true, true, true, false, false, false, false, false, false, false, false] #[true, false, true, false, false, false, false, false, true, false, false] rfl rfl rfl rfl (two_of HT_.out (by kernel_rfl)) (by decide) (by decide) (fun K hK => ?_) (fun K hK => ?_)
    ·skip
     refine goes_ Tryd.func16 (by kernel_rfl) rfl #[.agg #[.slice A0 l0.length c0, .slice A1 l1.length c1]] (by rfl) rfl rfl (by (try simp only [List.map_toArray, List.map_cons, List.map_nil]); first | done | rfl) ?_
     refine (own_tb (HA.out.below HB.out) SA.out ((HG.out.below HB.out).beh)).mono ?_
     rintro e wv ⟨A1_, c1_, B1_, d1_, rfl, ht, hb⟩
     refine ⟨_, rfl, ?_⟩
     replace HB := yA (yB HB.out hb)
     replace BK5 := yA (yC BK5.out hb)
     replace BK6 := yA (yC BK6.out hb)
     have T1 := yA ht
     clear hb ht
     refine hK.out _ _ ⟨(yR BK5.out 0).trans rfl, (yR BK5.out 1).trans rfl, (yR BK6.out 0).trans rfl, (yR BK6.out 1).trans rfl⟩ (fun hHeld => ?_)
     clear hK K hHeld
     refine norm_ (a' := ?_) ?_ ?_
     rotate_left; (focus (show Act.put _ (some 60) _ = _; simp only [Act.put, lA, lB, lC, i64_w, i32_w]; rfl))
     refine two_ (i := 3) (j := 8) (Ni := some 62) (Nj := some 14) #[true, true, true, true, false, false, false, false, false, false, false] #[true, true, true, false, false, false, false, false, true, false, false] rfl rfl rfl rfl (two_of HT_.out (by kernel_rfl)) (by decide) (by decide) (fun K hK => ?_) (fun K hK => ?_)
     ·skip
      refine goes_ Tryd.func16 (by kernel_rfl) rfl #[.agg #[.slice B0 m0.length d0, .slice B1 m1.length d1]] (by rfl) rfl rfl (by (try simp only [List.map_toArray, List.map_cons, List.map_nil]); first | done | rfl) ?_
      refine (own_tb (HBT.out.below HB.out) SB.out ((HG.out.below HB.out).beh)).mono ?_
      rintro e wv ⟨A2_, c2_, B2_, d2_, rfl, ht, hb⟩
      refine ⟨_, rfl, ?_⟩
      replace HB := yA (yB HB.out hb)
      replace BK5 := yA (yC BK5.out hb)
      replace BK6 := yA (yC BK6.out hb)
      replace T1 := yA (T1.out.below hb)
      have T2 := yA ht
      clear hb ht
      refine hK.out _ _ ⟨(yR BK5.out 0).trans rfl, (yR BK5.out 1).trans rfl, (yR BK6.out 0).trans rfl, (yR BK6.out 1).trans rfl⟩ (fun hHeld => ?_)
      clear hK K hHeld
      refine norm_ (a' := ?_) ?_ ?_
      rotate_left; (focus (show Act.put _ (some 62) _ = _; simp only [Act.put, lA, lB, lC, i64_w, i32_w]; rfl))
      refine two_ (i := 4) (j := 8) (Ni := some 63) (Nj := some 14) #[true, true, true, true, true, false, false, false, false, false, false] #[true, true, true, true, false, false, false, false, true, false, false] rfl rfl rfl rfl (two_of HT_.out (by kernel_rfl)) (by decide) (by decide) (fun K hK => ?_) (fun K hK => ?_)
      ·skip
       refine goes_ Tryd.func37 (by kernel_rfl) rfl #[.agg #[.slice A1_ l0.length c1_, .slice B1_ l1.length d1_], .agg #[.slice A2_ m0.length c2_, .slice B2_ m1.length d2_]] (by rfl) rfl rfl (by (try simp only [List.map_toArray, List.map_cons, List.map_nil]); first | done | rfl) ?_
       refine (overlay_to T1.out T2.out HOV.out).mono ?_
       rintro e wv ⟨A3_, c3_, B3_, d3_, rfl, ht, hb⟩
       refine ⟨_, rfl, ?_⟩
       replace HB := yA (yB HB.out hb)
       replace BK5 := yA (yC BK5.out hb)
       replace BK6 := yA (yC BK6.out hb)
       replace T1 := yA (T1.out.below hb)
       replace T2 := yA (T2.out.below hb)
       have TX := yA ht
       clear hb ht T1 T2
       refine hK.out _ _ ⟨(yR BK5.out 0).trans rfl, (yR BK5.out 1).trans rfl, (yR BK6.out 0).trans rfl, (yR BK6.out 1).trans rfl⟩ (fun hHeld => ?_)
       clear hK K hHeld
       refine norm_ (a' := ?_) ?_ ?_
       rotate_left; (focus (show Act.put _ (some 63) _ = _; simp only [Act.put, lA, lB, lC, i64_w, i32_w]; rfl))
       refine pure_ (i := 5) (N := some 58) (v := ?_) (a' := ?_) #[true, true, true, true, true, true, false, false, false, false, false] rfl rfl (any_of HT_.out (by kernel_rfl)) (fun _ _ _ h => h) (Or.inl ⟨by rfl, ?_⟩) ?_ ?_
       rotate_left; (focus (intro w'; go_simp; with_reducible rfl)); rotate_left; (focus (simp only [Act.put, lA, lB, lC, i64_w, i32_w]; rfl))
       refine pure_ (i := 6) (N := some 64) (v := ?_) (a' := ?_) #[true, true, true, true, true, true, true, false, false, false, false] rfl rfl (any_of HT_.out (by kernel_rfl)) (fun _ _ _ h => h) (Or.inl ⟨by rfl, ?_⟩) ?_ ?_
       rotate_left; (focus (intro w'; go_simp; with_reducible rfl)); rotate_left; (focus (simp only [Act.put, lA, lB, lC, i64_w, i32_w]; rfl))
       refine pure_ (i := 7) (N := some 65) (v := ?_) (a' := ?_) #[true, true, true, true, true, true, true, true, false, false, false] rfl rfl (any_of HT_.out (by kernel_rfl)) (fun _ _ _ h => h) (Or.inl ⟨by rfl, ?_⟩) ?_ ?_
       rotate_left; (focus (intro w'; go_simp; with_reducible rfl)); rotate_left; (focus (simp only [Act.put, lA, lB, lC, i64_w, i32_w]; rfl))
       refine one_ (i := 8) (N := some 14) #[true, true, true, true, true, true, true, true, true, false, false] rfl rfl (one_of HT_.out (by kernel_rfl)) (by decide) (fun K hK => ?_)
       refine box_step ?hg (N := 14) ?hd (cs := #[.slice none 0 0, .slice none 0 0]) (t := 25) ?hr ?_; (case hd => rfl); (case hg => rfl); (case hr => first | (go_simp; done) | (go_simp; rfl))
       intro gX hg wv hbox hb
       have GX := yA (show w.heap.size ≤ gX by rw [hg]; exact HB.out.size)
       have NE5 := yA (show gb5 ≠ gX by rw [hg]; exact Nat.ne_of_lt (blk_lt BK5.out))
       have NE6 := yA (show gb6 ≠ gX by rw [hg]; exact Nat.ne_of_lt (blk_lt BK6.out))
       replace HB := yA (yB HB.out hb)
       replace BK5 := yA (yC BK5.out hb)
       replace BK6 := yA (yC BK6.out hb)
       replace TX := yA (TX.out.below hb)
       have BX := yA hbox
       clear hb hg hbox
       refine hK.out _ _ ⟨(yR BK5.out 0).trans rfl, (yR BK5.out 1).trans rfl, (yR BK6.out 0).trans rfl, (yR BK6.out 1).trans rfl⟩ (fun hHeld => ?_)
       clear hK K hHeld
       refine norm_ (a' := ?_) ?_ ?_
       rotate_left; (focus (show Act.put _ (some 14) _ = _; simp only [Act.put, lA, lB, lC, i64_w, i32_w]; rfl))
       exact norm_ (by first | (simp only [putAll, Act.put, lA, lB, lC]; done) | (simp only [putAll, Act.put, lA, lB, lC]; rfl)) (hJ ((A1_, c1_, B1_, d1_), (A2_, c2_, B2_, d2_), (A3_, c3_, B3_, d3_), gX) _ ⟨BK5.out, BK6.out, TX.out, BX.out, GX.out, NE5.out, NE6.out, HB.out⟩)
      ·skip
       refine box_step ?hg (N := 14) ?hd (cs := #[.slice none 0 0, .slice none 0 0]) (t := 25) ?hr ?_; (case hd => rfl); (case hg => rfl); (case hr => first | (go_simp; done) | (go_simp; rfl))
       intro gX hg wv hbox hb
       have GX := yA (show w.heap.size ≤ gX by rw [hg]; exact HB.out.size)
       have NE5 := yA (show gb5 ≠ gX by rw [hg]; exact Nat.ne_of_lt (blk_lt BK5.out))
       have NE6 := yA (show gb6 ≠ gX by rw [hg]; exact Nat.ne_of_lt (blk_lt BK6.out))
       replace HB := yA (yB HB.out hb)
       replace BK5 := yA (yC BK5.out hb)
       replace BK6 := yA (yC BK6.out hb)
       replace T1 := yA (T1.out.below hb)
       replace T2 := yA (T2.out.below hb)
       have BX := yA hbox
       clear hb hg hbox
       refine hK.out _ _ ⟨(yR BK5.out 0).trans rfl, (yR BK5.out 1).trans rfl, (yR BK6.out 0).trans rfl, (yR BK6.out 1).trans rfl⟩ (fun hHeld => ?_)
       clear hK K hHeld
       refine norm_ (a' := ?_) ?_ ?_
       rotate_left; (focus (show Act.put _ (some 14) _ = _; simp only [Act.put, lA, lB, lC, i64_w, i32_w]; rfl))
       refine one_ (i := 4) (N := some 63) #[true, true, true, true, true, false, false, false, true, false, false] rfl rfl (one_of HT_.out (by kernel_rfl)) (by decide) (fun K hK => ?_)
       refine goes_ Tryd.func37 (by kernel_rfl) rfl #[.agg #[.slice A1_ l0.length c1_, .slice B1_ l1.length d1_], .agg #[.slice A2_ m0.length c2_, .slice B2_ m1.length d2_]] (by rfl) rfl rfl (by (try simp only [List.map_toArray, List.map_cons, List.map_nil]); first | done | rfl) ?_
       refine (overlay_to T1.out T2.out HOV.out).mono ?_
       rintro e wv ⟨A3_, c3_, B3_, d3_, rfl, ht, hb⟩
       refine ⟨_, rfl, ?_⟩
       replace HB := yA (yB HB.out hb)
       replace BK5 := yA (yC BK5.out hb)
       replace BK6 := yA (yC BK6.out hb)
       replace T1 := yA (T1.out.below hb)
       replace T2 := yA (T2.out.below hb)
       replace BX := yA (yC BX.out hb)
       have TX := yA ht
       clear hb ht T1 T2
       refine hK.out _ _ ⟨(yR BK5.out 0).trans rfl, (yR BK5.out 1).trans rfl, (yR BK6.out 0).trans rfl, (yR BK6.out 1).trans rfl⟩ (fun hHeld => ?_)
       clear hK K hHeld
       refine norm_ (a' := ?_) ?_ ?_
       rotate_left; (focus (show Act.put _ (some 63) _ = _; simp only [Act.put, lA, lB, lC, i64_w, i32_w]; rfl))
       refine pure_ (i := 5) (N := some 58) (v := ?_) (a' := ?_) #[true, true, true, true, true, true, false, false, true, false, false] rfl rfl (any_of HT_.out (by kernel_rfl)) (fun _ _ _ h => h) (Or.inl ⟨by rfl, ?_⟩) ?_ ?_
       rotate_left; (focus (intro w'; go_simp; with_reducible rfl)); rotate_left; (focus (simp only [Act.put, lA, lB, lC, i64_w, i32_w]; rfl))
       refine pure_ (i := 6) (N := some 64) (v := ?_) (a' := ?_) #[true, true, true, true, true, true, true, false, true, false, false] rfl rfl (any_of HT_.out (by kernel_rfl)) (fun _ _ _ h => h) (Or.inl ⟨by rfl, ?_⟩) ?_ ?_
       rotate_left; (focus (intro w'; go_simp; with_reducible rfl)); rotate_left; (focus (simp only [Act.put, lA, lB, lC, i64_w, i32_w]; rfl))
       refine pure_ (i := 7) (N := some 65) (v := ?_) (a' := ?_) #[true, true, true, true, true, true, true, true, true, false, false] rfl rfl (any_of HT_.out (by kernel_rfl)) (fun _ _ _ h => h) (Or.inl ⟨by rfl, ?_⟩) ?_ ?_
       rotate_left; (focus (intro w'; go_simp; with_reducible rfl)); rotate_left; (focus (simp only [Act.put, lA, lB, lC, i64_w, i32_w]; rfl))
       exact norm_ (by first | (simp only [putAll, Act.put, lA, lB, lC]; done) | (simp only [putAll, Act.put, lA, lB, lC]; rfl)) (hJ ((A1_, c1_, B1_, d1_), (A2_, c2_, B2_, d2_), (A3_, c3_, B3_, d3_), gX) _ ⟨BK5.out, BK6.out, TX.out, BX.out, GX.out, NE5.out, NE6.out, HB.out⟩)
     ·skip
      refine box_step ?hg (N := 14) ?hd (cs := #[.slice none 0 0, .slice none 0 0]) (t := 25) ?hr ?_; (case hd => rfl); (case hg => rfl); (case hr => first | (go_simp; done) | (go_simp; rfl))
      intro gX hg wv hbox hb
      have GX := yA (show w.heap.size ≤ gX by rw [hg]; exact HB.out.size)
      have NE5 := yA (show gb5 ≠ gX by rw [hg]; exact Nat.ne_of_lt (blk_lt BK5.out))
      have NE6 := yA (show gb6 ≠ gX by rw [hg]; exact Nat.ne_of_lt (blk_lt BK6.out))
      replace HB := yA (yB HB.out hb)
      replace BK5 := yA (yC BK5.out hb)
      replace BK6 := yA (yC BK6.out hb)
      replace T1 := yA (T1.out.below hb)
      have BX := yA hbox
      clear hb hg hbox
      refine hK.out _ _ ⟨(yR BK5.out 0).trans rfl, (yR BK5.out 1).trans rfl, (yR BK6.out 0).trans rfl, (yR BK6.out 1).trans rfl⟩ (fun hHeld => ?_)
      clear hK K hHeld
      refine norm_ (a' := ?_) ?_ ?_
      rotate_left; (focus (show Act.put _ (some 14) _ = _; simp only [Act.put, lA, lB, lC, i64_w, i32_w]; rfl))
      refine one_ (i := 3) (N := some 62) #[true, true, true, true, false, false, false, false, true, false, false] rfl rfl (one_of HT_.out (by kernel_rfl)) (by decide) (fun K hK => ?_)
      refine goes_ Tryd.func16 (by kernel_rfl) rfl #[.agg #[.slice B0 m0.length d0, .slice B1 m1.length d1]] (by rfl) rfl rfl (by (try simp only [List.map_toArray, List.map_cons, List.map_nil]); first | done | rfl) ?_
      refine (own_tb (HBT.out.below HB.out) SB.out ((HG.out.below HB.out).beh)).mono ?_
      rintro e wv ⟨A2_, c2_, B2_, d2_, rfl, ht, hb⟩
      refine ⟨_, rfl, ?_⟩
      replace HB := yA (yB HB.out hb)
      replace BK5 := yA (yC BK5.out hb)
      replace BK6 := yA (yC BK6.out hb)
      replace T1 := yA (T1.out.below hb)
      replace BX := yA (yC BX.out hb)
      have T2 := yA ht
      clear hb ht
      refine hK.out _ _ ⟨(yR BK5.out 0).trans rfl, (yR BK5.out 1).trans rfl, (yR BK6.out 0).trans rfl, (yR BK6.out 1).trans rfl⟩ (fun hHeld => ?_)
      clear hK K hHeld
      refine norm_ (a' := ?_) ?_ ?_
      rotate_left; (focus (show Act.put _ (some 62) _ = _; simp only [Act.put, lA, lB, lC, i64_w, i32_w]; rfl))
      refine one_ (i := 4) (N := some 63) #[true, true, true, true, true, false, false, false, true, false, false] rfl rfl (one_of HT_.out (by kernel_rfl)) (by decide) (fun K hK => ?_)
      refine goes_ Tryd.func37 (by kernel_rfl) rfl #[.agg #[.slice A1_ l0.length c1_, .slice B1_ l1.length d1_], .agg #[.slice A2_ m0.length c2_, .slice B2_ m1.length d2_]] (by rfl) rfl rfl (by (try simp only [List.map_toArray, List.map_cons, List.map_nil]); first | done | rfl) ?_
      refine (overlay_to T1.out T2.out HOV.out).mono ?_
      rintro e wv ⟨A3_, c3_, B3_, d3_, rfl, ht, hb⟩
      refine ⟨_, rfl, ?_⟩
      replace HB := yA (yB HB.out hb)
      replace BK5 := yA (yC BK5.out hb)
      replace BK6 := yA (yC BK6.out hb)
      replace T1 := yA (T1.out.below hb)
      replace T2 := yA (T2.out.below hb)
      replace BX := yA (yC BX.out hb)
      have TX := yA ht
      clear hb ht T1 T2
      refine hK.out _ _ ⟨(yR BK5.out 0).trans rfl, (yR BK5.out 1).trans rfl, (yR BK6.out 0).trans rfl, (yR BK6.out 1).trans rfl⟩ (fun hHeld => ?_)
      clear hK K hHeld
      refine norm_ (a' := ?_) ?_ ?_
      rotate_left; (focus (show Act.put _ (some 63) _ = _; simp only [Act.put, lA, lB, lC, i64_w, i32_w]; rfl))
      refine pure_ (i := 5) (N := some 58) (v := ?_) (a' := ?_) #[true, true, true, true, true, true, false, false, true, false, false] rfl rfl (any_of HT_.out (by kernel_rfl)) (fun _ _ _ h => h) (Or.inl ⟨by rfl, ?_⟩) ?_ ?_
      rotate_left; (focus (intro w'; go_simp; with_reducible rfl)); rotate_left; (focus (simp only [Act.put, lA, lB, lC, i64_w, i32_w]; rfl))
      refine pure_ (i := 6) (N := some 64) (v := ?_) (a' := ?_) #[true, true, true, true, true, true, true, false, true, false, false] rfl rfl (any_of HT_.out (by kernel_rfl)) (fun _ _ _ h => h) (Or.inl ⟨by rfl, ?_⟩) ?_ ?_
      rotate_left; (focus (intro w'; go_simp; with_reducible rfl)); rotate_left; (focus (simp only [Act.put, lA, lB, lC, i64_w, i32_w]; rfl))
      refine pure_ (i := 7) (N := some 65) (v := ?_) (a' := ?_) #[true, true, true, true, true, true, true, true, true, false, false] rfl rfl (any_of HT_.out (by kernel_rfl)) (fun _ _ _ h => h) (Or.inl ⟨by rfl, ?_⟩) ?_ ?_
      rotate_left; (focus (intro w'; go_simp; with_reducible rfl)); rotate_left; (focus (simp only [Act.put, lA, lB, lC, i64_w, i32_w]; rfl))
      exact norm_ (by first | (simp only [putAll, Act.put, lA, lB, lC]; done) | (simp only [putAll, Act.put, lA, lB, lC]; rfl)) (hJ ((A1_, c1_, B1_, d1_), (A2_, c2_, B2_, d2_), (A3_, c3_, B3_, d3_), gX) _ ⟨BK5.out, BK6.out, TX.out, BX.out, GX.out, NE5.out, NE6.out, HB.out⟩)
    ·skip
     refine box_step ?hg (N := 14) ?hd (cs := #[.slice none 0 0, .slice none 0 0]) (t := 25) ?hr ?_; (case hd => rfl); (case hg => rfl); (case hr => first | (go_simp; done) | (go_simp; rfl))
     intro gX hg wv hbox hb
     have GX := yA (show w.heap.size ≤ gX by rw [hg]; exact HB.out.size)
     have NE5 := yA (show gb5 ≠ gX by rw [hg]; exact Nat.ne_of_lt (blk_lt BK5.out))
     have NE6 := yA (show gb6 ≠ gX by rw [hg]; exact Nat.ne_of_lt (blk_lt BK6.out))
     replace HB := yA (yB HB.out hb)
     replace BK5 := yA (yC BK5.out hb)
     replace BK6 := yA (yC BK6.out hb)
     have BX := yA hbox
     clear hb hg hbox
     refine hK.out _ _ ⟨(yR BK5.out 0).trans rfl, (yR BK5.out 1).trans rfl, (yR BK6.out 0).trans rfl, (yR BK6.out 1).trans rfl⟩ (fun hHeld => ?_)
     clear hK K hHeld
     refine norm_ (a' := ?_) ?_ ?_
     rotate_left; (focus (show Act.put _ (some 14) _ = _; simp only [Act.put, lA, lB, lC, i64_w, i32_w]; rfl))
     refine one_ (i := 1) (N := some 60) #[true, true, true, false, false, false, false, false, true, false, false] rfl rfl (one_of HT_.out (by kernel_rfl)) (by decide) (fun K hK => ?_)
     refine goes_ Tryd.func16 (by kernel_rfl) rfl #[.agg #[.slice A0 l0.length c0, .slice A1 l1.length c1]] (by rfl) rfl rfl (by (try simp only [List.map_toArray, List.map_cons, List.map_nil]); first | done | rfl) ?_
     refine (own_tb (HA.out.below HB.out) SA.out ((HG.out.below HB.out).beh)).mono ?_
     rintro e wv ⟨A1_, c1_, B1_, d1_, rfl, ht, hb⟩
     refine ⟨_, rfl, ?_⟩
     replace HB := yA (yB HB.out hb)
     replace BK5 := yA (yC BK5.out hb)
     replace BK6 := yA (yC BK6.out hb)
     replace BX := yA (yC BX.out hb)
     have T1 := yA ht
     clear hb ht
     refine hK.out _ _ ⟨(yR BK5.out 0).trans rfl, (yR BK5.out 1).trans rfl, (yR BK6.out 0).trans rfl, (yR BK6.out 1).trans rfl⟩ (fun hHeld => ?_)
     clear hK K hHeld
     refine norm_ (a' := ?_) ?_ ?_
     rotate_left; (focus (show Act.put _ (some 60) _ = _; simp only [Act.put, lA, lB, lC, i64_w, i32_w]; rfl))
     refine one_ (i := 3) (N := some 62) #[true, true, true, true, false, false, false, false, true, false, false] rfl rfl (one_of HT_.out (by kernel_rfl)) (by decide) (fun K hK => ?_)
     refine goes_ Tryd.func16 (by kernel_rfl) rfl #[.agg #[.slice B0 m0.length d0, .slice B1 m1.length d1]] (by rfl) rfl rfl (by (try simp only [List.map_toArray, List.map_cons, List.map_nil]); first | done | rfl) ?_
     refine (own_tb (HBT.out.below HB.out) SB.out ((HG.out.below HB.out).beh)).mono ?_
     rintro e wv ⟨A2_, c2_, B2_, d2_, rfl, ht, hb⟩
     refine ⟨_, rfl, ?_⟩
     replace HB := yA (yB HB.out hb)
     replace BK5 := yA (yC BK5.out hb)
     replace BK6 := yA (yC BK6.out hb)
     replace T1 := yA (T1.out.below hb)
     replace BX := yA (yC BX.out hb)
     have T2 := yA ht
     clear hb ht
     refine hK.out _ _ ⟨(yR BK5.out 0).trans rfl, (yR BK5.out 1).trans rfl, (yR BK6.out 0).trans rfl, (yR BK6.out 1).trans rfl⟩ (fun hHeld => ?_)
     clear hK K hHeld
     refine norm_ (a' := ?_) ?_ ?_
     rotate_left; (focus (show Act.put _ (some 62) _ = _; simp only [Act.put, lA, lB, lC, i64_w, i32_w]; rfl))
     refine one_ (i := 4) (N := some 63) #[true, true, true, true, true, false, false, false, true, false, false] rfl rfl (one_of HT_.out (by kernel_rfl)) (by decide) (fun K hK => ?_)
     refine goes_ Tryd.func37 (by kernel_rfl) rfl #[.agg #[.slice A1_ l0.length c1_, .slice B1_ l1.length d1_], .agg #[.slice A2_ m0.length c2_, .slice B2_ m1.length d2_]] (by rfl) rfl rfl (by (try simp only [List.map_toArray, List.map_cons, List.map_nil]); first | done | rfl) ?_
     refine (overlay_to T1.out T2.out HOV.out).mono ?_
     rintro e wv ⟨A3_, c3_, B3_, d3_, rfl, ht, hb⟩
     refine ⟨_, rfl, ?_⟩
     replace HB := yA (yB HB.out hb)
     replace BK5 := yA (yC BK5.out hb)
     replace BK6 := yA (yC BK6.out hb)
     replace T1 := yA (T1.out.below hb)
     replace T2 := yA (T2.out.below hb)
     replace BX := yA (yC BX.out hb)
     have TX := yA ht
     clear hb ht T1 T2
     refine hK.out _ _ ⟨(yR BK5.out 0).trans rfl, (yR BK5.out 1).trans rfl, (yR BK6.out 0).trans rfl, (yR BK6.out 1).trans rfl⟩ (fun hHeld => ?_)
     clear hK K hHeld
     refine norm_ (a' := ?_) ?_ ?_
     rotate_left; (focus (show Act.put _ (some 63) _ = _; simp only [Act.put, lA, lB, lC, i64_w, i32_w]; rfl))
     refine pure_ (i := 5) (N := some 58) (v := ?_) (a' := ?_) #[true, true, true, true, true, true, false, false, true, false, false] rfl rfl (any_of HT_.out (by kernel_rfl)) (fun _ _ _ h => h) (Or.inl ⟨by rfl, ?_⟩) ?_ ?_
     rotate_left; (focus (intro w'; go_simp; with_reducible rfl)); rotate_left; (focus (simp only [Act.put, lA, lB, lC, i64_w, i32_w]; rfl))
     refine pure_ (i := 6) (N := some 64) (v := ?_) (a' := ?_) #[true, true, true, true, true, true, true, false, true, false, false] rfl rfl (any_of HT_.out (by kernel_rfl)) (fun _ _ _ h => h) (Or.inl ⟨by rfl, ?_⟩) ?_ ?_
     rotate_left; (focus (intro w'; go_simp; with_reducible rfl)); rotate_left; (focus (simp only [Act.put, lA, lB, lC, i64_w, i32_w]; rfl))
     refine pure_ (i := 7) (N := some 65) (v := ?_) (a' := ?_) #[true, true, true, true, true, true, true, true, true, false, false] rfl rfl (any_of HT_.out (by kernel_rfl)) (fun _ _ _ h => h) (Or.inl ⟨by rfl, ?_⟩) ?_ ?_
     rotate_left; (focus (intro w'; go_simp; with_reducible rfl)); rotate_left; (focus (simp only [Act.put, lA, lB, lC, i64_w, i32_w]; rfl))
     exact norm_ (by first | (simp only [putAll, Act.put, lA, lB, lC]; done) | (simp only [putAll, Act.put, lA, lB, lC]; rfl)) (hJ ((A1_, c1_, B1_, d1_), (A2_, c2_, B2_, d2_), (A3_, c3_, B3_, d3_), gX) _ ⟨BK5.out, BK6.out, TX.out, BX.out, GX.out, NE5.out, NE6.out, HB.out⟩)
   rintro ⟨⟨A1_, c1_, B1_, d1_⟩, ⟨A2_, c2_, B2_, d2_⟩, ⟨A3_, c3_, B3_, d3_⟩, gb14⟩ wx ⟨h0_, h1_, h2_, h3_, h4_, h5_, h6_, h7_⟩
   clear BK5 BK6 HB
   have BK5 := yA h0_
   have BK6 := yA h1_
   have TX := yA h2_
   have BK14 := yA h3_
   have GX := yA h4_
   have NE5 := yA h5_
   have NE6 := yA h6_
   have HB := yA h7_
   clear h0_ h1_ h2_ h3_ h4_ h5_ h6_ h7_
   refine norm_ (a' := ?_) ?_ ?_
   rotate_left
   ·simp only [putAll, Act.put, lA, lB, lC, i64_w, i32_w]
    rfl
   refine one_ (i := 9) (N := none) #[true, true, true, true, true, true, true, true, true, true, false] rfl rfl (one_of HT_.out (by kernel_rfl)) (by decide) (fun K hK => ?_)
   have hcz14_0 : World.cell? _ ⟨gb14, 0, none⟩ = some (.slice none 0 0) := (yR BK14.out 0).trans rfl
   have hfz14_0 := yS BK14.out 0
   have hcz14_1 : World.cell? _ ⟨gb14, 1, none⟩ = some (.slice none 0 0) := (yR BK14.out 1).trans rfl
   have hfz14_1 := yS BK14.out 1
   refine skip_ (w1 := ?_) (by rfl) rfl ?_ ?_
   rotate_left
   ·go_simp
    rfl
   clear hcz14_0 hfz14_0 hcz14_1 hfz14_1
   have m0_ := yA (blk_far (p := ⟨gb14, 1, none⟩) (blk_far (p := ⟨gb14, 0, none⟩) BK5.out NE5.out (.slice A3_ xn.length c3_)) NE5.out (.slice B3_ xr.length d3_))
   have m1_ := yA (blk_far (p := ⟨gb14, 1, none⟩) (blk_far (p := ⟨gb14, 0, none⟩) BK6.out NE6.out (.slice A3_ xn.length c3_)) NE6.out (.slice B3_ xr.length d3_))
   have m2_ := yA ((TX.out.set BK14.out 0 (.slice A3_ xn.length c3_)).set (blk_put (cs' := #[.slice A3_ xn.length c3_, .slice none 0 0]) BK14.out 0 (.slice A3_ xn.length c3_) rfl) 1 (.slice B3_ xr.length d3_))
   have m3_ := yA (blk_put (cs' := #[.slice A3_ xn.length c3_, .slice B3_ xr.length d3_]) (blk_put (cs' := #[.slice A3_ xn.length c3_, .slice none 0 0]) BK14.out 0 (.slice A3_ xn.length c3_) rfl) 1 (.slice B3_ xr.length d3_) rfl)
   have m4_ := yA (yJ (j := 1) (v := .slice B3_ xr.length d3_) (yJ (j := 0) (v := .slice A3_ xn.length c3_) HB.out GX.out) GX.out)
   generalize (wx.setCell ⟨gb14, 0, none⟩ (.slice A3_ xn.length c3_)).setCell ⟨gb14, 1, none⟩ (.slice B3_ xr.length d3_) = wy at m0_ m1_ m2_ m3_ m4_ ⊢
   clear BK5 BK6 TX BK14 HB NE5 NE6 GX
   have BK5 := m0_
   have BK6 := m1_
   have TX := m2_
   have BK14 := m3_
   have HB := m4_
   clear m0_ m1_ m2_ m3_ m4_
   refine hK.out _ _ ⟨(yR BK5.out 0).trans rfl, (yR BK5.out 1).trans rfl, (yR BK6.out 0).trans rfl, (yR BK6.out 1).trans rfl⟩ (fun hHeld => ?_)
   clear hK K hHeld
   refine pure_ (i := 10) (N := some 15) (v := ?_) (a' := ?_) #[true, true, true, true, true, true, true, true, true, true, true] rfl rfl (any_of HT_.out (by kernel_rfl)) (fun _ _ _ h => h) (Or.inl ⟨by rfl, ?_⟩) ?_ ?_
   rotate_left; (focus (intro w'; go_simp; with_reducible rfl)); rotate_left; (focus (simp only [Act.put, lA, lB, lC, i64_w, i32_w]; rfl))
   refine done_ (done_of HT_.out (by kernel_rfl)) ?_
   clear HT_ HW_
   obtain ⟨hxe, hn1, hn2, hlen⟩ | ⟨hxe, hlong⟩ := HX.out
   rotate_left
   ·subst hxe
    have hsum : wrap64 ((l0.length : Int) + (m0.length : Int)) = (l0.length : Int) + (m0.length : Int) := w64 (by have := (valid_lens VA.out).1; have := (valid_lens VB.out).1; omega)
    have hs1 : decide ((l0.length : Int) + (m0.length : Int) > 64) = true := yL (by omega)
    have hs2 : decide (64 < (l0.length : Int) + (m0.length : Int)) = true := yL (by omega)
    have hs3 : (64 < (l0.length : Int) + (m0.length : Int)) = True := eq_true (by omega)
    have hcz5_0 : World.cell? _ ⟨gb5, 0, none⟩ = some (.slice A0 l0.length c0) := (yR BK5.out 0).trans rfl
    have hfz5_0 := yS BK5.out 0
    have hcz5_1 : World.cell? _ ⟨gb5, 1, none⟩ = some (.slice A1 l1.length c1) := (yR BK5.out 1).trans rfl
    have hfz5_1 := yS BK5.out 1
    have hcz6_0 : World.cell? _ ⟨gb6, 0, none⟩ = some (.slice B0 m0.length d0) := (yR BK6.out 0).trans rfl
    have hfz6_0 := yS BK6.out 0
    have hcz6_1 : World.cell? _ ⟨gb6, 1, none⟩ = some (.slice B1 m1.length d1) := (yR BK6.out 1).trans rfl
    have hfz6_1 := yS BK6.out 1
    go_wp2
    go_ret
    exact ⟨rfl, HB.out⟩
   subst hxe
   have VX := yA (show validT xn xr = 0 by rw [hn1, hn2]; exact ov_valid VA.out VB.out hlen)
   have SX := yA (show SmallT xn xr by rw [hn1, hn2]; exact ov_small SA.out SB.out VA.out VB.out hlen)
   have HXC := yA (show ∀ (n : ByteArray) (d : Int), cellC xn xr n d = if (cellC m0 m1 n d).f0 = true then cellC m0 m1 n d else cellC l0 l1 n d by rw [hn1, hn2]; exact ov_cell VA.out VB.out hlen)
   clear HX HOV hn1 hn2 hlen
   obtain ⟨named, hc⟩ : ∃ b, capB nm = b := ⟨_, rfl⟩
   obtain ⟨u0, u1, hu⟩ : ∃ a b, bcell l0 l1 nm 0 = (⟨a, b⟩ : S52) := ⟨_, _, rfl⟩
   have HC := yA hc
   have HU := yA hu
   clear hc hu
   go_upto_region 10 with (fail)
   have hcz5_0 : World.cell? _ ⟨gb5, 0, none⟩ = some (.slice A0 l0.length c0) := (yR BK5.out 0).trans rfl
   have hfz5_0 := yS BK5.out 0
   have hcz5_1 : World.cell? _ ⟨gb5, 1, none⟩ = some (.slice A1 l1.length c1) := (yR BK5.out 1).trans rfl
   have hfz5_1 := yS BK5.out 1
   go_upto_region 11 with (first | ((with_reducible refine yO (f := 38) rfl ?_); refine goesL_ (some 83) rfl rfl Tryd.func38 (by kernel_rfl) rfl #[.agg #[.slice A0 l0.length c0, .slice A1 l1.length c1], .string nm, .int .i64 0] rfl (by (try simp only [List.map_toArray, List.map_cons, List.map_nil]); first | done | rfl) ?_; refine (cell_is (HA.out.below HB.out) SA.out VA.out HC.out HU.out).mono ?_; rintro e wp ⟨rfl, hb⟩; refine ⟨_, rfl, ?_⟩; replace HB := yA (yB HB.out hb); replace BK5 := yA (yC BK5.out hb); replace BK6 := yA (yC BK6.out hb); replace BK14 := yA (yC BK14.out hb); replace TX := yA (TX.out.below hb); clear hb) | ((with_reducible refine yP (N := 16) rfl ?_); refine yQ ?hg (N := 16) ?hd (cs := #[.bool false, .int .i64 0]) (t := 52) ?hr ?_; (case hd => rfl); (case hg => rfl); (case hr => first | (go_simp; done) | (go_simp; rfl)); intro gb16 hg wq hbox hb; have G_ := yA (Nat.le_of_eq hg.symm); have H_ := yA (hb); have BK16 := yA (hbox); have hcz16_0 : World.cell? _ ⟨gb16, 0, none⟩ = some (.bool false) := (yR BK16.out 0).trans rfl; have hfz16_0 := yS BK16.out 0; have hcz16_1 : World.cell? _ ⟨gb16, 1, none⟩ = some (.int .i64 0) := (yR BK16.out 1).trans rfl; have hfz16_1 := yS BK16.out 1; clear hb hg hbox))
   clear hcz5_0 hfz5_0 hcz5_1 hfz5_1 hcz16_0 hfz16_0 hcz16_1 hfz16_1
   have HX_ := yJ (j := 1) (v := .int .i64 u1) (yJ (j := 0) (v := .bool u0) H_.out G_.out) G_.out
   replace HB := yA (yK HB.out HB.out.size HX_)
   replace BK5 := yA (yC BK5.out HX_)
   replace BK6 := yA (yC BK6.out HX_)
   replace BK14 := yA (yC BK14.out HX_)
   replace TX := yA (TX.out.below HX_)
   replace BK16 := yA (blk_put (cs' := #[.bool u0, .int .i64 u1]) (blk_put (cs' := #[.bool u0, .int .i64 0]) BK16.out 0 (.bool u0) rfl) 1 (.int .i64 u1) rfl)
   clear HX_ H_ G_
   generalize (wq.setCell ⟨gb16, 0, none⟩ (.bool u0)).setCell ⟨gb16, 1, none⟩ (.int .i64 u1) = wr at HB BK5 BK6 BK14 TX BK16 ⊢
   clear BK16 HU
   go_upto_if 87 with (fail)
   go_cut [2] (fun v2 wc => ∃ n : ByteArray, v2 = .string n ∧ Aside0 (capB n = true) ∧ Aside0 (Below w.heap.size w wc) ∧ Aside0 (wc.heap[gb5]? = some (.cells #[.slice A0 l0.length c0, .slice A1 l1.length c1] 25 (0, 0))) ∧ Aside0 (wc.heap[gb6]? = some (.cells #[.slice B0 m0.length d0, .slice B1 m1.length d1] 25 (0, 0))) ∧ Aside0 (wc.heap[gb14]? = some (.cells #[.slice A3_ xn.length c3_, .slice B3_ xr.length d3_] 25 (0, 0))) ∧ Aside0 (TO wc A3_ c3_ xn B3_ d3_ xr))
   case first =>
    cases named with
    | false => go_wp2; go_meet; case rel => exact ⟨_, rfl, ⟨by decide +kernel⟩, HB, BK5, BK6, BK14, TX⟩
    | true => go_wp2; go_meet; case rel => exact ⟨nm, rfl, HC, HB, BK5, BK6, BK14, TX⟩
   case rest => as_aux_lemma =>
    obtain ⟨n, rfl, HC1, HB, BK5, BK6, BK14, TX⟩ := hcut
    obtain ⟨p0, p1, hp⟩ : ∃ a b, bcell l0 l1 n day = (⟨a, b⟩ : S52) := ⟨_, _, rfl⟩
    obtain ⟨q0, q1, hq⟩ : ∃ a b, bcell m0 m1 n day = (⟨a, b⟩ : S52) := ⟨_, _, rfl⟩
    obtain ⟨r0, r1, hr⟩ : ∃ a b, bcell xn xr n day = (⟨a, b⟩ : S52) := ⟨_, _, rfl⟩
    have hre : (⟨r0, r1⟩ : S52) = if q0 = true then ⟨q0, q1⟩ else ⟨p0, p1⟩ := by
     rw [bcell_of HC1.out] at hp hq hr
     have h := HXC.out n day
     rw [hp, hq, hr] at h; exact h
    have HP := yA hp
    have HQ := yA hq
    have HR := yA hr
    have HRE := yA hre
    clear hp hq hr hre HXC HC
    go_upto_region 13 with (fail)
    have hcz5_0 : World.cell? _ ⟨gb5, 0, none⟩ = some (.slice A0 l0.length c0) := (yR BK5.out 0).trans rfl
    have hfz5_0 := yS BK5.out 0
    have hcz5_1 : World.cell? _ ⟨gb5, 1, none⟩ = some (.slice A1 l1.length c1) := (yR BK5.out 1).trans rfl
    have hfz5_1 := yS BK5.out 1
    go_upto_region 14 with (first | ((with_reducible refine yO (f := 38) rfl ?_); refine goesL_ (some 92) rfl rfl Tryd.func38 (by kernel_rfl) rfl #[.agg #[.slice A0 l0.length c0, .slice A1 l1.length c1], .string n, .int .i64 day] rfl (by (try simp only [List.map_toArray, List.map_cons, List.map_nil]); first | done | rfl) ?_; refine (cell_is (HA.out.below HB.out) SA.out VA.out HC1.out HP.out).mono ?_; rintro e wp ⟨rfl, hb⟩; refine ⟨_, rfl, ?_⟩; replace HB := yA (yB HB.out hb); replace BK5 := yA (yC BK5.out hb); replace BK6 := yA (yC BK6.out hb); replace BK14 := yA (yC BK14.out hb); replace TX := yA (TX.out.below hb); clear hb) | ((with_reducible refine yP (N := 18) rfl ?_); refine yQ ?hg (N := 18) ?hd (cs := #[.bool false, .int .i64 0]) (t := 52) ?hr ?_; (case hd => rfl); (case hg => rfl); (case hr => first | (go_simp; done) | (go_simp; rfl)); intro gb18 hg wq hbox hb; have G_ := yA (Nat.le_of_eq hg.symm); have H_ := yA (hb); have BK18 := yA (hbox); have hcz18_0 : World.cell? _ ⟨gb18, 0, none⟩ = some (.bool false) := (yR BK18.out 0).trans rfl; have hfz18_0 := yS BK18.out 0; have hcz18_1 : World.cell? _ ⟨gb18, 1, none⟩ = some (.int .i64 0) := (yR BK18.out 1).trans rfl; have hfz18_1 := yS BK18.out 1; clear hb hg hbox))
    clear hcz5_0 hfz5_0 hcz5_1 hfz5_1 hcz18_0 hfz18_0 hcz18_1 hfz18_1
    have HX_ := yJ (j := 1) (v := .int .i64 p1) (yJ (j := 0) (v := .bool p0) H_.out G_.out) G_.out
    replace HB := yA (yK HB.out HB.out.size HX_)
    replace BK5 := yA (yC BK5.out HX_)
    replace BK6 := yA (yC BK6.out HX_)
    replace BK14 := yA (yC BK14.out HX_)
    replace TX := yA (TX.out.below HX_)
    replace BK18 := yA (blk_put (cs' := #[.bool p0, .int .i64 p1]) (blk_put (cs' := #[.bool p0, .int .i64 0]) BK18.out 0 (.bool p0) rfl) 1 (.int .i64 p1) rfl)
    clear HX_ H_ G_
    generalize (wq.setCell ⟨gb18, 0, none⟩ (.bool p0)).setCell ⟨gb18, 1, none⟩ (.int .i64 p1) = wr at HB BK5 BK6 BK14 TX BK18 ⊢
    have hcz6_0 : World.cell? _ ⟨gb6, 0, none⟩ = some (.slice B0 m0.length d0) := (yR BK6.out 0).trans rfl
    have hfz6_0 := yS BK6.out 0
    have hcz6_1 : World.cell? _ ⟨gb6, 1, none⟩ = some (.slice B1 m1.length d1) := (yR BK6.out 1).trans rfl
    have hfz6_1 := yS BK6.out 1
    go_upto_region 15 with (first | ((with_reducible refine yO (f := 38) rfl ?_); refine goesL_ (some 99) rfl rfl Tryd.func38 (by kernel_rfl) rfl #[.agg #[.slice B0 m0.length d0, .slice B1 m1.length d1], .string n, .int .i64 day] rfl (by (try simp only [List.map_toArray, List.map_cons, List.map_nil]); first | done | rfl) ?_; refine (cell_is (HBT.out.below HB.out) SB.out VB.out HC1.out HQ.out).mono ?_; rintro e wp ⟨rfl, hb⟩; refine ⟨_, rfl, ?_⟩; replace HB := yA (yB HB.out hb); replace BK5 := yA (yC BK5.out hb); replace BK6 := yA (yC BK6.out hb); replace BK14 := yA (yC BK14.out hb); replace TX := yA (TX.out.below hb); replace BK18 := yA (yC BK18.out hb); clear hb) | ((with_reducible refine yP (N := 20) rfl ?_); refine yQ ?hg (N := 20) ?hd (cs := #[.bool false, .int .i64 0]) (t := 52) ?hr ?_; (case hd => rfl); (case hg => rfl); (case hr => first | (go_simp; done) | (go_simp; rfl)); intro gb20 hg wq hbox hb; have G_ := yA (Nat.le_of_eq hg.symm); have H_ := yA (hb); have BK20 := yA (hbox); have hcz20_0 : World.cell? _ ⟨gb20, 0, none⟩ = some (.bool false) := (yR BK20.out 0).trans rfl; have hfz20_0 := yS BK20.out 0; have hcz20_1 : World.cell? _ ⟨gb20, 1, none⟩ = some (.int .i64 0) := (yR BK20.out 1).trans rfl; have hfz20_1 := yS BK20.out 1; clear hb hg hbox))
    clear hcz6_0 hfz6_0 hcz6_1 hfz6_1 hcz20_0 hfz20_0 hcz20_1 hfz20_1
    have HX_ := yJ (j := 1) (v := .int .i64 q1) (yJ (j := 0) (v := .bool q0) H_.out G_.out) G_.out
    replace HB := yA (yK HB.out HB.out.size HX_)
    replace BK5 := yA (yC BK5.out HX_)
    replace BK6 := yA (yC BK6.out HX_)
    replace BK14 := yA (yC BK14.out HX_)
    replace TX := yA (TX.out.below HX_)
    replace BK18 := yA (yC BK18.out HX_)
    replace BK20 := yA (blk_put (cs' := #[.bool q0, .int .i64 q1]) (blk_put (cs' := #[.bool q0, .int .i64 0]) BK20.out 0 (.bool q0) rfl) 1 (.int .i64 q1) rfl)
    clear HX_ H_ G_
    generalize (wq.setCell ⟨gb20, 0, none⟩ (.bool q0)).setCell ⟨gb20, 1, none⟩ (.int .i64 q1) = wr at HB BK5 BK6 BK14 TX BK18 BK20 ⊢
    have hcz14_0 : World.cell? _ ⟨gb14, 0, none⟩ = some (.slice A3_ xn.length c3_) := (yR BK14.out 0).trans rfl
    have hfz14_0 := yS BK14.out 0
    have hcz14_1 : World.cell? _ ⟨gb14, 1, none⟩ = some (.slice B3_ xr.length d3_) := (yR BK14.out 1).trans rfl
    have hfz14_1 := yS BK14.out 1
    go_upto_region 16 with (first | ((with_reducible refine yO (f := 38) rfl ?_); refine goesL_ (some 106) rfl rfl Tryd.func38 (by kernel_rfl) rfl #[.agg #[.slice A3_ xn.length c3_, .slice B3_ xr.length d3_], .string n, .int .i64 day] rfl (by (try simp only [List.map_toArray, List.map_cons, List.map_nil]); first | done | rfl) ?_; refine (cell_is TX.out.tb SX.out VX.out HC1.out HR.out).mono ?_; rintro e wp ⟨rfl, hb⟩; refine ⟨_, rfl, ?_⟩; replace HB := yA (yB HB.out hb); replace BK5 := yA (yC BK5.out hb); replace BK6 := yA (yC BK6.out hb); replace BK14 := yA (yC BK14.out hb); replace TX := yA (TX.out.below hb); replace BK18 := yA (yC BK18.out hb); replace BK20 := yA (yC BK20.out hb); clear hb) | ((with_reducible refine yP (N := 22) rfl ?_); refine yQ ?hg (N := 22) ?hd (cs := #[.bool false, .int .i64 0]) (t := 52) ?hr ?_; (case hd => rfl); (case hg => rfl); (case hr => first | (go_simp; done) | (go_simp; rfl)); intro gb22 hg wq hbox hb; have G_ := yA (Nat.le_of_eq hg.symm); have H_ := yA (hb); have BK22 := yA (hbox); have hcz22_0 : World.cell? _ ⟨gb22, 0, none⟩ = some (.bool false) := (yR BK22.out 0).trans rfl; have hfz22_0 := yS BK22.out 0; have hcz22_1 : World.cell? _ ⟨gb22, 1, none⟩ = some (.int .i64 0) := (yR BK22.out 1).trans rfl; have hfz22_1 := yS BK22.out 1; clear hb hg hbox))
    clear hcz14_0 hfz14_0 hcz14_1 hfz14_1 hcz22_0 hfz22_0 hcz22_1 hfz22_1
    have HX_ := yJ (j := 1) (v := .int .i64 r1) (yJ (j := 0) (v := .bool r0) H_.out G_.out) G_.out
    replace HB := yA (yK HB.out HB.out.size HX_)
    replace BK5 := yA (yC BK5.out HX_)
    replace BK6 := yA (yC BK6.out HX_)
    replace BK14 := yA (yC BK14.out HX_)
    replace TX := yA (TX.out.below HX_)
    replace BK18 := yA (yC BK18.out HX_)
    replace BK20 := yA (yC BK20.out HX_)
    replace BK22 := yA (blk_put (cs' := #[.bool r0, .int .i64 r1]) (blk_put (cs' := #[.bool r0, .int .i64 0]) BK22.out 0 (.bool r0) rfl) 1 (.int .i64 r1) rfl)
    clear HX_ H_ G_
    generalize (wq.setCell ⟨gb22, 0, none⟩ (.bool r0)).setCell ⟨gb22, 1, none⟩ (.int .i64 r1) = wr at HB BK5 BK6 BK14 TX BK18 BK20 BK22 ⊢
    clear BK6 BK14 TX
    go_upto_region 18 with (fail)
    have hcz18_0 : World.cell? _ ⟨gb18, 0, none⟩ = some (.bool p0) := (yR BK18.out 0).trans rfl
    have hfz18_0 := yS BK18.out 0
    have hcz18_1 : World.cell? _ ⟨gb18, 1, none⟩ = some (.int .i64 p1) := (yR BK18.out 1).trans rfl
    have hfz18_1 := yS BK18.out 1
    go_upto_region 19 with (first | ((with_reducible refine yP (N := 24) rfl ?_); refine yQ ?hg (N := 24) ?hd (cs := #[.bool false, .int .i64 0]) (t := 52) ?hr ?_; (case hd => rfl); (case hg => rfl); (case hr => first | (go_simp; done) | (go_simp; rfl)); intro gb24 hg wq hbox hb; have G_ := yA (Nat.le_of_eq hg.symm); have H_ := yA (hb); have BK24 := yA (hbox); have hcz24_0 : World.cell? _ ⟨gb24, 0, none⟩ = some (.bool false) := (yR BK24.out 0).trans rfl; have hfz24_0 := yS BK24.out 0; have hcz24_1 : World.cell? _ ⟨gb24, 1, none⟩ = some (.int .i64 0) := (yR BK24.out 1).trans rfl; have hfz24_1 := yS BK24.out 1; have NE5 := yA (Nat.ne_of_lt (Nat.lt_of_lt_of_le (blk_lt BK5.out) G_.out)); have NE18 := yA (Nat.ne_of_lt (Nat.lt_of_lt_of_le (blk_lt BK18.out) G_.out)); have NE22 := yA (Nat.ne_of_lt (Nat.lt_of_lt_of_le (blk_lt BK22.out) G_.out)); have GE24 := yA (Nat.le_trans HB.out.size G_.out); clear hb hg hbox))
    clear hcz18_0 hfz18_0 hcz18_1 hfz18_1 hcz24_0 hfz24_0 hcz24_1 hfz24_1
    have HX_ := yJ (j := 1) (v := .int .i64 p1) (yJ (j := 0) (v := .bool p0) H_.out G_.out) G_.out
    replace HB := yA (yK HB.out HB.out.size HX_)
    replace BK5 := yA (yC BK5.out HX_)
    replace BK18 := yA (yC BK18.out HX_)
    replace BK20 := yA (yC BK20.out HX_)
    replace BK22 := yA (yC BK22.out HX_)
    replace BK24 := yA (blk_put (cs' := #[.bool p0, .int .i64 p1]) (blk_put (cs' := #[.bool p0, .int .i64 0]) BK24.out 0 (.bool p0) rfl) 1 (.int .i64 p1) rfl)
    clear HX_ H_ G_
    generalize (wq.setCell ⟨gb24, 0, none⟩ (.bool p0)).setCell ⟨gb24, 1, none⟩ (.int .i64 p1) = wr at HB BK5 BK18 BK20 BK22 BK24 ⊢
    have hcz20_0 : World.cell? _ ⟨gb20, 0, none⟩ = some (.bool q0) := (yR BK20.out 0).trans rfl
    have hfz20_0 := yS BK20.out 0
    have hcz20_1 : World.cell? _ ⟨gb20, 1, none⟩ = some (.int .i64 q1) := (yR BK20.out 1).trans rfl
    have hfz20_1 := yS BK20.out 1
    go_upto_if 121 with (fail)
    clear hcz20_0 hfz20_0 hcz20_1 hfz20_1
    go_cut [122] (fun v122 wc => Aside0 (Below w.heap.size w wc) ∧ Aside0 (wc.heap[gb5]? = some (.cells #[.slice A0 l0.length c0, .slice A1 l1.length c1] 25 (0, 0))) ∧ Aside0 (wc.heap[gb18]? = some (.cells #[.bool p0, .int .i64 p1] 52 (0, 0))) ∧ Aside0 (wc.heap[gb22]? = some (.cells #[.bool r0, .int .i64 r1] 52 (0, 0))) ∧ Aside0 (wc.heap[gb24]? = some (.cells #[.bool r0, .int .i64 r1] 52 (0, 0))))
    case first =>
     have hre := HRE.out
     cases q0 with
     | false =>
      rw [if_neg (by decide)] at hre; cases hre; go_wp2; go_meet; case rel => exact ⟨HB, BK5, BK18, BK22, BK24⟩
     | true =>
      rw [if_pos rfl] at hre; cases hre
      have hcz20_0 : World.cell? _ ⟨gb20, 0, none⟩ = some (.bool true) := (yR BK20.out 0).trans rfl
      have hfz20_0 := yS BK20.out 0
      have hcz20_1 : World.cell? _ ⟨gb20, 1, none⟩ = some (.int .i64 q1) := (yR BK20.out 1).trans rfl
      have hfz20_1 := yS BK20.out 1
      have hcz24_0 : World.cell? _ ⟨gb24, 0, none⟩ = some (.bool p0) := (yR BK24.out 0).trans rfl
      have hfz24_0 := yS BK24.out 0
      have hcz24_1 : World.cell? _ ⟨gb24, 1, none⟩ = some (.int .i64 p1) := (yR BK24.out 1).trans rfl
      have hfz24_1 := yS BK24.out 1
      go_wp2
      go_meet
      case rel => exact ⟨⟨yJ (j := 1) (v := .int .i64 q1) (yJ (j := 0) (v := .bool true) HB.out GE24.out) GE24.out⟩, ⟨blk_far (p := ⟨gb24, 1, none⟩) (blk_far (p := ⟨gb24, 0, none⟩) BK5.out NE5.out (.bool true)) NE5.out (.int .i64 q1)⟩, ⟨blk_far (p := ⟨gb24, 1, none⟩) (blk_far (p := ⟨gb24, 0, none⟩) BK18.out NE18.out (.bool true)) NE18.out (.int .i64 q1)⟩, ⟨blk_far (p := ⟨gb24, 1, none⟩) (blk_far (p := ⟨gb24, 0, none⟩) BK22.out NE22.out (.bool true)) NE22.out (.int .i64 q1)⟩, ⟨blk_put (cs' := #[.bool true, .int .i64 q1]) (blk_put (cs' := #[.bool true, .int .i64 p1]) BK24.out 0 (.bool true) rfl) 1 (.int .i64 q1) rfl⟩⟩
    case rest => as_aux_lemma =>
     obtain ⟨HB, BK5, BK18, BK22, BK24⟩ := hcut
     clear HRE HQ HR
     have hcz22_0 : World.cell? _ ⟨gb22, 0, none⟩ = some (.bool r0) := (yR BK22.out 0).trans rfl
     have hfz22_0 := yS BK22.out 0
     have hcz22_1 : World.cell? _ ⟨gb22, 1, none⟩ = some (.int .i64 r1) := (yR BK22.out 1).trans rfl
     have hfz22_1 := yS BK22.out 1
     have hcz24_0 : World.cell? _ ⟨gb24, 0, none⟩ = some (.bool r0) := (yR BK24.out 0).trans rfl
     have hfz24_0 := yS BK24.out 0
     have hcz24_1 : World.cell? _ ⟨gb24, 1, none⟩ = some (.int .i64 r1) := (yR BK24.out 1).trans rfl
     have hfz24_1 := yS BK24.out 1
     go_upto_region 23 with (fail)
     clear hcz22_0 hfz22_0 hcz22_1 hfz22_1 hcz24_0 hfz24_0 hcz24_1 hfz24_1
     clear BK22 BK24
     by_cases hr : rows < 0
     ·have hr1 : decide (rows < 0) = true := yL hr
      have hcz5_0 : World.cell? _ ⟨gb5, 0, none⟩ = some (.slice A0 l0.length c0) := (yR BK5.out 0).trans rfl
      have hfz5_0 := yS BK5.out 0
      have hcz5_1 : World.cell? _ ⟨gb5, 1, none⟩ = some (.slice A1 l1.length c1) := (yR BK5.out 1).trans rfl
      have hfz5_1 := yS BK5.out 1
      go_wp2_with (first | ((with_reducible refine yO (f := 16) rfl ?_); refine goesL_ (some 130) rfl rfl Tryd.func16 (by kernel_rfl) rfl #[.agg #[.slice A0 l0.length c0, .slice A1 l1.length c1]] rfl (by (try simp only [List.map_toArray, List.map_cons, List.map_nil]); first | done | rfl) ?_; refine (own_tb (HA.out.below HB.out) SA.out ((HG.out.below HB.out).beh)).mono ?_; rintro e wo ⟨Ao, co, Bo, do_, rfl, ht, hb⟩; refine ⟨_, rfl, ?_⟩; have T1 := yA (ht); replace HB := yA (yB HB.out hb); replace BK5 := yA (yC BK5.out hb); replace BK18 := yA (yC BK18.out hb); clear hb; clear ht) | ((with_reducible refine yO (f := 36) rfl ?_); refine goesL_ (some 132) rfl rfl Tryd.func36 (by kernel_rfl) rfl #[.agg #[.slice Ao l0.length co, .slice Bo l1.length do_], .int .i64 rows] rfl (by (try simp only [List.map_toArray, List.map_cons, List.map_nil]); first | done | rfl) ?_; refine (cut_to T1.out (cut_neg l0 l1 hr)).mono ?_; rintro e wp ⟨Ac, cc, Bc, dc, rfl, ht, hb⟩; refine ⟨_, rfl, ?_⟩; replace HB := yA (yB HB.out hb); replace BK5 := yA (yC BK5.out hb); replace BK18 := yA (yC BK18.out hb); clear hb; clear T1 ht) | ((with_reducible refine yP (N := 25) rfl ?_); refine yQ ?hg (N := 25) ?hd (cs := #[.slice none 0 0, .slice none 0 0]) (t := 25) ?hr ?_; (case hd => rfl); (case hg => rfl); (case hr => first | (go_simp; done) | (go_simp; rfl)); intro gb25 hg wq hbox hb; have G_ := yA (Nat.le_of_eq hg.symm); have H_ := yA (hb); have BK25 := yA (hbox); have hcz25_0 : World.cell? _ ⟨gb25, 0, none⟩ = some (.slice none 0 0) := (yR BK25.out 0).trans rfl; have hfz25_0 := yS BK25.out 0; have hcz25_1 : World.cell? _ ⟨gb25, 1, none⟩ = some (.slice none 0 0) := (yR BK25.out 1).trans rfl; have hfz25_1 := yS BK25.out 1; have GE25 := yA (Nat.le_trans HB.out.size G_.out); clear hb hg hbox))
      go_ret
      exact ⟨rfl, yJ (yJ (yB HB.out H_.out) GE25.out) GE25.out⟩
     have hr1 : decide (rows < 0) = false := yM hr
     obtain ⟨rc, hrc⟩ : ∃ rc, l1.take rows.toNat = rc := ⟨_, rfl⟩
     obtain ⟨kc, hk⟩ := (cut_ev SA.out VA.out rows (by omega)).rounds
     rw [hrc] at hk
     have HCT := yA hk
     have VC := yA (show validT l0 rc = 0 by rw [← hrc]; exact cut_valid VA.out _)
     have SC := yA (show SmallT l0 rc by rw [← hrc]; exact cut_small SA.out _)
     have hln : (rc.length : Int) ≤ rows := by rw [← hrc, List.length_take]; omega
     have HLN := yA hln
     obtain ⟨s0, s1, hs⟩ : ∃ a b, bcell l0 rc n day = (⟨a, b⟩ : S52) := ⟨_, _, rfl⟩
     have hse : (⟨s0, s1⟩ : S52) = if day < rows then ⟨p0, p1⟩ else z52 := by
      have h := HP.out
      rw [bcell_of HC1.out] at h
      have h2 := hs
      rw [bcell_of HC1.out, ← hrc, cut_cell, Int.toNat_of_nonneg (by omega), h] at h2; exact h2.symm
     have HS := yA hs
     have HSE := yA hse
     clear hk hln hs hse hrc
     go_upto_region 26 with (fail)
     have hcz5_0 : World.cell? _ ⟨gb5, 0, none⟩ = some (.slice A0 l0.length c0) := (yR BK5.out 0).trans rfl
     have hfz5_0 := yS BK5.out 0
     have hcz5_1 : World.cell? _ ⟨gb5, 1, none⟩ = some (.slice A1 l1.length c1) := (yR BK5.out 1).trans rfl
     have hfz5_1 := yS BK5.out 1
     go_upto_region 27 with (first | ((with_reducible refine yO (f := 16) rfl ?_); refine goesL_ (some 139) rfl rfl Tryd.func16 (by kernel_rfl) rfl #[.agg #[.slice A0 l0.length c0, .slice A1 l1.length c1]] rfl (by (try simp only [List.map_toArray, List.map_cons, List.map_nil]); first | done | rfl) ?_; refine (own_tb (HA.out.below HB.out) SA.out ((HG.out.below HB.out).beh)).mono ?_; rintro e wo ⟨Ao, co, Bo, do_, rfl, ht, hb⟩; refine ⟨_, rfl, ?_⟩; have T1 := yA (ht); replace HB := yA (yB HB.out hb); replace BK5 := yA (yC BK5.out hb); replace BK18 := yA (yC BK18.out hb); clear hb; clear ht) | ((with_reducible refine yO (f := 36) rfl ?_); refine goesL_ (some 141) rfl rfl Tryd.func36 (by kernel_rfl) rfl #[.agg #[.slice Ao l0.length co, .slice Bo l1.length do_], .int .i64 rows] rfl (by (try simp only [List.map_toArray, List.map_cons, List.map_nil]); first | done | rfl) ?_; refine (cut_to T1.out HCT.out).mono ?_; rintro e wp ⟨Ac, cc, Bc, dc, rfl, ht, hb⟩; refine ⟨_, rfl, ?_⟩; have TC := yA (ht); replace HB := yA (yB HB.out hb); replace BK5 := yA (yC BK5.out hb); replace BK18 := yA (yC BK18.out hb); clear hb; clear T1 ht) | ((with_reducible refine yP (N := 27) rfl ?_); refine yQ ?hg (N := 27) ?hd (cs := #[.slice none 0 0, .slice none 0 0]) (t := 25) ?hr ?_; (case hd => rfl); (case hg => rfl); (case hr => first | (go_simp; done) | (go_simp; rfl)); intro gb27 hg wq hbox hb; have G_ := yA (Nat.le_of_eq hg.symm); have H_ := yA (hb); have BK27 := yA (hbox); have hcz27_0 : World.cell? _ ⟨gb27, 0, none⟩ = some (.slice none 0 0) := (yR BK27.out 0).trans rfl; have hfz27_0 := yS BK27.out 0; have hcz27_1 : World.cell? _ ⟨gb27, 1, none⟩ = some (.slice none 0 0) := (yR BK27.out 1).trans rfl; have hfz27_1 := yS BK27.out 1; clear hb hg hbox))
     clear hcz5_0 hfz5_0 hcz5_1 hfz5_1 hcz27_0 hfz27_0 hcz27_1 hfz27_1
     have HX_ := yJ (j := 1) (v := .slice Bc rc.length dc) (yJ (j := 0) (v := .slice Ac l0.length cc) H_.out G_.out) G_.out
     replace HB := yA (yK HB.out HB.out.size HX_)
     replace BK5 := yA (yC BK5.out HX_)
     replace BK18 := yA (yC BK18.out HX_)
     replace TC := yA (TC.out.below HX_)
     replace BK27 := yA (blk_put (cs' := #[.slice Ac l0.length cc, .slice Bc rc.length dc]) (blk_put (cs' := #[.slice Ac l0.length cc, .slice none 0 0]) BK27.out 0 (.slice Ac l0.length cc) rfl) 1 (.slice Bc rc.length dc) rfl)
     clear HX_ H_ G_
     generalize (wq.setCell ⟨gb27, 0, none⟩ (.slice Ac l0.length cc)).setCell ⟨gb27, 1, none⟩ (.slice Bc rc.length dc) = wr at HB BK5 BK18 TC BK27 ⊢
     have hcz27_0 : World.cell? _ ⟨gb27, 0, none⟩ = some (.slice Ac l0.length cc) := (yR BK27.out 0).trans rfl
     have hfz27_0 := yS BK27.out 0
     have hcz27_1 : World.cell? _ ⟨gb27, 1, none⟩ = some (.slice Bc rc.length dc) := (yR BK27.out 1).trans rfl
     have hfz27_1 := yS BK27.out 1
     go_upto_region 28 with (first | ((with_reducible refine yO (f := 38) rfl ?_); refine goesL_ (some 148) rfl rfl Tryd.func38 (by kernel_rfl) rfl #[.agg #[.slice Ac l0.length cc, .slice Bc rc.length dc], .string n, .int .i64 day] rfl (by (try simp only [List.map_toArray, List.map_cons, List.map_nil]); first | done | rfl) ?_; refine (cell_is TC.out.tb SC.out VC.out HC1.out HS.out).mono ?_; rintro e wp ⟨rfl, hb⟩; refine ⟨_, rfl, ?_⟩; replace HB := yA (yB HB.out hb); replace BK5 := yA (yC BK5.out hb); replace BK18 := yA (yC BK18.out hb); replace TC := yA (TC.out.below hb); replace BK27 := yA (yC BK27.out hb); clear hb) | ((with_reducible refine yP (N := 29) rfl ?_); refine yQ ?hg (N := 29) ?hd (cs := #[.bool false, .int .i64 0]) (t := 52) ?hr ?_; (case hd => rfl); (case hg => rfl); (case hr => first | (go_simp; done) | (go_simp; rfl)); intro gb29 hg wq hbox hb; have G_ := yA (Nat.le_of_eq hg.symm); have H_ := yA (hb); have BK29 := yA (hbox); have hcz29_0 : World.cell? _ ⟨gb29, 0, none⟩ = some (.bool false) := (yR BK29.out 0).trans rfl; have hfz29_0 := yS BK29.out 0; have hcz29_1 : World.cell? _ ⟨gb29, 1, none⟩ = some (.int .i64 0) := (yR BK29.out 1).trans rfl; have hfz29_1 := yS BK29.out 1; clear hb hg hbox))
     clear hcz27_0 hfz27_0 hcz27_1 hfz27_1 hcz29_0 hfz29_0 hcz29_1 hfz29_1
     have HX_ := yJ (j := 1) (v := .int .i64 s1) (yJ (j := 0) (v := .bool s0) H_.out G_.out) G_.out
     replace HB := yA (yK HB.out HB.out.size HX_)
     replace BK5 := yA (yC BK5.out HX_)
     replace BK18 := yA (yC BK18.out HX_)
     replace TC := yA (TC.out.below HX_)
     replace BK27 := yA (yC BK27.out HX_)
     replace BK29 := yA (blk_put (cs' := #[.bool s0, .int .i64 s1]) (blk_put (cs' := #[.bool s0, .int .i64 0]) BK29.out 0 (.bool s0) rfl) 1 (.int .i64 s1) rfl)
     clear HX_ H_ G_
     generalize (wq.setCell ⟨gb29, 0, none⟩ (.bool s0)).setCell ⟨gb29, 1, none⟩ (.int .i64 s1) = wr at HB BK5 BK18 TC BK27 BK29 ⊢
     clear TC HCT HS VC SC
     go_cut [183] (fun v183 wc => v183 = .bool false ∧ Aside0 (Below w.heap.size w wc) ∧ Aside0 (wc.heap[gb5]? = some (.cells #[.slice A0 l0.length c0, .slice A1 l1.length c1] 25 (0, 0))) ∧ Aside0 (wc.heap[gb18]? = some (.cells #[.bool p0, .int .i64 p1] 52 (0, 0))))
     case first =>
      have hcz18_0 : World.cell? _ ⟨gb18, 0, none⟩ = some (.bool p0) := (yR BK18.out 0).trans rfl
      have hfz18_0 := yS BK18.out 0
      have hcz18_1 : World.cell? _ ⟨gb18, 1, none⟩ = some (.int .i64 p1) := (yR BK18.out 1).trans rfl
      have hfz18_1 := yS BK18.out 1
      have hcz27_0 : World.cell? _ ⟨gb27, 0, none⟩ = some (.slice Ac l0.length cc) := (yR BK27.out 0).trans rfl
      have hfz27_0 := yS BK27.out 0
      have hcz27_1 : World.cell? _ ⟨gb27, 1, none⟩ = some (.slice Bc rc.length dc) := (yR BK27.out 1).trans rfl
      have hfz27_1 := yS BK27.out 1
      have hcz29_0 : World.cell? _ ⟨gb29, 0, none⟩ = some (.bool s0) := (yR BK29.out 0).trans rfl
      have hfz29_0 := yS BK29.out 0
      have hcz29_1 : World.cell? _ ⟨gb29, 1, none⟩ = some (.int .i64 s1) := (yR BK29.out 1).trans rfl
      have hfz29_1 := yS BK29.out 1
      have hl1 : decide ((rc.length : Int) > rows) = false := yM (by have := HLN.out; omega)
      have hl2 : decide (rows < (rc.length : Int)) = false := hl1
      have hse := HSE.out
      by_cases hd : day < rows
      ·rw [if_pos hd] at hse; cases hse
       have hd1 : decide (day < rows) = true := yL hd
       have hd2 : decide (day ≥ rows) = false := yM (by omega)
       have hd3 : decide (rows ≤ day) = false := hd2
       go_wp2
       go_meet
       case rel => exact ⟨by simp, HB, BK5, BK18⟩
      ·rw [if_neg hd] at hse; cases hse
       have hd1 : decide (day < rows) = false := yM hd
       have hd2 : decide (day ≥ rows) = true := yL (by omega)
       have hd3 : decide (rows ≤ day) = true := hd2
       go_wp2
       go_meet
       case rel => exact ⟨by simp, HB, BK5, BK18⟩
     case rest => as_aux_lemma =>
      obtain ⟨rfl, HB, BK5, BK18⟩ := hcut
      clear BK27 BK29 HSE HLN
      by_cases hd : day < 0
      ·have hd1 : decide (day < 0) = true := yL hd
       go_wp2
       go_ret
       exact ⟨rfl, HB.out⟩
      have hd1 : decide (day < 0) = false := yM hd
      by_cases he : day > 3660
      ·have he1 : decide (day > 3660) = true := yL he
       have he2 : decide (3660 < day) = true := he1
       go_wp2
       go_ret
       exact ⟨rfl, HB.out⟩
      have he1 : decide (day > 3660) = false := yM he
      have he2 : decide (3660 < day) = false := he1
      have hcz5_0 : World.cell? _ ⟨gb5, 0, none⟩ = some (.slice A0 l0.length c0) := (yR BK5.out 0).trans rfl
      have hfz5_0 := yS BK5.out 0
      have hcz5_1 : World.cell? _ ⟨gb5, 1, none⟩ = some (.slice A1 l1.length c1) := (yR BK5.out 1).trans rfl
      have hfz5_1 := yS BK5.out 1
      go_upto_region 33 with (first | ((with_reducible refine yO (f := 16) rfl ?_); refine goesL_ (some 192) rfl rfl Tryd.func16 (by kernel_rfl) rfl #[.agg #[.slice A0 l0.length c0, .slice A1 l1.length c1]] rfl (by (try simp only [List.map_toArray, List.map_cons, List.map_nil]); first | done | rfl) ?_; refine (own_tb (HA.out.below HB.out) SA.out ((HG.out.below HB.out).beh)).mono ?_; rintro e wo ⟨Ao, co, Bo, do_, rfl, ht, hb⟩; refine ⟨_, rfl, ?_⟩; have T1 := yA (ht); replace HB := yA (yB HB.out hb); replace BK5 := yA (yC BK5.out hb); replace BK18 := yA (yC BK18.out hb); clear hb; clear ht) | ((with_reducible refine yP (N := 194) rfl ?_); refine Kd.R_lit Kd.string _ 9 ?hg (N := 194) ?hd (xs := ([n] : List ByteArray)) (inner := [.string n]) (ok := fun _ => True) (okp := fun _ => True) ?hr ?hp (fun _ hk => hk) trivial (Below.refl _ _) (Nat.le_refl _) (by simp) ?_; (case hd => rfl); (case hg => rfl); (case hr => first | (go_simp; done) | (go_simp; rfl)); (case hp => exact (Reps.one (show Kd.M Kd.string _ _ _ n [.string n] from rfl) (Reps.none _ _))); intro vn wl hol hb hg_ hnew_; clear hg_ hnew_; obtain ⟨An, cn, rfl⟩ := Kd.R_slice hol; have HN := yA (Kd.R_reads' hol).2.2; have HNC := yA (Kd.R_reads' hol).2.1; clear hol; replace T1 := yA (T1.out.below hb); replace HB := yA (yB HB.out hb); replace BK5 := yA (yC BK5.out hb); replace BK18 := yA (yC BK18.out hb); clear hb) | ((with_reducible refine yO (f := 39) rfl ?_); refine goesL_ (some 196) rfl rfl Tryd.func39 (by kernel_rfl) rfl #[.agg #[.slice Ao l0.length co, .slice Bo l1.length do_], .slice An 1 cn, .int .i64 day] rfl (by (try simp only [List.map_toArray, List.map_cons, List.map_nil]); first | done | rfl) ?_; refine (missing_is T1.out SA.out VA.out HC1.out (by omega) (by omega) HN.out HNC.out).mono ?_; rintro e wp ⟨Am, cm, rfl, hm, hb⟩; refine ⟨_, rfl, ?_⟩; have HM := yA (hm); replace HB := yA (yB HB.out hb); replace BK5 := yA (yC BK5.out hb); replace BK18 := yA (yC BK18.out hb); clear hb; clear hm T1 HN HNC))
      clear hcz5_0 hfz5_0 hcz5_1 hfz5_1
      obtain ⟨m, rfl⟩ := Int.eq_ofNat_of_zero_le (show 0 ≤ day by omega)
      have hlast := missD_last l0 l1 n m
      have hp := HP.out
      rw [bcell_of HC1.out] at hp
      rw [hp] at hlast
      rw [Int.toNat_natCast] at HM ⊢
      have hLL := missD_len l0 l1 n (m + 1)
      obtain ⟨L, hL⟩ : ∃ L, missD l0 l1 n (m + 1) = L := ⟨_, rfl⟩
      rw [hL] at HM hlast hLL ⊢
      clear hL hp
      go_upto_region 35 with (fail)
      obtain ⟨ix, hix⟩ : ∃ ix : Int, (L.length : Int) - 1 = ix := ⟨_, rfl⟩
      have hw : wrap64 ((L.length : Int) - 1) = ix := by rw [w64 (by omega)]; exact hix
      rcases hlast with ⟨⟨ms, hms⟩, hp0⟩ | ⟨hne, hp0⟩
      ·obtain rfl : p0 = false := Bool.eq_false_iff.2 hp0
       have hcz18_0 : World.cell? _ ⟨gb18, 0, none⟩ = some (.bool false) := (yR BK18.out 0).trans rfl
       have hfz18_0 := yS BK18.out 0
       have hcz18_1 : World.cell? _ ⟨gb18, 1, none⟩ = some (.int .i64 p1) := (yR BK18.out 1).trans rfl
       have hfz18_1 := yS BK18.out 1
       have hlen : (L.length : Int) = (ms.length : Int) + 1 := by rw [hms, List.length_append]; rfl
       have hv : rd_T68 L ix = ⟨n, (m : Int)⟩ := by
        obtain rfl : ix = (ms.length : Int) := by omega
        rw [hms]; unfold rd_T68; rw [Int.toNat_natCast]; simp
       have hg0 : decide ((L.length : Int) > 0) = true := yL (by omega)
       have hg1 : decide (0 < (L.length : Int)) = true := yL (by omega)
       have hg2 : decide (0 < L.length) = true := yL (by omega)
       obtain ⟨ad, eA, hx0, hx1⟩ := at_T68 HM.out ix (by omega) (by omega)
       subst eA
       have q0 : (0 ≤ ix) = True := eq_true (by omega)
       have q1 : (ix < (L.length : Int)) = True := eq_true (by omega)
       rw [hv] at hx0 hx1
       clear hv hlen hms hix hLL
       go_wp2
       go_ret
       exact ⟨by first | rfl | simp [*], HB.out⟩
      ·obtain rfl : p0 = true := hp0
       have hcz18_0 : World.cell? _ ⟨gb18, 0, none⟩ = some (.bool true) := (yR BK18.out 0).trans rfl
       have hfz18_0 := yS BK18.out 0
       have hcz18_1 : World.cell? _ ⟨gb18, 1, none⟩ = some (.int .i64 p1) := (yR BK18.out 1).trans rfl
       have hfz18_1 := yS BK18.out 1
       by_cases hl0 : L.length = 0
       ·have hg0 : decide ((L.length : Int) > 0) = false := yM (by omega)
        have hg1 : decide (0 < (L.length : Int)) = false := yM (by omega)
        have hg2 : decide (0 < L.length) = false := yM (by omega)
        clear hl0 hix hLL hne hw
        go_wp2
        go_ret
        exact ⟨by first | rfl | simp [*], HB.out⟩
       have hg0 : decide ((L.length : Int) > 0) = true := yL (by omega)
       have hg1 : decide (0 < (L.length : Int)) = true := yL (by omega)
       have hg2 : decide (0 < L.length) = true := yL (by omega)
       obtain ⟨a0, a1, ha⟩ : ∃ a b, rd_T68 L ix = (⟨a, b⟩ : S68) := ⟨_, _, rfl⟩
       have hmem : rd_T68 L ix ∈ L := by
        obtain ⟨j, rfl⟩ := Int.eq_ofNat_of_zero_le (show 0 ≤ ix by omega)
        unfold rd_T68; rw [Int.toNat_natCast, List.getD_eq_getElem?_getD, List.getElem?_eq_getElem (by omega)]; exact List.getElem_mem _
       have hn1 : (a1 == (m : Int)) = false := beq_eq_false_iff_ne.mpr (by have := hne _ hmem; rw [ha] at this; exact this)
       obtain ⟨ad, eA, hx0, hx1⟩ := at_T68 HM.out ix (by omega) (by omega)
       subst eA
       have q0 : (0 ≤ ix) = True := eq_true (by omega)
       have q1 : (ix < (L.length : Int)) = True := eq_true (by omega)
       rw [ha] at hx0 hx1
       clear ha hmem hne hl0 hix hLL
       go_wp2
       go_ret
       exact ⟨by first | rfl | simp [*], HB.out⟩
end Go.Proofs.YtppojbafagneeaaDoor.Pure
