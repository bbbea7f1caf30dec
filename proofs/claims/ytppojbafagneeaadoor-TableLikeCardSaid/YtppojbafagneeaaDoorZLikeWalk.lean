/- Own text, for this claim: TableLike: the law walked, given what its calls answer. Printed by wip/tools/mklike.py. -/
import Derived.Test.YtppojbafagneeaaDoorZPlainTab
namespace Go.Proofs.YtppojbafagneeaaDoor.Pure
open Go.RowKit Go.Maps Go.ChangeShapes Go.WideShapes Go.Proofs.YtppojbafagneeaaDoor.PTab Go.Proofs.YtppojbafagneeaaDoorW.PrintWords Go.Proofs.YtppojbafagneeaaDoorW.PrintLast Go.Proofs.YtppojbafagneeaaDoorW.PrintMore
set_option linter.unusedVariables false
set_option linter.unusedSimpArgs false
attribute [local go_sem high] eqA52
def qR : List (List S52) := [[⟨true, 5⟩, ⟨true, -7⟩], [⟨false, 0⟩, ⟨true, 1⟩], [⟨false, 0⟩, ⟨false, 0⟩]]
structure Like (l0 : List ByteArray) (l1 : List (List S52)) (m0 : List ByteArray) (m1 : List (List S52)) (last : Int) : Prop where
 p1 : agreeB pN pR pN qR 1 = false
 p0 : agreeB pN pR pN qR 0 = true
 aa : agreeB l0 l1 l0 l1 last = true
 ba : agreeB m0 m1 l0 l1 last = agreeB l0 l1 m0 m1 last
 le : agreeB l0 l1 m0 m1 last = true → 0 < last → agreeB l0 l1 m0 m1 (wrap64 (last - 1)) = true
 ov : validT l0 l1 = 0 → ∃ k, table_Overlay.f k l0 l1 l0 l1 = some (l0, l1, 0)
 cu : validT l0 l1 = 0 → 0 ≤ last → last ≤ 5000 → ∃ k r, table_Cut.f k l0 l1 (last + 1) = some (l0, r, 0) ∧ agreeB l0 l1 l0 r last = true ∧ r.length ≤ 140737488351232
 sm : ∃ k, payofflaw05_same.f k l0 l1 l0 l1 = some true
theorem agree_is {w : World} {A A' B B' : Option Addr} {c c' d d' : Nat} {l0 m0 : List ByteArray} {l1 m1 : List (List S52)} (h : TB w A c l0 B d l1) (g : TB w A' c' m0 B' d' m1) (hs : SmallA l0 l1) (gs : SmallA m0 m1) (last : Int) {r : Bool} (hr : agreeB l0 l1 m0 m1 last = r) :
  Calls Tryd.prog 17 #[.agg #[.slice A l0.length c, .slice B l1.length d], .agg #[.slice A' m0.length c', .slice B' m1.length d'], .int .i64 last] w fun e w' => e = .returned (.bool r) ∧ Below w.heap.size w w' := by
 subst hr
 exact agree_tb h g hs gs last
theorem valid_is {w : World} {A B : Option Addr} {c d : Nat} {l0 : List ByteArray} {l1 : List (List S52)} (h : TB w A c l0 B d l1) (hs : SmallT l0 l1) {v : Int} (hv : validT l0 l1 = v) : Calls Tryd.prog 20 #[.agg #[.slice A l0.length c, .slice B l1.length d]] w fun e w' => e = .returned (.int .i64 v) ∧ Below w.heap.size w w' := by
 subst hv
 exact valid_tb h hs
structure TO (w : World) (A : Option Addr) (c : Nat) (l0 : List ByteArray) (B : Option Addr) (d : Nat) (l1 : List (List S52)) : Prop where
 n : ∃ b, Kd.R Kd.string 9 w b (fun _ => True) (.slice A l0.length c) l0
 r : ∃ b, Kd.S (Kd.slice 52 k52) 54 w b (fun _ => True) (.slice B l1.length d) l1
theorem TO.below {w w1 : World} {A B : Option Addr} {c d : Nat} {l0 : List ByteArray} {l1 : List (List S52)} (h : TO w A c l0 B d l1) (hb : Below w.heap.size w w1) : TO w1 A c l0 B d l1 :=
 ⟨h.n.imp fun _ q => Kd.R_below q hb, h.r.imp fun _ q => Kd.S_below q hb⟩
theorem TO.drew {w : World} {A B : Option Addr} {c d : Nat} {l0 : List ByteArray} {l1 : List (List S52)} (h : TO w A c l0 B d l1) : TO w.drew A c l0 B d l1 := h.below (below_drew (Below.refl _ _))
theorem TO.set {w : World} {A B : Option Addr} {c d : Nat} {l0 : List ByteArray} {l1 : List (List S52)} (h : TO w A c l0 B d l1) {g : Nat} {cs : Array Value} (hb : w.heap[g]? = some (.cells cs 25 (0, 0))) (j : Nat) (u : Value) : TO (w.setCell ⟨g, j, none⟩ u) A c l0 B d l1 :=
 ⟨h.n.imp fun _ q => Kd.R_set q hb (by decide) j u, h.r.imp fun _ q => Kd.S_set q hb (by decide) j u⟩
theorem TO.tb {w : World} {A B : Option Addr} {c d : Nat} {l0 : List ByteArray} {l1 : List (List S52)} (h : TO w A c l0 B d l1) : TB w A c l0 B d l1 := by
 obtain ⟨⟨b, hn⟩, ⟨b', hr⟩⟩ := h
 exact ⟨(Kd.R_reads' hn).2.2, (Kd.R_reads' hn).2.1, (Kd.S_reads' hr).2.2, (Kd.S_reads' hr).2.1⟩
theorem cut_to {w : World} {A B : Option Addr} {c d : Nat} {l0 m0 : List ByteArray} {l1 m1 : List (List S52)} (h : TB w A c l0 B d l1) {k : Nat} {n e : Int} (hf : table_Cut.f k l0 l1 n = some (m0, m1, e)) :
  Calls Tryd.prog 36 #[.agg #[.slice A l0.length c, .slice B l1.length d], .int .i64 n] w fun x w' => ∃ (A' : Option Addr) (c' : Nat) (B' : Option Addr) (d' : Nat), x = .returned (.tuple #[.agg #[.slice A' m0.length c', .slice B' m1.length d'], .int .i64 e]) ∧ TO w' A' c' m0 B' d' m1 ∧ Below w.heap.size w w' := by
 refine (table_Cut.calls k A c l0 B d l1 n m0 m1 e w h.n h.hn h.r h.hr hf).mono ?_
 rintro x w' ⟨v0, v1, rfl, h0, h1, hb⟩
 obtain ⟨A', c', rfl⟩ := Kd.R_slice h0
 obtain ⟨B', d', rfl⟩ := Kd.S_slice h1
 exact ⟨A', c', B', d', rfl, ⟨⟨_, h0⟩, ⟨_, h1⟩⟩, hb⟩
theorem overlay_to {w : World} {A A' B B' : Option Addr} {c c' d d' : Nat} {l0 m0 p0 : List ByteArray} {l1 m1 p1 : List (List S52)} (h : TB w A c l0 B d l1) (g : TB w A' c' m0 B' d' m1) {k : Nat} {e : Int} (hf : table_Overlay.f k l0 l1 m0 m1 = some (p0, p1, e)) :
  Calls Tryd.prog 37 #[.agg #[.slice A l0.length c, .slice B l1.length d], .agg #[.slice A' m0.length c', .slice B' m1.length d']] w fun x w' => ∃ (C : Option Addr) (q : Nat) (D : Option Addr) (s : Nat), x = .returned (.tuple #[.agg #[.slice C p0.length q, .slice D p1.length s], .int .i64 e]) ∧ TO w' C q p0 D s p1 ∧ Below w.heap.size w w' := by
 refine (table_Overlay.calls k A c l0 B d l1 A' c' m0 B' d' m1 p0 p1 e w h.n h.hn h.r h.hr g.n g.hn g.r g.hr hf).mono ?_
 rintro x w' ⟨v0, v1, rfl, h0, h1, hb⟩
 obtain ⟨C, q, rfl⟩ := Kd.R_slice h0
 obtain ⟨D, s, rfl⟩ := Kd.S_slice h1
 exact ⟨C, q, D, s, rfl, ⟨⟨_, h0⟩, ⟨_, h1⟩⟩, hb⟩
theorem small_pA : SmallA pN pR := ⟨by decide, by decide, by decide⟩
theorem small_qA : SmallA pN qR := ⟨by decide, by decide, by decide⟩
def payofflaw05_TableLike.T5 : Bool × List (List Nat × List Nat) := (true, [([], []), ([0], [0]), ([1], [1]), ([2], [2]), ([2], [2]), ([3, 4, 2, 2], [2, 3, 4]), ([2, 5], [2, 5]), ([6, 5], [6]), ([7], [7]), ([7], [7]), ([8, 9, 7, 7], [7, 8, 9]), ([10, 7], [7, 10]), ([7, 11], [7, 11]), ([12, 10], [12]), ([13], [13]), ([14, 13, 13], [13, 14]), ([13], [13]), ([16, 15, 13], [13, 16]), ([13], [13]), ([15, 17, 18, 17, 13], [13, 15, 17, 18]), ([19, 13], [13, 19]), ([13, 20], [13, 20])])
def payofflaw05_TableLike.B5 : List Nat := [0, 1, 3, 7, 7, 31, 63, 127, 255, 255, 1023, 2047, 4095, 8191, 16383, 32767, 16383, 131071, 16383, 524287, 1048575, 2097151]
theorem payofflaw05_TableLike.tab5 : rtab .any (opsOf Tryd.f14 5) = payofflaw05_TableLike.T5 := by kernel_rfl
theorem payofflaw05_TableLike.bits5 : waitsOk payofflaw05_TableLike.T5.2 payofflaw05_TableLike.B5 = true := by kernel_rfl
def payofflaw05_TableLike.T8 : Bool × List (List Nat × List Nat) := (true, [([], []), ([], []), ([1], [1]), ([], []), ([3, 2], [3]), ([], []), ([2, 4, 5, 4], [2, 4, 5]), ([0, 6], [0, 6])])
def payofflaw05_TableLike.B8 : List Nat := [0, 0, 2, 0, 14, 0, 62, 127]
theorem payofflaw05_TableLike.tab8 : rtab .any (opsOf Tryd.f14 8) = payofflaw05_TableLike.T8 := by kernel_rfl
theorem payofflaw05_TableLike.bits8 : waitsOk payofflaw05_TableLike.T8.2 payofflaw05_TableLike.B8 = true := by kernel_rfl
def payofflaw05_TableLike.T10 : Bool × List (List Nat × List Nat) := (true, [([], []), ([0], [0]), ([1], [1]), ([2, 1], [1, 2]), ([1, 3], [1, 3]), ([4, 1], [4]), ([5], [5]), ([6, 5, 5], [5, 6]), ([5], [5]), ([8, 7, 5], [5, 8]), ([5], [5]), ([10, 5], [5, 10]), ([7, 9, 11, 9, 5], [5, 7, 9, 11]), ([12, 5], [5, 12]), ([5, 13], [5, 13])])
def payofflaw05_TableLike.B10 : List Nat := [0, 1, 3, 7, 15, 31, 63, 127, 63, 511, 63, 1087, 4095, 8191, 16383]
theorem payofflaw05_TableLike.tab10 : rtab .any (opsOf Tryd.f14 10) = payofflaw05_TableLike.T10 := by kernel_rfl
theorem payofflaw05_TableLike.bits10 : waitsOk payofflaw05_TableLike.T10.2 payofflaw05_TableLike.B10 = true := by kernel_rfl
def payofflaw05_TableLike.T15 : Bool × List (List Nat × List Nat) := (true, [([], []), ([0], [0]), ([], []), ([2, 1], [2]), ([1, 3, 3], [1, 3]), ([4], [4]), ([5], [5]), ([5], [5]), ([], []), ([8, 6, 4, 0, 1, 2, 3, 4, 5, 6, 8], [6, 8]), ([7, 9, 0, 1, 2, 3, 4, 5, 6, 7, 8, 9], [7])])
def payofflaw05_TableLike.B15 : List Nat := [0, 1, 0, 7, 15, 31, 63, 63, 0, 383, 1023]
theorem payofflaw05_TableLike.tab15 : rtab .any (opsOf Tryd.f14 15) = payofflaw05_TableLike.T15 := by kernel_rfl
theorem payofflaw05_TableLike.bits15 : waitsOk payofflaw05_TableLike.T15.2 payofflaw05_TableLike.B15 = true := by kernel_rfl
def payofflaw05_TableLike.T16 : Bool × List (List Nat × List Nat) := (true, [([], []), ([0], [0]), ([1], [1]), ([2], [2]), ([3, 2, 2], [2, 3]), ([2], [2]), ([2], [2]), ([4, 5, 6, 4, 2], [2, 4, 5, 6]), ([2, 7], [2, 7]), ([8, 7], [8]), ([9], [9]), ([10, 9], [9, 10]), ([9, 11], [9, 11]), ([12, 9], [12]), ([13], [13]), ([13], [13]), ([14, 15, 13, 13], [13, 14, 15]), ([13, 16], [13, 16]), ([17, 16, 0, 1, 2, 3, 4, 5, 6, 7, 8, 9, 10, 11, 12, 13, 14, 15, 16, 17], [17])])
def payofflaw05_TableLike.B16 : List Nat := [0, 1, 3, 7, 15, 7, 7, 127, 255, 511, 1023, 2047, 4095, 8191, 16383, 16383, 65535, 131071, 262143]
theorem payofflaw05_TableLike.tab16 : rtab .any (opsOf Tryd.f14 16) = payofflaw05_TableLike.T16 := by kernel_rfl
theorem payofflaw05_TableLike.bits16 : waitsOk payofflaw05_TableLike.T16.2 payofflaw05_TableLike.B16 = true := by kernel_rfl
set_option maxHeartbeats 8000000 in
set_option maxRecDepth 100000 in
theorem like_walk (A0 : Option Addr) (c0 : Nat) (l0 : List ByteArray) (A1 : Option Addr) (c1 : Nat) (l1 : List (List S52)) (B0 : Option Addr) (d0 : Nat) (m0 : List ByteArray) (B1 : Option Addr) (d1 : Nat) (m1 : List (List S52)) (last : Int) (w : World) (ha : TB w A0 c0 l0 A1 c1 l1) (hb : TB w B0 d0 m0 B1 d1 m1) (sa : SmallT l0 l1) (sb : SmallT m0 m1) (hL : Like l0 l1 m0 m1 last) (hG : GB w) :
  Calls Tryd.prog 14 #[.agg #[.slice A0 l0.length c0, .slice A1 l1.length c1], .agg #[.slice B0 m0.length d0, .slice B1 m1.length d1], .int .i64 last] w fun e w' => e = .returned (.bool true) ∧ Below w.heap.size w w' := by
 have hu25 := Tryd.underlying25
 have hu52 := Tryd.underlying52
 have HA := Aside0.mk ha
 have HBT := Aside0.mk hb
 have SA := Aside0.mk sa
 have SB := Aside0.mk sb
 have HL := Aside0.mk hL
 have HG := Aside0.mk hG
 have HB := Aside0.mk (Below.refl w.heap.size w)
 clear ha hb sa sb hL hG
 go_enter Tryd.func14, Tryd.ntmps14
 go_wp2_with (first | ((with_reducible refine gate_dst (N := 3) rfl ?_); refine box_event ?hg (N := 3) ?hd (cs := #[.slice A0 l0.length c0, .slice A1 l1.length c1]) (t := 25) ?hr ?_; (case hd => rfl); (case hg => rfl); (case hr => first | (go_simp; done) | (go_simp; rfl)); intro gb3 hg w3 hbox hb; have GE3 := Aside0.mk (show w.heap.size ≤ gb3 by rw [hg]; exact HB.out.size); replace HB := Aside0.mk (below_step HB.out hb); have BK3 := Aside0.mk (hbox); clear hb hg hbox) | ((with_reducible refine gate_dst (N := 4) rfl ?_); refine box_event ?hg (N := 4) ?hd (cs := #[.slice B0 m0.length d0, .slice B1 m1.length d1]) (t := 25) ?hr ?_; (case hd => rfl); (case hg => rfl); (case hr => first | (go_simp; done) | (go_simp; rfl)); intro gb4 hg w4 hbox hb; have GE4 := Aside0.mk (show w.heap.size ≤ gb4 by rw [hg]; exact HB.out.size); replace HB := Aside0.mk (below_step HB.out hb); replace BK3 := Aside0.mk (blk_below BK3.out hb); have BK4 := Aside0.mk (hbox); clear hb hg hbox) | ((with_reducible refine gate_callee (f := 32) rfl ?_); refine goesL_ (some 15) rfl rfl Tryd.func32 (by kernel_rfl) rfl #[] rfl (by (try simp only [List.map_toArray, List.map_cons, List.map_nil]); first | done | rfl) ?_; refine (plain_raw _).mono ?_; rintro e w5 ⟨g0, g1, g2, g3, gO, rfl, hp, hb⟩; refine ⟨_, rfl, ?_⟩; have P0 := Aside0.mk (hp); replace HB := Aside0.mk (below_step HB.out hb); replace BK3 := Aside0.mk (blk_below BK3.out hb); replace BK4 := Aside0.mk (blk_below BK4.out hb); clear hp hb) | ((with_reducible refine gate_callee (f := 31) rfl ?_); refine goesL_ (some 16) rfl rfl Tryd.func31 (by kernel_rfl) rfl #[.agg #[.slice (some ⟨g0, 0, none⟩) 2 2, .slice (some ⟨gO, 0, none⟩) 3 3]] rfl (by (try simp only [List.map_toArray, List.map_cons, List.map_nil]); first | done | rfl) ?_; refine (back_tb (PB.tb P0.out) (HG.out.below HB.out)).mono ?_; rintro e w6 ⟨rfl, hb⟩; refine ⟨_, rfl, ?_⟩; replace HB := Aside0.mk (below_step HB.out hb); replace BK3 := Aside0.mk (blk_below BK3.out hb); replace BK4 := Aside0.mk (blk_below BK4.out hb); clear P0 hb) | ((with_reducible refine gate_callee (f := 32) rfl ?_); refine goesL_ (some 17) rfl rfl Tryd.func32 (by kernel_rfl) rfl #[] rfl (by (try simp only [List.map_toArray, List.map_cons, List.map_nil]); first | done | rfl) ?_; refine (plain_raw _).mono ?_; rintro e w7 ⟨p0, p1, p2, p3, pO, rfl, hp, hb⟩; refine ⟨_, rfl, ?_⟩; have PP := Aside0.mk (hp); replace HB := Aside0.mk (below_step HB.out hb); replace BK3 := Aside0.mk (blk_below BK3.out hb); replace BK4 := Aside0.mk (blk_below BK4.out hb); clear hp hb) | ((with_reducible refine gate_dst (N := 8) rfl ?_); refine box_event ?hg (N := 8) ?hd (cs := #[.slice none 0 0, .slice none 0 0]) (t := 25) ?hr ?_; (case hd => rfl); (case hg => rfl); (case hr => first | (go_simp; done) | (go_simp; rfl)); intro gb8 hg w8 hbox hb; have GE8 := Aside0.mk (show w.heap.size ≤ gb8 by rw [hg]; exact HB.out.size); have G8 := Aside0.mk (show w7.heap.size ≤ gb8 by rw [hg]; exact Nat.le_refl _); have H8 := Aside0.mk (hb); have BK8 := Aside0.mk (hbox); have hcz8_0 : w8.cell? ⟨gb8, 0, none⟩ = some (.slice none 0 0) := (blk_cell BK8.out 0).trans rfl; have hcz8_1 : w8.cell? ⟨gb8, 1, none⟩ = some (.slice none 0 0) := (blk_cell BK8.out 1).trans rfl; have hfz8_0 := blk_frozen BK8.out 0; have hfz8_1 := blk_frozen BK8.out 1; clear hb hg hbox) | ((with_reducible refine gate_callee (f := 32) rfl ?_); refine goesL_ (some 18) rfl rfl Tryd.func32 (by kernel_rfl) rfl #[] rfl (by (try simp only [List.map_toArray, List.map_cons, List.map_nil]); first | done | rfl) ?_; refine (plain_raw _).mono ?_; rintro e w9 ⟨q0, q1, q2, q3, qO, rfl, hq, hb⟩; refine ⟨_, rfl, ?_⟩; clear hcz8_0 hcz8_1 hfz8_0 hfz8_1; have HX := below_set (j := 1) (v := .slice (some ⟨pO, 0, none⟩) 3 3) (below_set (j := 0) (v := .slice (some ⟨p0, 0, none⟩) 2 2) H8.out G8.out) G8.out; replace BK3 := Aside0.mk (blk_below BK3.out HX); replace BK4 := Aside0.mk (blk_below BK4.out HX); replace PP := Aside0.mk (PB.below PP.out HX); replace HB := Aside0.mk (below_then HB.out HB.out.size HX); replace BK8 := Aside0.mk (blk_put (cs' := #[.slice (some ⟨p0, 0, none⟩) 2 2, .slice (some ⟨pO, 0, none⟩) 3 3]) (blk_put (cs' := #[.slice (some ⟨p0, 0, none⟩) 2 2, .slice none 0 0]) BK8.out 0 _ rfl) 1 _ rfl); have QQ := Aside0.mk (hq); have HQ := Aside0.mk (hb); clear HX H8 G8 hq hb) | ((with_reducible refine gate_dst (N := 9) rfl ?_); refine box_event ?hg (N := 9) ?hd (cs := #[.slice none 0 0, .slice none 0 0]) (t := 25) ?hr ?_; (case hd => rfl); (case hg => rfl); (case hr => first | (go_simp; done) | (go_simp; rfl)); intro gb9 hg w10 hbox hb; have G9 := Aside0.mk (show w9.heap.size ≤ gb9 by rw [hg]; exact Nat.le_refl _); have H9 := Aside0.mk (hb); have BK9 := Aside0.mk (hbox); have hcz9_0 : w10.cell? ⟨gb9, 0, none⟩ = some (.slice none 0 0) := (blk_cell BK9.out 0).trans rfl; have hcz9_1 : w10.cell? ⟨gb9, 1, none⟩ = some (.slice none 0 0) := (blk_cell BK9.out 1).trans rfl; have hfz9_0 := blk_frozen BK9.out 0; have hfz9_1 := blk_frozen BK9.out 1; clear hb hg hbox))
 have HX := below_set (j := 1) (v := .slice (some ⟨qO, 0, none⟩) 3 3) (below_set (j := 0) (v := .slice (some ⟨q0, 0, none⟩) 2 2) H9.out G9.out) G9.out
 replace QQ := Aside0.mk (PB.below QQ.out (below_drew1 HX))
 replace HQ := Aside0.mk (below_drew1 (below_step HQ.out HX))
 replace BK9 := Aside0.mk (blk_drew (blk_put (cs' := #[.slice (some ⟨q0, 0, none⟩) 2 2, .slice (some ⟨qO, 0, none⟩) 3 3]) (blk_put (cs' := #[.slice (some ⟨q0, 0, none⟩) 2 2, .slice none 0 0]) BK9.out 0 _ rfl) 1 _ rfl))
 have GQ := Aside0.mk (Nat.le_trans HQ.out.size (Nat.le_refl _))
 clear HX H9 hcz9_0 hcz9_1 hfz9_0 hfz9_1
 refine start_ (n := 7) (S := fun w' => w'.cell? ⟨gb9, 0, none⟩ = some (.slice (some ⟨q0, 0, none⟩) 2 2) ∧ w'.cell? ⟨gb9, 1, none⟩ = some (.slice (some ⟨qO, 0, none⟩) 3 3) ∧ w'.cell? ⟨qO, 1, none⟩ = some (.slice (some ⟨q2, 0, none⟩) 2 2)) (ds := []) #[false, false, false, false, false, false, false] (by kernel_rfl) rfl rfl ⟨(blk_cell BK9.out 0).trans rfl, (blk_cell BK9.out 1).trans rfl, (blk_cell QQ.out.out 1).trans rfl⟩ (fun hHeld => ?_)
 generalize World.drew _ = wa at QQ HQ BK9 GQ hHeld ⊢
 refine pure_ (i := 0) (N := some 19) (v := ?_) (a' := ?_) #[true, false, false, false, false, false, false] rfl rfl (by kernel_rfl) (fun _ _ _ h => h) (Or.inl ⟨by rfl, ?_⟩) ?_ ?_
 rotate_left; (focus (intro w'; go_simp; with_reducible rfl)); rotate_left; (focus (simp only [Act.put, List.setIfInBounds_toArray, List.set_cons_zero, List.set_cons_succ, i64_w, i32_w]; rfl))
 refine take_ (i := 1) (N := some 20) (v := ?_) (a' := ?_) #[true, true, false, false, false, false, false] rfl rfl (by kernel_rfl) (fun _ _ _ h => h) (Or.inl ⟨by rfl, ?_⟩) hHeld ?_ ?_
 rotate_left; (focus (rintro w' ⟨s0, s1, s2⟩; go_simp; with_reducible rfl)); rotate_left; (focus (simp only [Act.put, List.setIfInBounds_toArray, List.set_cons_zero, List.set_cons_succ, i64_w, i32_w]; rfl))
 refine pure_ (i := 2) (N := some 21) (v := ?_) (a' := ?_) #[true, true, true, false, false, false, false] rfl rfl (by kernel_rfl) (fun _ _ _ h => h) (Or.inl ⟨by rfl, ?_⟩) ?_ ?_
 rotate_left; (focus (intro w'; go_simp; with_reducible rfl)); rotate_left; (focus (simp only [Act.put, List.setIfInBounds_toArray, List.set_cons_zero, List.set_cons_succ, i64_w, i32_w]; rfl))
 refine take_ (i := 3) (N := some 22) (v := ?_) (a' := ?_) #[true, true, true, true, false, false, false] rfl rfl (by kernel_rfl) (fun _ _ _ h => h) (Or.inl ⟨by rfl, ?_⟩) hHeld ?_ ?_
 rotate_left; (focus (rintro w' ⟨s0, s1, s2⟩; go_simp; with_reducible rfl)); rotate_left; (focus (simp only [Act.put, List.setIfInBounds_toArray, List.set_cons_zero, List.set_cons_succ, i64_w, i32_w]; rfl))
 refine one_ (i := 4) (N := some 23) #[true, true, true, true, true, false, false] rfl rfl (by kernel_rfl) (by decide) (fun K hK => ?_)
 refine goes_ Tryd.func33 (by kernel_rfl) rfl #[.int .i64 1] (by rfl) rfl rfl (by (try simp only [List.map_toArray, List.map_cons, List.map_nil]); first | done | rfl) ?_
 refine (payofflaw05_told.calls 1 true 1 _ rfl).mono ?_
 rintro e wb ⟨rfl, hb⟩
 refine ⟨_, rfl, ?_⟩
 replace QQ := Aside0.mk (PB.below QQ.out hb)
 replace HQ := Aside0.mk (below_step HQ.out hb)
 replace BK9 := Aside0.mk (blk_below BK9.out hb)
 clear hb GQ
 refine hK.out _ _ ⟨(blk_cell BK9.out 0).trans rfl, (blk_cell BK9.out 1).trans rfl, (blk_cell QQ.out.out 1).trans rfl⟩ (fun hHeld => ?_)
 clear hK K
 refine norm_ (a' := ?_) ?_ ?_
 rotate_left; (focus (show Act.put _ (some 23) _ = _; simp only [Act.put, List.setIfInBounds_toArray, List.set_cons_zero, List.set_cons_succ, i64_w, i32_w]; rfl))
 refine pure_ (i := 5) (N := some 24) (v := ?_) (a' := ?_) #[true, true, true, true, true, true, false] rfl rfl (by kernel_rfl) (fun _ _ _ h => h) (Or.inl ⟨by rfl, ?_⟩) ?_ ?_
 rotate_left; (focus (intro w'; go_simp; with_reducible rfl)); rotate_left; (focus (simp only [Act.put, List.setIfInBounds_toArray, List.set_cons_zero, List.set_cons_succ, i64_w, i32_w]; rfl))
 refine one_ (i := 6) (N := none) #[true, true, true, true, true, true, true] rfl rfl (by kernel_rfl) (by decide) (fun K hK => ?_)
 have hs2 : wb.cell? ⟨q2, 2, none⟩ = some (.bool true) := (blk_cell QQ.out.r2 2).trans rfl
 have hs3 : wb.cell? ⟨q2, 3, none⟩ = some (.int .i64 0) := (blk_cell QQ.out.r2 3).trans rfl
 have hf2 := blk_frozen QQ.out.r2 2
 have hf3 := blk_frozen QQ.out.r2 3
 have M9 : gb9 ≠ q2 := blk_ne BK9.out QQ.out.r2 (by decide)
 have M0 : q0 ≠ q2 := blk_ne QQ.out.names QQ.out.r2 (by decide)
 have MO : qO ≠ q2 := blk_ne QQ.out.out QQ.out.r2 (by decide)
 refine skip_ (w1 := ?_) (by rfl) rfl ?_ ?_
 rotate_left
 ·go_simp
  rfl
 have hq_ : PB ((wb.setCell ⟨q2, 2, none⟩ (.bool true)).setCell ⟨q2, 3, none⟩ (.int .i64 1)) _ q0 q1 q2 q3 qO #[.bool false, .int .i64 0, .bool true, .int .i64 1] := ⟨blk_far (p := ⟨q2, 3, none⟩) (blk_far (p := ⟨q2, 2, none⟩) QQ.out.names M0 (.bool true)) M0 (.int .i64 1), blk_far (p := ⟨q2, 3, none⟩) (blk_far (p := ⟨q2, 2, none⟩) QQ.out.r1 QQ.out.n12 (.bool true)) QQ.out.n12 (.int .i64 1), blk_put (cs' := #[.bool false, .int .i64 0, .bool true, .int .i64 1]) (blk_put (cs' := #[.bool false, .int .i64 0, .bool true, .int .i64 0]) QQ.out.r2 2 _ rfl) 3 _ rfl, blk_far (p := ⟨q2, 3, none⟩) (blk_far (p := ⟨q2, 2, none⟩) QQ.out.r3 QQ.out.n32 (.bool true)) QQ.out.n32 (.int .i64 1), blk_far (p := ⟨q2, 3, none⟩) (blk_far (p := ⟨q2, 2, none⟩) QQ.out.out MO (.bool true)) MO (.int .i64 1), QQ.out.base, QQ.out.n12, QQ.out.n32⟩
 have m0_ := Aside0.mk hq_
 have m1_ := Aside0.mk (below_set (j := 3) (v := .int .i64 1) (below_set (j := 2) (v := .bool true) HQ.out QQ.out.base) QQ.out.base)
 have m2_ := Aside0.mk (blk_far (p := ⟨q2, 3, none⟩) (blk_far (p := ⟨q2, 2, none⟩) BK9.out M9 (.bool true)) M9 (.int .i64 1))
 generalize ((wb.setCell ⟨q2, 2, none⟩ (.bool true)).setCell ⟨q2, 3, none⟩ (.int .i64 1)) = wc at hq_ m0_ m1_ m2_ ⊢
 clear hq_ hs2 hs3 hf2 hf3 M9 M0 MO QQ HQ BK9
 have QQ := m0_
 have HQ := m1_
 have BK9 := m2_
 clear m0_ m1_ m2_
 refine hK.out _ _ ⟨(blk_cell BK9.out 0).trans rfl, (blk_cell BK9.out 1).trans rfl, (blk_cell QQ.out.out 1).trans rfl⟩ (fun hHeld => ?_)
 clear hK K hHeld
 refine done_ (by kernel_rfl) ?_
 have TQ := Aside0.mk (PB.tb QQ.out)
 have TP := Aside0.mk ((PB.tb PP.out).below HQ.out)
 replace HB := Aside0.mk (below_then HB.out HB.out.size HQ.out)
 replace BK3 := Aside0.mk (blk_below BK3.out HQ.out)
 replace BK4 := Aside0.mk (blk_below BK4.out HQ.out)
 replace BK8 := Aside0.mk (blk_below BK8.out HQ.out)
 clear HQ PP QQ GE8 G9
 go_wp2
 replace BK3 := Aside0.mk (blk_drew BK3.out)
 replace BK4 := Aside0.mk (blk_drew BK4.out)
 replace BK8 := Aside0.mk (blk_drew BK8.out)
 replace BK9 := Aside0.mk (blk_drew BK9.out)
 replace TP := Aside0.mk (TP.out.drew)
 replace TQ := Aside0.mk (TQ.out.drew)
 replace HB := Aside0.mk (below_drew1 HB.out)
 refine start_ (n := 22) (S := fun w' => w'.cell? ⟨gb8, 0, none⟩ = some (.slice (some ⟨p0, 0, none⟩) 2 2) ∧ w'.cell? ⟨gb8, 1, none⟩ = some (.slice (some ⟨pO, 0, none⟩) 3 3) ∧ w'.cell? ⟨gb9, 0, none⟩ = some (.slice (some ⟨q0, 0, none⟩) 2 2) ∧ w'.cell? ⟨gb9, 1, none⟩ = some (.slice (some ⟨qO, 0, none⟩) 3 3) ∧ w'.cell? ⟨gb3, 0, none⟩ = some (.slice A0 l0.length c0) ∧ w'.cell? ⟨gb3, 1, none⟩ = some (.slice A1 l1.length c1)) (ds := []) #[false, false, false, false, false, false, false, false, false, false, false, false, false, false, false, false, false, false, false, false, false, false] (by kernel_rfl) rfl rfl ⟨(blk_cell BK8.out 0).trans rfl, (blk_cell BK8.out 1).trans rfl, (blk_cell BK9.out 0).trans rfl, (blk_cell BK9.out 1).trans rfl, (blk_cell BK3.out 0).trans rfl, (blk_cell BK3.out 1).trans rfl⟩ (fun hHeld => ?_); refine with_tabW payofflaw05_TableLike.tab5 payofflaw05_TableLike.bits5 (fun HT_ HW_ => ?_)
 generalize World.drew _ = we at BK3 BK4 BK8 BK9 TP TQ HB hHeld ⊢
 refine pure_ (i := 0) (N := some 25) (v := ?_) (a' := ?_) #[true, false, false, false, false, false, false, false, false, false, false, false, false, false, false, false, false, false, false, false, false, false] rfl rfl (any_of HT_.out (by kernel_rfl)) (fun _ _ _ h => h) (Or.inl ⟨by rfl, ?_⟩) ?_ ?_
 rotate_left; (focus (intro w'; go_simp; with_reducible rfl)); rotate_left; (focus (simp only [Act.put, List.setIfInBounds_toArray, List.set_cons_zero, List.set_cons_succ, i64_w, i32_w]; rfl))
 refine pure_ (i := 1) (N := some 26) (v := ?_) (a' := ?_) #[true, true, false, false, false, false, false, false, false, false, false, false, false, false, false, false, false, false, false, false, false, false] rfl rfl (any_of HT_.out (by kernel_rfl)) (fun _ _ _ h => h) (Or.inl ⟨by rfl, ?_⟩) ?_ ?_
 rotate_left; (focus (intro w'; go_simp; with_reducible rfl)); rotate_left; (focus (simp only [Act.put, List.setIfInBounds_toArray, List.set_cons_zero, List.set_cons_succ, i64_w, i32_w]; rfl))
 refine pure_ (i := 2) (N := some 27) (v := ?_) (a' := ?_) #[true, true, true, false, false, false, false, false, false, false, false, false, false, false, false, false, false, false, false, false, false, false] rfl rfl (any_of HT_.out (by kernel_rfl)) (fun _ _ _ h => h) (Or.inl ⟨by rfl, ?_⟩) ?_ ?_
 rotate_left; (focus (intro w'; go_simp; with_reducible rfl)); rotate_left; (focus (simp only [Act.put, List.setIfInBounds_toArray, List.set_cons_zero, List.set_cons_succ, i64_w, i32_w]; rfl))
 refine take_ (i := 3) (N := some 28) (v := ?_) (a' := ?_) #[true, true, true, true, false, false, false, false, false, false, false, false, false, false, false, false, false, false, false, false, false, false] rfl rfl (take_ofW HT_.out HW_.out (by kernel_rfl)) (fun _ _ _ h => h) (Or.inl ⟨by rfl, ?_⟩) hHeld ?_ ?_
 rotate_left; (focus (rintro w' ⟨s0, s1, s2, s3, s4, s5⟩; go_simp; with_reducible rfl)); rotate_left; (focus (simp only [Act.put, List.setIfInBounds_toArray, List.set_cons_zero, List.set_cons_succ, i64_w, i32_w]; rfl))
 refine take_ (i := 4) (N := some 29) (v := ?_) (a' := ?_) #[true, true, true, true, true, false, false, false, false, false, false, false, false, false, false, false, false, false, false, false, false, false] rfl rfl (take_ofW HT_.out HW_.out (by kernel_rfl)) (fun _ _ _ h => h) (Or.inl ⟨by rfl, ?_⟩) hHeld ?_ ?_
 rotate_left; (focus (rintro w' ⟨s0, s1, s2, s3, s4, s5⟩; go_simp; with_reducible rfl)); rotate_left; (focus (simp only [Act.put, List.setIfInBounds_toArray, List.set_cons_zero, List.set_cons_succ, i64_w, i32_w]; rfl))
 refine one_ (i := 5) (N := some 30) #[true, true, true, true, true, true, false, false, false, false, false, false, false, false, false, false, false, false, false, false, false, false] rfl rfl (one_of HT_.out (by kernel_rfl)) (by decide) (fun K hK => ?_)
 refine goes_ Tryd.func17 (by kernel_rfl) rfl #[.agg #[.slice (some ⟨p0, 0, none⟩) 2 2, .slice (some ⟨pO, 0, none⟩) 3 3], .agg #[.slice (some ⟨q0, 0, none⟩) 2 2, .slice (some ⟨qO, 0, none⟩) 3 3], .int .i64 1] (by rfl) rfl rfl (by (try simp only [List.map_toArray, List.map_cons, List.map_nil]); first | done | rfl) ?_
 refine (agree_is TP.out TQ.out small_pA small_qA 1 HL.out.p1).mono ?_
 rintro e wf ⟨rfl, hb⟩
 refine ⟨_, rfl, ?_⟩
 replace BK3 := Aside0.mk (blk_below BK3.out hb)
 replace BK4 := Aside0.mk (blk_below BK4.out hb)
 replace BK8 := Aside0.mk (blk_below BK8.out hb)
 replace BK9 := Aside0.mk (blk_below BK9.out hb)
 replace TP := Aside0.mk (TP.out.below hb)
 replace TQ := Aside0.mk (TQ.out.below hb)
 replace HB := Aside0.mk (below_step HB.out hb)
 clear hb
 refine hK.out _ _ ⟨(blk_cell BK8.out 0).trans rfl, (blk_cell BK8.out 1).trans rfl, (blk_cell BK9.out 0).trans rfl, (blk_cell BK9.out 1).trans rfl, (blk_cell BK3.out 0).trans rfl, (blk_cell BK3.out 1).trans rfl⟩ (fun hHeld => ?_)
 clear hK K
 refine norm_ (a' := ?_) ?_ ?_
 rotate_left; (focus (show Act.put _ (some 30) _ = _; simp only [Act.put, List.setIfInBounds_toArray, List.set_cons_zero, List.set_cons_succ, i64_w, i32_w]; rfl))
 refine pure_ (i := 6) (N := some 31) (v := ?_) (a' := ?_) #[true, true, true, true, true, true, true, false, false, false, false, false, false, false, false, false, false, false, false, false, false, false] rfl rfl (any_of HT_.out (by kernel_rfl)) (fun _ _ _ h => h) (Or.inl ⟨by rfl, ?_⟩) ?_ ?_
 rotate_left; (focus (intro w'; go_simp; with_reducible rfl)); rotate_left; (focus (simp only [Act.put, List.setIfInBounds_toArray, List.set_cons_zero, List.set_cons_succ, i64_w, i32_w]; rfl))
 refine pure_ (i := 7) (N := some 32) (v := ?_) (a' := ?_) #[true, true, true, true, true, true, true, true, false, false, false, false, false, false, false, false, false, false, false, false, false, false] rfl rfl (any_of HT_.out (by kernel_rfl)) (fun _ _ _ h => h) (Or.inl ⟨by rfl, ?_⟩) ?_ ?_
 rotate_left; (focus (intro w'; go_simp; with_reducible rfl)); rotate_left; (focus (simp only [Act.put, List.setIfInBounds_toArray, List.set_cons_zero, List.set_cons_succ, i64_w, i32_w]; rfl))
 refine take_ (i := 8) (N := some 33) (v := ?_) (a' := ?_) #[true, true, true, true, true, true, true, true, true, false, false, false, false, false, false, false, false, false, false, false, false, false] rfl rfl (take_ofW HT_.out HW_.out (by kernel_rfl)) (fun _ _ _ h => h) (Or.inl ⟨by rfl, ?_⟩) hHeld ?_ ?_
 rotate_left; (focus (rintro w' ⟨s0, s1, s2, s3, s4, s5⟩; go_simp; with_reducible rfl)); rotate_left; (focus (simp only [Act.put, List.setIfInBounds_toArray, List.set_cons_zero, List.set_cons_succ, i64_w, i32_w]; rfl))
 refine take_ (i := 9) (N := some 34) (v := ?_) (a' := ?_) #[true, true, true, true, true, true, true, true, true, true, false, false, false, false, false, false, false, false, false, false, false, false] rfl rfl (take_ofW HT_.out HW_.out (by kernel_rfl)) (fun _ _ _ h => h) (Or.inl ⟨by rfl, ?_⟩) hHeld ?_ ?_
 rotate_left; (focus (rintro w' ⟨s0, s1, s2, s3, s4, s5⟩; go_simp; with_reducible rfl)); rotate_left; (focus (simp only [Act.put, List.setIfInBounds_toArray, List.set_cons_zero, List.set_cons_succ, i64_w, i32_w]; rfl))
 refine one_ (i := 10) (N := some 35) #[true, true, true, true, true, true, true, true, true, true, true, false, false, false, false, false, false, false, false, false, false, false] rfl rfl (one_of HT_.out (by kernel_rfl)) (by decide) (fun K hK => ?_)
 refine goes_ Tryd.func17 (by kernel_rfl) rfl #[.agg #[.slice (some ⟨p0, 0, none⟩) 2 2, .slice (some ⟨pO, 0, none⟩) 3 3], .agg #[.slice (some ⟨q0, 0, none⟩) 2 2, .slice (some ⟨qO, 0, none⟩) 3 3], .int .i64 0] (by rfl) rfl rfl (by (try simp only [List.map_toArray, List.map_cons, List.map_nil]); first | done | rfl) ?_
 refine (agree_is TP.out TQ.out small_pA small_qA 0 HL.out.p0).mono ?_
 rintro e wg ⟨rfl, hb⟩
 refine ⟨_, rfl, ?_⟩
 replace BK3 := Aside0.mk (blk_below BK3.out hb)
 replace BK4 := Aside0.mk (blk_below BK4.out hb)
 replace BK8 := Aside0.mk (blk_below BK8.out hb)
 replace BK9 := Aside0.mk (blk_below BK9.out hb)
 replace TP := Aside0.mk (TP.out.below hb)
 replace TQ := Aside0.mk (TQ.out.below hb)
 replace HB := Aside0.mk (below_step HB.out hb)
 clear hb
 refine hK.out _ _ ⟨(blk_cell BK8.out 0).trans rfl, (blk_cell BK8.out 1).trans rfl, (blk_cell BK9.out 0).trans rfl, (blk_cell BK9.out 1).trans rfl, (blk_cell BK3.out 0).trans rfl, (blk_cell BK3.out 1).trans rfl⟩ (fun hHeld => ?_)
 clear hK K
 refine norm_ (a' := ?_) ?_ ?_
 rotate_left; (focus (show Act.put _ (some 35) _ = _; simp only [Act.put, List.setIfInBounds_toArray, List.set_cons_zero, List.set_cons_succ, i64_w, i32_w]; rfl))
 refine pure_ (i := 11) (N := some 36) (v := ?_) (a' := ?_) #[true, true, true, true, true, true, true, true, true, true, true, true, false, false, false, false, false, false, false, false, false, false] rfl rfl (any_of HT_.out (by kernel_rfl)) (fun _ _ _ h => h) (Or.inl ⟨by rfl, ?_⟩) ?_ ?_
 rotate_left; (focus (intro w'; go_simp; with_reducible rfl)); rotate_left; (focus (simp only [Act.put, List.setIfInBounds_toArray, List.set_cons_zero, List.set_cons_succ, i64_w, i32_w]; rfl))
 refine pure_ (i := 12) (N := some 37) (v := ?_) (a' := ?_) #[true, true, true, true, true, true, true, true, true, true, true, true, true, false, false, false, false, false, false, false, false, false] rfl rfl (any_of HT_.out (by kernel_rfl)) (fun _ _ _ h => h) (Or.inl ⟨by rfl, ?_⟩) ?_ ?_
 rotate_left; (focus (intro w'; go_simp; with_reducible rfl)); rotate_left; (focus (simp only [Act.put, List.setIfInBounds_toArray, List.set_cons_zero, List.set_cons_succ, i64_w, i32_w]; rfl))
 refine pure_ (i := 13) (N := some 38) (v := ?_) (a' := ?_) #[true, true, true, true, true, true, true, true, true, true, true, true, true, true, false, false, false, false, false, false, false, false] rfl rfl (any_of HT_.out (by kernel_rfl)) (fun _ _ _ h => h) (Or.inl ⟨by rfl, ?_⟩) ?_ ?_
 rotate_left; (focus (intro w'; go_simp; with_reducible rfl)); rotate_left; (focus (simp only [Act.put, List.setIfInBounds_toArray, List.set_cons_zero, List.set_cons_succ, i64_w, i32_w]; rfl))
 refine take_ (i := 14) (N := some 39) (v := ?_) (a' := ?_) #[true, true, true, true, true, true, true, true, true, true, true, true, true, true, true, false, false, false, false, false, false, false] rfl rfl (take_ofW HT_.out HW_.out (by kernel_rfl)) (fun _ _ _ h => h) (Or.inl ⟨by rfl, ?_⟩) hHeld ?_ ?_
 rotate_left; (focus (rintro w' ⟨s0, s1, s2, s3, s4, s5⟩; go_simp; with_reducible rfl)); rotate_left; (focus (simp only [Act.put, List.setIfInBounds_toArray, List.set_cons_zero, List.set_cons_succ, i64_w, i32_w]; rfl))
 refine take_ (i := 16) (N := some 41) (v := ?_) (a' := ?_) #[true, true, true, true, true, true, true, true, true, true, true, true, true, true, true, false, true, false, false, false, false, false] rfl rfl (take_ofW HT_.out HW_.out (by kernel_rfl)) (fun _ _ _ h => h) (Or.inl ⟨by rfl, ?_⟩) hHeld ?_ ?_
 rotate_left; (focus (rintro w' ⟨s0, s1, s2, s3, s4, s5⟩; go_simp; with_reducible rfl)); rotate_left; (focus (simp only [Act.put, List.setIfInBounds_toArray, List.set_cons_zero, List.set_cons_succ, i64_w, i32_w]; rfl))
 refine pure_ (i := 18) (N := some 43) (v := ?_) (a' := ?_) #[true, true, true, true, true, true, true, true, true, true, true, true, true, true, true, false, true, false, true, false, false, false] rfl rfl (any_of HT_.out (by kernel_rfl)) (fun _ _ _ h => h) (Or.inl ⟨by rfl, ?_⟩) ?_ ?_
 rotate_left; (focus (intro w'; go_simp; with_reducible rfl)); rotate_left; (focus (simp only [Act.put, List.setIfInBounds_toArray, List.set_cons_zero, List.set_cons_succ, i64_w, i32_w]; rfl))
 refine one_ (i := 15) (N := some 40) #[true, true, true, true, true, true, true, true, true, true, true, true, true, true, true, true, true, false, true, false, false, false] rfl rfl (one_of HT_.out (by kernel_rfl)) (by decide) (fun K hK => ?_)
 refine goes_ Tryd.func16 (by kernel_rfl) rfl #[.agg #[.slice A0 l0.length c0, .slice A1 l1.length c1]] (by rfl) rfl rfl (by (try simp only [List.map_toArray, List.map_cons, List.map_nil]); first | done | rfl) ?_
 refine (own_tb (HA.out.below HB.out) SA.out ((HG.out.below HB.out).beh)).mono ?_
 rintro e wo1 ⟨Ao1, co1, Bo1, do1, rfl, ht, hb⟩
 refine ⟨_, rfl, ?_⟩
 have T1 := Aside0.mk (ht)
 replace BK3 := Aside0.mk (blk_below BK3.out hb)
 replace BK4 := Aside0.mk (blk_below BK4.out hb)
 replace BK8 := Aside0.mk (blk_below BK8.out hb)
 replace BK9 := Aside0.mk (blk_below BK9.out hb)
 replace TP := Aside0.mk (TP.out.below hb)
 replace TQ := Aside0.mk (TQ.out.below hb)
 replace HB := Aside0.mk (below_step HB.out hb)
 clear hb
 clear ht
 refine hK.out _ _ ⟨(blk_cell BK8.out 0).trans rfl, (blk_cell BK8.out 1).trans rfl, (blk_cell BK9.out 0).trans rfl, (blk_cell BK9.out 1).trans rfl, (blk_cell BK3.out 0).trans rfl, (blk_cell BK3.out 1).trans rfl⟩ (fun hHeld => ?_)
 clear hK K
 refine norm_ (a' := ?_) ?_ ?_
 rotate_left; (focus (show Act.put _ (some 40) _ = _; simp only [Act.put, List.setIfInBounds_toArray, List.set_cons_zero, List.set_cons_succ, i64_w, i32_w]; rfl))
 refine one_ (i := 17) (N := some 42) #[true, true, true, true, true, true, true, true, true, true, true, true, true, true, true, true, true, true, true, false, false, false] rfl rfl (one_of HT_.out (by kernel_rfl)) (by decide) (fun K hK => ?_)
 refine goes_ Tryd.func16 (by kernel_rfl) rfl #[.agg #[.slice A0 l0.length c0, .slice A1 l1.length c1]] (by rfl) rfl rfl (by (try simp only [List.map_toArray, List.map_cons, List.map_nil]); first | done | rfl) ?_
 refine (own_tb (HA.out.below HB.out) SA.out ((HG.out.below HB.out).beh)).mono ?_
 rintro e wo2 ⟨Ao2, co2, Bo2, do2, rfl, ht, hb⟩
 refine ⟨_, rfl, ?_⟩
 have T2 := Aside0.mk (ht)
 replace BK3 := Aside0.mk (blk_below BK3.out hb)
 replace BK4 := Aside0.mk (blk_below BK4.out hb)
 replace BK8 := Aside0.mk (blk_below BK8.out hb)
 replace BK9 := Aside0.mk (blk_below BK9.out hb)
 replace TP := Aside0.mk (TP.out.below hb)
 replace TQ := Aside0.mk (TQ.out.below hb)
 replace HB := Aside0.mk (below_step HB.out hb)
 replace T1 := Aside0.mk (T1.out.below hb)
 clear hb
 clear ht
 refine hK.out _ _ ⟨(blk_cell BK8.out 0).trans rfl, (blk_cell BK8.out 1).trans rfl, (blk_cell BK9.out 0).trans rfl, (blk_cell BK9.out 1).trans rfl, (blk_cell BK3.out 0).trans rfl, (blk_cell BK3.out 1).trans rfl⟩ (fun hHeld => ?_)
 clear hK K
 refine norm_ (a' := ?_) ?_ ?_
 rotate_left; (focus (show Act.put _ (some 42) _ = _; simp only [Act.put, List.setIfInBounds_toArray, List.set_cons_zero, List.set_cons_succ, i64_w, i32_w]; rfl))
 refine one_ (i := 19) (N := some 44) #[true, true, true, true, true, true, true, true, true, true, true, true, true, true, true, true, true, true, true, true, false, false] rfl rfl (one_of HT_.out (by kernel_rfl)) (by decide) (fun K hK => ?_)
 refine goes_ Tryd.func17 (by kernel_rfl) rfl #[.agg #[.slice Ao1 l0.length co1, .slice Bo1 l1.length do1], .agg #[.slice Ao2 l0.length co2, .slice Bo2 l1.length do2], .int .i64 last] (by rfl) rfl rfl (by (try simp only [List.map_toArray, List.map_cons, List.map_nil]); first | done | rfl) ?_
 refine (agree_is T1.out T2.out SA.out.a SA.out.a last HL.out.aa).mono ?_
 rintro e wh ⟨rfl, hb⟩
 refine ⟨_, rfl, ?_⟩
 replace BK3 := Aside0.mk (blk_below BK3.out hb)
 replace BK4 := Aside0.mk (blk_below BK4.out hb)
 replace BK8 := Aside0.mk (blk_below BK8.out hb)
 replace BK9 := Aside0.mk (blk_below BK9.out hb)
 replace TP := Aside0.mk (TP.out.below hb)
 replace TQ := Aside0.mk (TQ.out.below hb)
 replace HB := Aside0.mk (below_step HB.out hb)
 clear hb
 clear T1 T2
 refine hK.out _ _ ⟨(blk_cell BK8.out 0).trans rfl, (blk_cell BK8.out 1).trans rfl, (blk_cell BK9.out 0).trans rfl, (blk_cell BK9.out 1).trans rfl, (blk_cell BK3.out 0).trans rfl, (blk_cell BK3.out 1).trans rfl⟩ (fun hHeld => ?_)
 clear hK K
 refine norm_ (a' := ?_) ?_ ?_
 rotate_left; (focus (show Act.put _ (some 44) _ = _; simp only [Act.put, List.setIfInBounds_toArray, List.set_cons_zero, List.set_cons_succ, i64_w, i32_w]; rfl))
 refine pure_ (i := 20) (N := some 45) (v := ?_) (a' := ?_) #[true, true, true, true, true, true, true, true, true, true, true, true, true, true, true, true, true, true, true, true, true, false] rfl rfl (any_of HT_.out (by kernel_rfl)) (fun _ _ _ h => h) (Or.inl ⟨by rfl, ?_⟩) ?_ ?_
 rotate_left; (focus (intro w'; go_simp; with_reducible rfl)); rotate_left; (focus (simp only [Act.put, List.setIfInBounds_toArray, List.set_cons_zero, List.set_cons_succ, i64_w, i32_w]; rfl))
 refine pure_ (i := 21) (N := some 46) (v := ?_) (a' := ?_) #[true, true, true, true, true, true, true, true, true, true, true, true, true, true, true, true, true, true, true, true, true, true] rfl rfl (any_of HT_.out (by kernel_rfl)) (fun _ _ _ h => h) (Or.inl ⟨by rfl, ?_⟩) ?_ ?_
 rotate_left; (focus (intro w'; go_simp; with_reducible rfl)); rotate_left; (focus (simp only [Act.put, List.setIfInBounds_toArray, List.set_cons_zero, List.set_cons_succ, i64_w, i32_w]; rfl))
 refine done_ (done_of HT_.out (by kernel_rfl)) ?_
 clear BK8 BK9 TP TQ HT_ HW_ hHeld
 go_wp2
 replace BK3 := Aside0.mk (blk_drew BK3.out)
 replace BK4 := Aside0.mk (blk_drew BK4.out)
 replace HB := Aside0.mk (below_drew1 HB.out)
 refine start_ (n := 7) (S := fun w' => w'.cell? ⟨gb3, 0, none⟩ = some (.slice A0 l0.length c0) ∧ w'.cell? ⟨gb3, 1, none⟩ = some (.slice A1 l1.length c1) ∧ w'.cell? ⟨gb4, 0, none⟩ = some (.slice B0 m0.length d0) ∧ w'.cell? ⟨gb4, 1, none⟩ = some (.slice B1 m1.length d1)) (ds := []) #[false, false, false, false, false, false, false] (by kernel_rfl) rfl rfl ⟨(blk_cell BK3.out 0).trans rfl, (blk_cell BK3.out 1).trans rfl, (blk_cell BK4.out 0).trans rfl, (blk_cell BK4.out 1).trans rfl⟩ (fun hHeld => ?_)
 generalize World.drew _ = wi at BK3 BK4 HB hHeld ⊢
 refine take_ (i := 0) (N := some 47) (v := ?_) (a' := ?_) #[true, false, false, false, false, false, false] rfl rfl (by kernel_rfl) (fun _ _ _ h => h) (Or.inl ⟨by rfl, ?_⟩) hHeld ?_ ?_
 rotate_left; (focus (rintro w' ⟨s0, s1, s2, s3⟩; go_simp; with_reducible rfl)); rotate_left; (focus (simp only [Act.put, List.setIfInBounds_toArray, List.set_cons_zero, List.set_cons_succ, i64_w, i32_w]; rfl))
 refine take_ (i := 2) (N := some 49) (v := ?_) (a' := ?_) #[true, false, true, false, false, false, false] rfl rfl (by kernel_rfl) (fun _ _ _ h => h) (Or.inl ⟨by rfl, ?_⟩) hHeld ?_ ?_
 rotate_left; (focus (rintro w' ⟨s0, s1, s2, s3⟩; go_simp; with_reducible rfl)); rotate_left; (focus (simp only [Act.put, List.setIfInBounds_toArray, List.set_cons_zero, List.set_cons_succ, i64_w, i32_w]; rfl))
 refine pure_ (i := 4) (N := some 51) (v := ?_) (a' := ?_) #[true, false, true, false, true, false, false] rfl rfl (by kernel_rfl) (fun _ _ _ h => h) (Or.inl ⟨by rfl, ?_⟩) ?_ ?_
 rotate_left; (focus (intro w'; go_simp; with_reducible rfl)); rotate_left; (focus (simp only [Act.put, List.setIfInBounds_toArray, List.set_cons_zero, List.set_cons_succ, i64_w, i32_w]; rfl))
 refine one_ (i := 1) (N := some 48) #[true, true, true, false, true, false, false] rfl rfl (by kernel_rfl) (by decide) (fun K hK => ?_)
 refine goes_ Tryd.func16 (by kernel_rfl) rfl #[.agg #[.slice A0 l0.length c0, .slice A1 l1.length c1]] (by rfl) rfl rfl (by (try simp only [List.map_toArray, List.map_cons, List.map_nil]); first | done | rfl) ?_
 refine (own_tb (HA.out.below HB.out) SA.out ((HG.out.below HB.out).beh)).mono ?_
 rintro e wo1 ⟨Ao1, co1, Bo1, do1, rfl, ht, hb⟩
 refine ⟨_, rfl, ?_⟩
 have T1 := Aside0.mk (ht)
 replace BK3 := Aside0.mk (blk_below BK3.out hb)
 replace BK4 := Aside0.mk (blk_below BK4.out hb)
 replace HB := Aside0.mk (below_step HB.out hb)
 clear hb
 clear ht
 refine hK.out _ _ ⟨(blk_cell BK3.out 0).trans rfl, (blk_cell BK3.out 1).trans rfl, (blk_cell BK4.out 0).trans rfl, (blk_cell BK4.out 1).trans rfl⟩ (fun hHeld => ?_)
 clear hK K
 refine norm_ (a' := ?_) ?_ ?_
 rotate_left; (focus (show Act.put _ (some 48) _ = _; simp only [Act.put, List.setIfInBounds_toArray, List.set_cons_zero, List.set_cons_succ, i64_w, i32_w]; rfl))
 refine one_ (i := 3) (N := some 50) #[true, true, true, true, true, false, false] rfl rfl (by kernel_rfl) (by decide) (fun K hK => ?_)
 refine goes_ Tryd.func16 (by kernel_rfl) rfl #[.agg #[.slice B0 m0.length d0, .slice B1 m1.length d1]] (by rfl) rfl rfl (by (try simp only [List.map_toArray, List.map_cons, List.map_nil]); first | done | rfl) ?_
 refine (own_tb (HBT.out.below HB.out) SB.out ((HG.out.below HB.out).beh)).mono ?_
 rintro e wo2 ⟨Ao2, co2, Bo2, do2, rfl, ht, hb⟩
 refine ⟨_, rfl, ?_⟩
 have T2 := Aside0.mk (ht)
 replace BK3 := Aside0.mk (blk_below BK3.out hb)
 replace BK4 := Aside0.mk (blk_below BK4.out hb)
 replace HB := Aside0.mk (below_step HB.out hb)
 replace T1 := Aside0.mk (T1.out.below hb)
 clear hb
 clear ht
 refine hK.out _ _ ⟨(blk_cell BK3.out 0).trans rfl, (blk_cell BK3.out 1).trans rfl, (blk_cell BK4.out 0).trans rfl, (blk_cell BK4.out 1).trans rfl⟩ (fun hHeld => ?_)
 clear hK K
 refine norm_ (a' := ?_) ?_ ?_
 rotate_left; (focus (show Act.put _ (some 50) _ = _; simp only [Act.put, List.setIfInBounds_toArray, List.set_cons_zero, List.set_cons_succ, i64_w, i32_w]; rfl))
 refine one_ (i := 5) (N := some 52) #[true, true, true, true, true, true, false] rfl rfl (by kernel_rfl) (by decide) (fun K hK => ?_)
 refine goes_ Tryd.func17 (by kernel_rfl) rfl #[.agg #[.slice Ao1 l0.length co1, .slice Bo1 l1.length do1], .agg #[.slice Ao2 m0.length co2, .slice Bo2 m1.length do2], .int .i64 last] (by rfl) rfl rfl (by (try simp only [List.map_toArray, List.map_cons, List.map_nil]); first | done | rfl) ?_
 refine (agree_tb T1.out T2.out SA.out.a SB.out.a last).mono ?_
 rintro e wj ⟨rfl, hb⟩
 refine ⟨_, rfl, ?_⟩
 replace BK3 := Aside0.mk (blk_below BK3.out hb)
 replace BK4 := Aside0.mk (blk_below BK4.out hb)
 replace HB := Aside0.mk (below_step HB.out hb)
 clear hb
 clear T1 T2
 refine hK.out _ _ ⟨(blk_cell BK3.out 0).trans rfl, (blk_cell BK3.out 1).trans rfl, (blk_cell BK4.out 0).trans rfl, (blk_cell BK4.out 1).trans rfl⟩ (fun hHeld => ?_)
 clear hK K
 refine norm_ (a' := ?_) ?_ ?_
 rotate_left; (focus (show Act.put _ (some 52) _ = _; simp only [Act.put, List.setIfInBounds_toArray, List.set_cons_zero, List.set_cons_succ, i64_w, i32_w]; rfl))
 refine pure_ (i := 6) (N := some 10) (v := ?_) (a' := ?_) #[true, true, true, true, true, true, true] rfl rfl (by kernel_rfl) (fun _ _ _ h => h) (Or.inl ⟨by rfl, ?_⟩) ?_ ?_
 rotate_left; (focus (intro w'; go_simp; with_reducible rfl)); rotate_left; (focus (simp only [Act.put, List.setIfInBounds_toArray, List.set_cons_zero, List.set_cons_succ, i64_w, i32_w]; rfl))
 refine done_ (by kernel_rfl) ?_
 clear hHeld
 go_wp2
 replace BK3 := Aside0.mk (blk_drew BK3.out)
 replace BK4 := Aside0.mk (blk_drew BK4.out)
 replace HB := Aside0.mk (below_drew1 HB.out)
 refine start_ (n := 8) (S := fun w' => w'.cell? ⟨gb3, 0, none⟩ = some (.slice A0 l0.length c0) ∧ w'.cell? ⟨gb3, 1, none⟩ = some (.slice A1 l1.length c1) ∧ w'.cell? ⟨gb4, 0, none⟩ = some (.slice B0 m0.length d0) ∧ w'.cell? ⟨gb4, 1, none⟩ = some (.slice B1 m1.length d1)) (ds := []) #[false, false, false, false, false, false, false, false] (by kernel_rfl) rfl rfl ⟨(blk_cell BK3.out 0).trans rfl, (blk_cell BK3.out 1).trans rfl, (blk_cell BK4.out 0).trans rfl, (blk_cell BK4.out 1).trans rfl⟩ (fun hHeld => ?_); refine with_tabW payofflaw05_TableLike.tab8 payofflaw05_TableLike.bits8 (fun HT_ HW_ => ?_)
 generalize World.drew _ = wk at BK3 BK4 HB hHeld ⊢
 refine pure_ (i := 0) (N := some 53) (v := ?_) (a' := ?_) #[true, false, false, false, false, false, false, false] rfl rfl (any_of HT_.out (by kernel_rfl)) (fun _ _ _ h => h) (Or.inl ⟨by rfl, ?_⟩) ?_ ?_
 rotate_left; (focus (intro w'; go_simp; with_reducible rfl)); rotate_left; (focus (simp only [Act.put, List.setIfInBounds_toArray, List.set_cons_zero, List.set_cons_succ, i64_w, i32_w]; rfl))
 refine take_ (i := 1) (N := some 54) (v := ?_) (a' := ?_) #[true, true, false, false, false, false, false, false] rfl rfl (take_ofW HT_.out HW_.out (by kernel_rfl)) (fun _ _ _ h => h) (Or.inl ⟨by rfl, ?_⟩) hHeld ?_ ?_
 rotate_left; (focus (rintro w' ⟨s0, s1, s2, s3⟩; go_simp; with_reducible rfl)); rotate_left; (focus (simp only [Act.put, List.setIfInBounds_toArray, List.set_cons_zero, List.set_cons_succ, i64_w, i32_w]; rfl))
 refine take_ (i := 3) (N := some 56) (v := ?_) (a' := ?_) #[true, true, false, true, false, false, false, false] rfl rfl (take_ofW HT_.out HW_.out (by kernel_rfl)) (fun _ _ _ h => h) (Or.inl ⟨by rfl, ?_⟩) hHeld ?_ ?_
 rotate_left; (focus (rintro w' ⟨s0, s1, s2, s3⟩; go_simp; with_reducible rfl)); rotate_left; (focus (simp only [Act.put, List.setIfInBounds_toArray, List.set_cons_zero, List.set_cons_succ, i64_w, i32_w]; rfl))
 refine pure_ (i := 5) (N := some 58) (v := ?_) (a' := ?_) #[true, true, false, true, false, true, false, false] rfl rfl (any_of HT_.out (by kernel_rfl)) (fun _ _ _ h => h) (Or.inl ⟨by rfl, ?_⟩) ?_ ?_
 rotate_left; (focus (intro w'; go_simp; with_reducible rfl)); rotate_left; (focus (simp only [Act.put, List.setIfInBounds_toArray, List.set_cons_zero, List.set_cons_succ, i64_w, i32_w]; rfl))
 refine one_ (i := 2) (N := some 55) #[true, true, true, true, false, true, false, false] rfl rfl (one_of HT_.out (by kernel_rfl)) (by decide) (fun K hK => ?_)
 refine goes_ Tryd.func16 (by kernel_rfl) rfl #[.agg #[.slice B0 m0.length d0, .slice B1 m1.length d1]] (by rfl) rfl rfl (by (try simp only [List.map_toArray, List.map_cons, List.map_nil]); first | done | rfl) ?_
 refine (own_tb (HBT.out.below HB.out) SB.out ((HG.out.below HB.out).beh)).mono ?_
 rintro e wo1 ⟨Ao1, co1, Bo1, do1, rfl, ht, hb⟩
 refine ⟨_, rfl, ?_⟩
 have T1 := Aside0.mk (ht)
 replace BK3 := Aside0.mk (blk_below BK3.out hb)
 replace BK4 := Aside0.mk (blk_below BK4.out hb)
 replace HB := Aside0.mk (below_step HB.out hb)
 clear hb
 clear ht
 refine hK.out _ _ ⟨(blk_cell BK3.out 0).trans rfl, (blk_cell BK3.out 1).trans rfl, (blk_cell BK4.out 0).trans rfl, (blk_cell BK4.out 1).trans rfl⟩ (fun hHeld => ?_)
 clear hK K
 refine norm_ (a' := ?_) ?_ ?_
 rotate_left; (focus (show Act.put _ (some 55) _ = _; simp only [Act.put, List.setIfInBounds_toArray, List.set_cons_zero, List.set_cons_succ, i64_w, i32_w]; rfl))
 refine one_ (i := 4) (N := some 57) #[true, true, true, true, true, true, false, false] rfl rfl (one_of HT_.out (by kernel_rfl)) (by decide) (fun K hK => ?_)
 refine goes_ Tryd.func16 (by kernel_rfl) rfl #[.agg #[.slice A0 l0.length c0, .slice A1 l1.length c1]] (by rfl) rfl rfl (by (try simp only [List.map_toArray, List.map_cons, List.map_nil]); first | done | rfl) ?_
 refine (own_tb (HA.out.below HB.out) SA.out ((HG.out.below HB.out).beh)).mono ?_
 rintro e wo2 ⟨Ao2, co2, Bo2, do2, rfl, ht, hb⟩
 refine ⟨_, rfl, ?_⟩
 have T2 := Aside0.mk (ht)
 replace BK3 := Aside0.mk (blk_below BK3.out hb)
 replace BK4 := Aside0.mk (blk_below BK4.out hb)
 replace HB := Aside0.mk (below_step HB.out hb)
 replace T1 := Aside0.mk (T1.out.below hb)
 clear hb
 clear ht
 refine hK.out _ _ ⟨(blk_cell BK3.out 0).trans rfl, (blk_cell BK3.out 1).trans rfl, (blk_cell BK4.out 0).trans rfl, (blk_cell BK4.out 1).trans rfl⟩ (fun hHeld => ?_)
 clear hK K
 refine norm_ (a' := ?_) ?_ ?_
 rotate_left; (focus (show Act.put _ (some 57) _ = _; simp only [Act.put, List.setIfInBounds_toArray, List.set_cons_zero, List.set_cons_succ, i64_w, i32_w]; rfl))
 refine one_ (i := 6) (N := some 59) #[true, true, true, true, true, true, true, false] rfl rfl (one_of HT_.out (by kernel_rfl)) (by decide) (fun K hK => ?_)
 refine goes_ Tryd.func17 (by kernel_rfl) rfl #[.agg #[.slice Ao1 m0.length co1, .slice Bo1 m1.length do1], .agg #[.slice Ao2 l0.length co2, .slice Bo2 l1.length do2], .int .i64 last] (by rfl) rfl rfl (by (try simp only [List.map_toArray, List.map_cons, List.map_nil]); first | done | rfl) ?_
 refine (agree_is T1.out T2.out SB.out.a SA.out.a last HL.out.ba).mono ?_
 rintro e wl ⟨rfl, hb⟩
 refine ⟨_, rfl, ?_⟩
 replace BK3 := Aside0.mk (blk_below BK3.out hb)
 replace BK4 := Aside0.mk (blk_below BK4.out hb)
 replace HB := Aside0.mk (below_step HB.out hb)
 clear hb
 clear T1 T2
 refine hK.out _ _ ⟨(blk_cell BK3.out 0).trans rfl, (blk_cell BK3.out 1).trans rfl, (blk_cell BK4.out 0).trans rfl, (blk_cell BK4.out 1).trans rfl⟩ (fun hHeld => ?_)
 clear hK K
 refine norm_ (a' := ?_) ?_ ?_
 rotate_left; (focus (show Act.put _ (some 59) _ = _; simp only [Act.put, List.setIfInBounds_toArray, List.set_cons_zero, List.set_cons_succ, i64_w, i32_w]; rfl))
 refine pure_ (i := 7) (N := some 60) (v := ?_) (a' := ?_) #[true, true, true, true, true, true, true, true] rfl rfl (any_of HT_.out (by kernel_rfl)) (fun _ _ _ h => h) (Or.inl ⟨by rfl, ?_⟩) ?_ ?_
 rotate_left; (focus (intro w'; go_simp; with_reducible rfl)); rotate_left; (focus (simp only [Act.put, List.setIfInBounds_toArray, List.set_cons_zero, List.set_cons_succ, i64_w, i32_w]; rfl))
 refine done_ (done_of HT_.out (by kernel_rfl)) ?_
 clear hHeld HT_ HW_
 obtain ⟨one, ho⟩ : ∃ one, agreeB l0 l1 m0 m1 last = one := ⟨_, rfl⟩
 rw [ho]
 have HO := Aside0.mk ho
 clear ho
 go_upto_region 10 with (fail)
 go_cut [75] (fun v75 wc => v75 = .bool false ∧ Aside0 (wc.heap[gb3]? = some (.cells #[.slice A0 l0.length c0, .slice A1 l1.length c1] 25 (0, 0))) ∧ Aside0 (wc.heap[gb4]? = some (.cells #[.slice B0 m0.length d0, .slice B1 m1.length d1] 25 (0, 0))) ∧ Aside0 (Below w.heap.size w wc))
 case first =>
  cases one with
  | false =>
   replace BK3 := Aside0.mk (blk_drew BK3.out)
   replace BK4 := Aside0.mk (blk_drew BK4.out)
   replace HB := Aside0.mk (below_drew1 HB.out)
   refine start_ (n := 15) (S := fun w' => w'.cell? ⟨gb3, 0, none⟩ = some (.slice A0 l0.length c0) ∧ w'.cell? ⟨gb3, 1, none⟩ = some (.slice A1 l1.length c1) ∧ w'.cell? ⟨gb4, 0, none⟩ = some (.slice B0 m0.length d0) ∧ w'.cell? ⟨gb4, 1, none⟩ = some (.slice B1 m1.length d1)) (ds := []) #[false, false, false, false, false, false, false, false, false, false, false, false, false, false, false] (by kernel_rfl) rfl rfl ⟨(blk_cell BK3.out 0).trans rfl, (blk_cell BK3.out 1).trans rfl, (blk_cell BK4.out 0).trans rfl, (blk_cell BK4.out 1).trans rfl⟩ (fun hHeld => ?_); refine with_tabW payofflaw05_TableLike.tab10 payofflaw05_TableLike.bits10 (fun HT_ HW_ => ?_)
   generalize World.drew _ = wm at BK3 BK4 HB hHeld ⊢
   refine pure_ (i := 0) (N := some 61) (v := ?_) (a' := ?_) #[true, false, false, false, false, false, false, false, false, false, false, false, false, false, false] rfl rfl (any_of HT_.out (by kernel_rfl)) (fun _ _ _ h => h) (Or.inl ⟨by rfl, ?_⟩) ?_ ?_
   rotate_left; (focus (intro w'; go_simp; with_reducible rfl)); rotate_left; (focus (simp only [Act.put, List.setIfInBounds_toArray, List.set_cons_zero, List.set_cons_succ, i64_w, i32_w]; rfl))
   refine pure_ (i := 1) (N := some 62) (v := ?_) (a' := ?_) #[true, true, false, false, false, false, false, false, false, false, false, false, false, false, false] rfl rfl (any_of HT_.out (by kernel_rfl)) (fun _ _ _ h => h) (Or.inl ⟨by rfl, ?_⟩) ?_ ?_
   rotate_left; (focus (intro w'; go_simp; with_reducible rfl)); rotate_left; (focus (simp only [Act.put, List.setIfInBounds_toArray, List.set_cons_zero, List.set_cons_succ, i64_w, i32_w]; rfl))
   refine pure_ (i := 2) (N := some 63) (v := undef) (a' := ?_) #[true, true, true, false, false, false, false, false, false, false, false, false, false, false, false] rfl rfl (any_of HT_.out (by kernel_rfl)) (fun _ _ _ h => h) (Or.inr ⟨by rfl, rfl⟩) ?_ ?_
   rotate_left; (focus (simp only [Act.put, List.setIfInBounds_toArray, List.set_cons_zero, List.set_cons_succ, i64_w, i32_w]; rfl))
   refine pure_ (i := 3) (N := some 64) (v := undef) (a' := ?_) #[true, true, true, true, false, false, false, false, false, false, false, false, false, false, false] rfl rfl (any_of HT_.out (by kernel_rfl)) (fun _ _ _ h => h) (Or.inr ⟨by rfl, rfl⟩) ?_ ?_
   rotate_left; (focus (simp only [Act.put, List.setIfInBounds_toArray, List.set_cons_zero, List.set_cons_succ, i64_w, i32_w]; rfl))
   refine pure_ (i := 4) (N := some 65) (v := ?_) (a' := ?_) #[true, true, true, true, true, false, false, false, false, false, false, false, false, false, false] rfl rfl (any_of HT_.out (by kernel_rfl)) (fun _ _ _ h => h) (Or.inl ⟨by rfl, ?_⟩) ?_ ?_
   rotate_left; (focus (intro w'; go_simp; with_reducible rfl)); rotate_left; (focus (simp only [Act.put, List.setIfInBounds_toArray, List.set_cons_zero, List.set_cons_succ, i64_w, i32_w]; rfl))
   refine pure_ (i := 5) (N := some 66) (v := ?_) (a' := ?_) #[true, true, true, true, true, true, false, false, false, false, false, false, false, false, false] rfl rfl (any_of HT_.out (by kernel_rfl)) (fun _ _ _ h => h) (Or.inl ⟨by rfl, ?_⟩) ?_ ?_
   rotate_left; (focus (intro w'; go_simp; with_reducible rfl)); rotate_left; (focus (simp only [Act.put, List.setIfInBounds_toArray, List.set_cons_zero, List.set_cons_succ, i64_w, i32_w]; rfl))
   refine pure_ (i := 6) (N := some 67) (v := undef) (a' := ?_) #[true, true, true, true, true, true, true, false, false, false, false, false, false, false, false] rfl rfl (any_of HT_.out (by kernel_rfl)) (fun _ _ _ h => h) (Or.inr ⟨by rfl, rfl⟩) ?_ ?_
   rotate_left; (focus (simp only [Act.put, List.setIfInBounds_toArray, List.set_cons_zero, List.set_cons_succ, i64_w, i32_w]; rfl))
   refine pure_ (i := 7) (N := some 68) (v := undef) (a' := ?_) #[true, true, true, true, true, true, true, true, false, false, false, false, false, false, false] rfl rfl (any_of HT_.out (by kernel_rfl)) (fun _ _ _ h => h) (Or.inr ⟨by rfl, rfl⟩) ?_ ?_
   rotate_left; (focus (simp only [Act.put, List.setIfInBounds_toArray, List.set_cons_zero, List.set_cons_succ, i64_w, i32_w]; rfl))
   refine pure_ (i := 8) (N := some 69) (v := undef) (a' := ?_) #[true, true, true, true, true, true, true, true, true, false, false, false, false, false, false] rfl rfl (any_of HT_.out (by kernel_rfl)) (fun _ _ _ h => h) (Or.inr ⟨by rfl, rfl⟩) ?_ ?_
   rotate_left; (focus (simp only [Act.put, List.setIfInBounds_toArray, List.set_cons_zero, List.set_cons_succ, i64_w, i32_w]; rfl))
   refine pure_ (i := 9) (N := some 70) (v := undef) (a' := ?_) #[true, true, true, true, true, true, true, true, true, true, false, false, false, false, false] rfl rfl (any_of HT_.out (by kernel_rfl)) (fun _ _ _ h => h) (Or.inr ⟨by rfl, rfl⟩) ?_ ?_
   rotate_left; (focus (simp only [Act.put, List.setIfInBounds_toArray, List.set_cons_zero, List.set_cons_succ, i64_w, i32_w]; rfl))
   refine pure_ (i := 10) (N := some 71) (v := undef) (a' := ?_) #[true, true, true, true, true, true, true, true, true, true, true, false, false, false, false] rfl rfl (any_of HT_.out (by kernel_rfl)) (fun _ _ _ h => h) (Or.inr ⟨by rfl, rfl⟩) ?_ ?_
   rotate_left; (focus (simp only [Act.put, List.setIfInBounds_toArray, List.set_cons_zero, List.set_cons_succ, i64_w, i32_w]; rfl))
   refine pure_ (i := 11) (N := some 72) (v := undef) (a' := ?_) #[true, true, true, true, true, true, true, true, true, true, true, true, false, false, false] rfl rfl (any_of HT_.out (by kernel_rfl)) (fun _ _ _ h => h) (Or.inr ⟨by rfl, rfl⟩) ?_ ?_
   rotate_left; (focus (simp only [Act.put, List.setIfInBounds_toArray, List.set_cons_zero, List.set_cons_succ, i64_w, i32_w]; rfl))
   refine pure_ (i := 12) (N := some 73) (v := undef) (a' := ?_) #[true, true, true, true, true, true, true, true, true, true, true, true, true, false, false] rfl rfl (any_of HT_.out (by kernel_rfl)) (fun _ _ _ h => h) (Or.inr ⟨by rfl, rfl⟩) ?_ ?_
   rotate_left; (focus (simp only [Act.put, List.setIfInBounds_toArray, List.set_cons_zero, List.set_cons_succ, i64_w, i32_w]; rfl))
   refine pure_ (i := 13) (N := some 74) (v := undef) (a' := ?_) #[true, true, true, true, true, true, true, true, true, true, true, true, true, true, false] rfl rfl (any_of HT_.out (by kernel_rfl)) (fun _ _ _ h => h) (Or.inr ⟨by rfl, rfl⟩) ?_ ?_
   rotate_left; (focus (simp only [Act.put, List.setIfInBounds_toArray, List.set_cons_zero, List.set_cons_succ, i64_w, i32_w]; rfl))
   refine pure_ (i := 14) (N := some 75) (v := ?_) (a' := ?_) #[true, true, true, true, true, true, true, true, true, true, true, true, true, true, true] rfl rfl (any_of HT_.out (by kernel_rfl)) (fun _ _ _ h => h) (Or.inl ⟨by rfl, ?_⟩) ?_ ?_
   rotate_left; (focus (intro w'; go_simp; with_reducible rfl)); rotate_left; (focus (simp only [Act.put, List.setIfInBounds_toArray, List.set_cons_zero, List.set_cons_succ, i64_w, i32_w]; rfl))
   refine done_ (done_of HT_.out (by kernel_rfl)) ?_
   clear hHeld HT_ HW_
   (try go_wp2)
   go_meet
   case rel => exact ⟨rfl, BK3, BK4, HB⟩
  | true =>
   by_cases hpos : 0 < last
   ·have hd1 : decide (last > 0) = true := decide_eq_true hpos
    have hd2 : decide (0 < last) = true := decide_eq_true hpos
    replace BK3 := Aside0.mk (blk_drew BK3.out)
    replace BK4 := Aside0.mk (blk_drew BK4.out)
    replace HB := Aside0.mk (below_drew1 HB.out)
    refine start_ (n := 15) (S := fun w' => w'.cell? ⟨gb3, 0, none⟩ = some (.slice A0 l0.length c0) ∧ w'.cell? ⟨gb3, 1, none⟩ = some (.slice A1 l1.length c1) ∧ w'.cell? ⟨gb4, 0, none⟩ = some (.slice B0 m0.length d0) ∧ w'.cell? ⟨gb4, 1, none⟩ = some (.slice B1 m1.length d1)) (ds := []) #[false, false, false, false, false, false, false, false, false, false, false, false, false, false, false] (by kernel_rfl) rfl rfl ⟨(blk_cell BK3.out 0).trans rfl, (blk_cell BK3.out 1).trans rfl, (blk_cell BK4.out 0).trans rfl, (blk_cell BK4.out 1).trans rfl⟩ (fun hHeld => ?_); refine with_tabW payofflaw05_TableLike.tab10 payofflaw05_TableLike.bits10 (fun HT_ HW_ => ?_)
    generalize World.drew _ = wm at BK3 BK4 HB hHeld ⊢
    refine pure_ (i := 0) (N := some 61) (v := ?_) (a' := ?_) #[true, false, false, false, false, false, false, false, false, false, false, false, false, false, false] rfl rfl (any_of HT_.out (by kernel_rfl)) (fun _ _ _ h => h) (Or.inl ⟨by rfl, ?_⟩) ?_ ?_
    rotate_left; (focus (intro w'; go_simp; with_reducible rfl)); rotate_left; (focus (simp only [Act.put, List.setIfInBounds_toArray, List.set_cons_zero, List.set_cons_succ, i64_w, i32_w]; rfl))
    refine pure_ (i := 1) (N := some 62) (v := ?_) (a' := ?_) #[true, true, false, false, false, false, false, false, false, false, false, false, false, false, false] rfl rfl (any_of HT_.out (by kernel_rfl)) (fun _ _ _ h => h) (Or.inl ⟨by rfl, ?_⟩) ?_ ?_
    rotate_left; (focus (intro w'; go_simp; with_reducible rfl)); rotate_left; (focus (simp only [Act.put, List.setIfInBounds_toArray, List.set_cons_zero, List.set_cons_succ, i64_w, i32_w]; rfl))
    refine pure_ (i := 2) (N := some 63) (v := ?_) (a' := ?_) #[true, true, true, false, false, false, false, false, false, false, false, false, false, false, false] rfl rfl (any_of HT_.out (by kernel_rfl)) (fun _ _ _ h => h) (Or.inl ⟨by rfl, ?_⟩) ?_ ?_
    rotate_left; (focus (intro w'; go_simp; with_reducible rfl)); rotate_left; (focus (simp only [Act.put, List.setIfInBounds_toArray, List.set_cons_zero, List.set_cons_succ, i64_w, i32_w]; rfl))
    refine pure_ (i := 3) (N := some 64) (v := ?_) (a' := ?_) #[true, true, true, true, false, false, false, false, false, false, false, false, false, false, false] rfl rfl (any_of HT_.out (by kernel_rfl)) (fun _ _ _ h => h) (Or.inl ⟨by rfl, ?_⟩) ?_ ?_
    rotate_left; (focus (intro w'; go_simp; with_reducible rfl)); rotate_left; (focus (simp only [Act.put, List.setIfInBounds_toArray, List.set_cons_zero, List.set_cons_succ, i64_w, i32_w]; rfl))
    refine pure_ (i := 4) (N := some 65) (v := ?_) (a' := ?_) #[true, true, true, true, true, false, false, false, false, false, false, false, false, false, false] rfl rfl (any_of HT_.out (by kernel_rfl)) (fun _ _ _ h => h) (Or.inl ⟨by rfl, ?_⟩) ?_ ?_
    rotate_left; (focus (intro w'; go_simp; with_reducible rfl)); rotate_left; (focus (simp only [Act.put, List.setIfInBounds_toArray, List.set_cons_zero, List.set_cons_succ, i64_w, i32_w]; rfl))
    refine pure_ (i := 5) (N := some 66) (v := ?_) (a' := ?_) #[true, true, true, true, true, true, false, false, false, false, false, false, false, false, false] rfl rfl (any_of HT_.out (by kernel_rfl)) (fun _ _ _ h => h) (Or.inl ⟨by rfl, ?_⟩) ?_ ?_
    rotate_left; (focus (intro w'; go_simp; with_reducible rfl)); rotate_left; (focus (simp only [Act.put, List.setIfInBounds_toArray, List.set_cons_zero, List.set_cons_succ, i64_w, i32_w]; rfl))
    refine take_ (i := 6) (N := some 67) (v := ?_) (a' := ?_) #[true, true, true, true, true, true, true, false, false, false, false, false, false, false, false] rfl rfl (take_ofW HT_.out HW_.out (by kernel_rfl)) (fun _ _ _ h => h) (Or.inl ⟨by rfl, ?_⟩) hHeld ?_ ?_
    rotate_left; (focus (rintro w' ⟨s0, s1, s2, s3⟩; go_simp; with_reducible rfl)); rotate_left; (focus (simp only [Act.put, List.setIfInBounds_toArray, List.set_cons_zero, List.set_cons_succ, i64_w, i32_w]; rfl))
    refine take_ (i := 8) (N := some 69) (v := ?_) (a' := ?_) #[true, true, true, true, true, true, true, false, true, false, false, false, false, false, false] rfl rfl (take_ofW HT_.out HW_.out (by kernel_rfl)) (fun _ _ _ h => h) (Or.inl ⟨by rfl, ?_⟩) hHeld ?_ ?_
    rotate_left; (focus (rintro w' ⟨s0, s1, s2, s3⟩; go_simp; with_reducible rfl)); rotate_left; (focus (simp only [Act.put, List.setIfInBounds_toArray, List.set_cons_zero, List.set_cons_succ, i64_w, i32_w]; rfl))
    refine pure_ (i := 10) (N := some 71) (v := ?_) (a' := ?_) #[true, true, true, true, true, true, true, false, true, false, true, false, false, false, false] rfl rfl (any_of HT_.out (by kernel_rfl)) (fun _ _ _ h => h) (Or.inl ⟨by rfl, ?_⟩) ?_ ?_
    rotate_left; (focus (intro w'; go_simp; with_reducible rfl)); rotate_left; (focus (simp only [Act.put, List.setIfInBounds_toArray, List.set_cons_zero, List.set_cons_succ, i64_w, i32_w]; rfl))
    refine pure_ (i := 11) (N := some 72) (v := ?_) (a' := ?_) #[true, true, true, true, true, true, true, false, true, false, true, true, false, false, false] rfl rfl (any_of HT_.out (by kernel_rfl)) (fun _ _ _ h => h) (Or.inl ⟨by rfl, ?_⟩) ?_ ?_
    rotate_left; (focus (intro w'; go_simp; with_reducible rfl)); rotate_left; (focus (simp only [Act.put, List.setIfInBounds_toArray, List.set_cons_zero, List.set_cons_succ, i64_w, i32_w]; rfl))
    refine one_ (i := 7) (N := some 68) #[true, true, true, true, true, true, true, true, true, false, true, true, false, false, false] rfl rfl (one_of HT_.out (by kernel_rfl)) (by decide) (fun K hK => ?_)
    refine goes_ Tryd.func16 (by kernel_rfl) rfl #[.agg #[.slice A0 l0.length c0, .slice A1 l1.length c1]] (by rfl) rfl rfl (by (try simp only [List.map_toArray, List.map_cons, List.map_nil]); first | done | rfl) ?_
    refine (own_tb (HA.out.below HB.out) SA.out ((HG.out.below HB.out).beh)).mono ?_
    rintro e wo1 ⟨Ao1, co1, Bo1, do1, rfl, ht, hb⟩
    refine ⟨_, rfl, ?_⟩
    have T1 := Aside0.mk (ht)
    replace BK3 := Aside0.mk (blk_below BK3.out hb)
    replace BK4 := Aside0.mk (blk_below BK4.out hb)
    replace HB := Aside0.mk (below_step HB.out hb)
    clear hb
    clear ht
    refine hK.out _ _ ⟨(blk_cell BK3.out 0).trans rfl, (blk_cell BK3.out 1).trans rfl, (blk_cell BK4.out 0).trans rfl, (blk_cell BK4.out 1).trans rfl⟩ (fun hHeld => ?_)
    clear hK K
    refine norm_ (a' := ?_) ?_ ?_
    rotate_left; (focus (show Act.put _ (some 68) _ = _; simp only [Act.put, List.setIfInBounds_toArray, List.set_cons_zero, List.set_cons_succ, i64_w, i32_w]; rfl))
    refine one_ (i := 9) (N := some 70) #[true, true, true, true, true, true, true, true, true, true, true, true, false, false, false] rfl rfl (one_of HT_.out (by kernel_rfl)) (by decide) (fun K hK => ?_)
    refine goes_ Tryd.func16 (by kernel_rfl) rfl #[.agg #[.slice B0 m0.length d0, .slice B1 m1.length d1]] (by rfl) rfl rfl (by (try simp only [List.map_toArray, List.map_cons, List.map_nil]); first | done | rfl) ?_
    refine (own_tb (HBT.out.below HB.out) SB.out ((HG.out.below HB.out).beh)).mono ?_
    rintro e wo2 ⟨Ao2, co2, Bo2, do2, rfl, ht, hb⟩
    refine ⟨_, rfl, ?_⟩
    have T2 := Aside0.mk (ht)
    replace BK3 := Aside0.mk (blk_below BK3.out hb)
    replace BK4 := Aside0.mk (blk_below BK4.out hb)
    replace HB := Aside0.mk (below_step HB.out hb)
    replace T1 := Aside0.mk (T1.out.below hb)
    clear hb
    clear ht
    refine hK.out _ _ ⟨(blk_cell BK3.out 0).trans rfl, (blk_cell BK3.out 1).trans rfl, (blk_cell BK4.out 0).trans rfl, (blk_cell BK4.out 1).trans rfl⟩ (fun hHeld => ?_)
    clear hK K
    refine norm_ (a' := ?_) ?_ ?_
    rotate_left; (focus (show Act.put _ (some 70) _ = _; simp only [Act.put, List.setIfInBounds_toArray, List.set_cons_zero, List.set_cons_succ, i64_w, i32_w]; rfl))
    refine one_ (i := 12) (N := some 73) #[true, true, true, true, true, true, true, true, true, true, true, true, true, false, false] rfl rfl (one_of HT_.out (by kernel_rfl)) (by decide) (fun K hK => ?_)
    refine goes_ Tryd.func17 (by kernel_rfl) rfl #[.agg #[.slice Ao1 l0.length co1, .slice Bo1 l1.length do1], .agg #[.slice Ao2 m0.length co2, .slice Bo2 m1.length do2], .int .i64 (wrap64 (last - 1))] (by rfl) rfl rfl (by (try simp only [List.map_toArray, List.map_cons, List.map_nil]); first | done | rfl) ?_
    refine (agree_is T1.out T2.out SA.out.a SB.out.a (wrap64 (last - 1)) (HL.out.le HO.out hpos)).mono ?_
    rintro e wn ⟨rfl, hb⟩
    refine ⟨_, rfl, ?_⟩
    replace BK3 := Aside0.mk (blk_below BK3.out hb)
    replace BK4 := Aside0.mk (blk_below BK4.out hb)
    replace HB := Aside0.mk (below_step HB.out hb)
    clear hb
    clear T1 T2
    refine hK.out _ _ ⟨(blk_cell BK3.out 0).trans rfl, (blk_cell BK3.out 1).trans rfl, (blk_cell BK4.out 0).trans rfl, (blk_cell BK4.out 1).trans rfl⟩ (fun hHeld => ?_)
    clear hK K
    refine norm_ (a' := ?_) ?_ ?_
    rotate_left; (focus (show Act.put _ (some 73) _ = _; simp only [Act.put, List.setIfInBounds_toArray, List.set_cons_zero, List.set_cons_succ, i64_w, i32_w]; rfl))
    refine pure_ (i := 13) (N := some 74) (v := ?_) (a' := ?_) #[true, true, true, true, true, true, true, true, true, true, true, true, true, true, false] rfl rfl (any_of HT_.out (by kernel_rfl)) (fun _ _ _ h => h) (Or.inl ⟨by rfl, ?_⟩) ?_ ?_
    rotate_left; (focus (intro w'; go_simp; with_reducible rfl)); rotate_left; (focus (simp only [Act.put, List.setIfInBounds_toArray, List.set_cons_zero, List.set_cons_succ, i64_w, i32_w]; rfl))
    refine pure_ (i := 14) (N := some 75) (v := ?_) (a' := ?_) #[true, true, true, true, true, true, true, true, true, true, true, true, true, true, true] rfl rfl (any_of HT_.out (by kernel_rfl)) (fun _ _ _ h => h) (Or.inl ⟨by rfl, ?_⟩) ?_ ?_
    rotate_left; (focus (intro w'; go_simp; with_reducible rfl)); rotate_left; (focus (simp only [Act.put, List.setIfInBounds_toArray, List.set_cons_zero, List.set_cons_succ, i64_w, i32_w]; rfl))
    refine done_ (done_of HT_.out (by kernel_rfl)) ?_
    clear hHeld HT_ HW_
    (try go_wp2)
    go_meet
    case rel => exact ⟨rfl, BK3, BK4, HB⟩
   ·have hd1 : decide (last > 0) = false := decide_eq_false hpos
    have hd2 : decide (0 < last) = false := decide_eq_false hpos
    replace BK3 := Aside0.mk (blk_drew BK3.out)
    replace BK4 := Aside0.mk (blk_drew BK4.out)
    replace HB := Aside0.mk (below_drew1 HB.out)
    refine start_ (n := 15) (S := fun w' => w'.cell? ⟨gb3, 0, none⟩ = some (.slice A0 l0.length c0) ∧ w'.cell? ⟨gb3, 1, none⟩ = some (.slice A1 l1.length c1) ∧ w'.cell? ⟨gb4, 0, none⟩ = some (.slice B0 m0.length d0) ∧ w'.cell? ⟨gb4, 1, none⟩ = some (.slice B1 m1.length d1)) (ds := []) #[false, false, false, false, false, false, false, false, false, false, false, false, false, false, false] (by kernel_rfl) rfl rfl ⟨(blk_cell BK3.out 0).trans rfl, (blk_cell BK3.out 1).trans rfl, (blk_cell BK4.out 0).trans rfl, (blk_cell BK4.out 1).trans rfl⟩ (fun hHeld => ?_); refine with_tabW payofflaw05_TableLike.tab10 payofflaw05_TableLike.bits10 (fun HT_ HW_ => ?_)
    generalize World.drew _ = wm at BK3 BK4 HB hHeld ⊢
    refine pure_ (i := 0) (N := some 61) (v := ?_) (a' := ?_) #[true, false, false, false, false, false, false, false, false, false, false, false, false, false, false] rfl rfl (any_of HT_.out (by kernel_rfl)) (fun _ _ _ h => h) (Or.inl ⟨by rfl, ?_⟩) ?_ ?_
    rotate_left; (focus (intro w'; go_simp; with_reducible rfl)); rotate_left; (focus (simp only [Act.put, List.setIfInBounds_toArray, List.set_cons_zero, List.set_cons_succ, i64_w, i32_w]; rfl))
    refine pure_ (i := 1) (N := some 62) (v := ?_) (a' := ?_) #[true, true, false, false, false, false, false, false, false, false, false, false, false, false, false] rfl rfl (any_of HT_.out (by kernel_rfl)) (fun _ _ _ h => h) (Or.inl ⟨by rfl, ?_⟩) ?_ ?_
    rotate_left; (focus (intro w'; go_simp; with_reducible rfl)); rotate_left; (focus (simp only [Act.put, List.setIfInBounds_toArray, List.set_cons_zero, List.set_cons_succ, i64_w, i32_w]; rfl))
    refine pure_ (i := 2) (N := some 63) (v := ?_) (a' := ?_) #[true, true, true, false, false, false, false, false, false, false, false, false, false, false, false] rfl rfl (any_of HT_.out (by kernel_rfl)) (fun _ _ _ h => h) (Or.inl ⟨by rfl, ?_⟩) ?_ ?_
    rotate_left; (focus (intro w'; go_simp; with_reducible rfl)); rotate_left; (focus (simp only [Act.put, List.setIfInBounds_toArray, List.set_cons_zero, List.set_cons_succ, i64_w, i32_w]; rfl))
    refine pure_ (i := 3) (N := some 64) (v := ?_) (a' := ?_) #[true, true, true, true, false, false, false, false, false, false, false, false, false, false, false] rfl rfl (any_of HT_.out (by kernel_rfl)) (fun _ _ _ h => h) (Or.inl ⟨by rfl, ?_⟩) ?_ ?_
    rotate_left; (focus (intro w'; go_simp; with_reducible rfl)); rotate_left; (focus (simp only [Act.put, List.setIfInBounds_toArray, List.set_cons_zero, List.set_cons_succ, i64_w, i32_w]; rfl))
    refine pure_ (i := 4) (N := some 65) (v := ?_) (a' := ?_) #[true, true, true, true, true, false, false, false, false, false, false, false, false, false, false] rfl rfl (any_of HT_.out (by kernel_rfl)) (fun _ _ _ h => h) (Or.inl ⟨by rfl, ?_⟩) ?_ ?_
    rotate_left; (focus (intro w'; go_simp; with_reducible rfl)); rotate_left; (focus (simp only [Act.put, List.setIfInBounds_toArray, List.set_cons_zero, List.set_cons_succ, i64_w, i32_w]; rfl))
    refine pure_ (i := 5) (N := some 66) (v := ?_) (a' := ?_) #[true, true, true, true, true, true, false, false, false, false, false, false, false, false, false] rfl rfl (any_of HT_.out (by kernel_rfl)) (fun _ _ _ h => h) (Or.inl ⟨by rfl, ?_⟩) ?_ ?_
    rotate_left; (focus (intro w'; go_simp; with_reducible rfl)); rotate_left; (focus (simp only [Act.put, List.setIfInBounds_toArray, List.set_cons_zero, List.set_cons_succ, i64_w, i32_w]; rfl))
    refine pure_ (i := 6) (N := some 67) (v := undef) (a' := ?_) #[true, true, true, true, true, true, true, false, false, false, false, false, false, false, false] rfl rfl (any_of HT_.out (by kernel_rfl)) (fun _ _ _ h => h) (Or.inr ⟨by rfl, rfl⟩) ?_ ?_
    rotate_left; (focus (simp only [Act.put, List.setIfInBounds_toArray, List.set_cons_zero, List.set_cons_succ, i64_w, i32_w]; rfl))
    refine pure_ (i := 7) (N := some 68) (v := undef) (a' := ?_) #[true, true, true, true, true, true, true, true, false, false, false, false, false, false, false] rfl rfl (any_of HT_.out (by kernel_rfl)) (fun _ _ _ h => h) (Or.inr ⟨by rfl, rfl⟩) ?_ ?_
    rotate_left; (focus (simp only [Act.put, List.setIfInBounds_toArray, List.set_cons_zero, List.set_cons_succ, i64_w, i32_w]; rfl))
    refine pure_ (i := 8) (N := some 69) (v := undef) (a' := ?_) #[true, true, true, true, true, true, true, true, true, false, false, false, false, false, false] rfl rfl (any_of HT_.out (by kernel_rfl)) (fun _ _ _ h => h) (Or.inr ⟨by rfl, rfl⟩) ?_ ?_
    rotate_left; (focus (simp only [Act.put, List.setIfInBounds_toArray, List.set_cons_zero, List.set_cons_succ, i64_w, i32_w]; rfl))
    refine pure_ (i := 9) (N := some 70) (v := undef) (a' := ?_) #[true, true, true, true, true, true, true, true, true, true, false, false, false, false, false] rfl rfl (any_of HT_.out (by kernel_rfl)) (fun _ _ _ h => h) (Or.inr ⟨by rfl, rfl⟩) ?_ ?_
    rotate_left; (focus (simp only [Act.put, List.setIfInBounds_toArray, List.set_cons_zero, List.set_cons_succ, i64_w, i32_w]; rfl))
    refine pure_ (i := 10) (N := some 71) (v := undef) (a' := ?_) #[true, true, true, true, true, true, true, true, true, true, true, false, false, false, false] rfl rfl (any_of HT_.out (by kernel_rfl)) (fun _ _ _ h => h) (Or.inr ⟨by rfl, rfl⟩) ?_ ?_
    rotate_left; (focus (simp only [Act.put, List.setIfInBounds_toArray, List.set_cons_zero, List.set_cons_succ, i64_w, i32_w]; rfl))
    refine pure_ (i := 11) (N := some 72) (v := undef) (a' := ?_) #[true, true, true, true, true, true, true, true, true, true, true, true, false, false, false] rfl rfl (any_of HT_.out (by kernel_rfl)) (fun _ _ _ h => h) (Or.inr ⟨by rfl, rfl⟩) ?_ ?_
    rotate_left; (focus (simp only [Act.put, List.setIfInBounds_toArray, List.set_cons_zero, List.set_cons_succ, i64_w, i32_w]; rfl))
    refine pure_ (i := 12) (N := some 73) (v := undef) (a' := ?_) #[true, true, true, true, true, true, true, true, true, true, true, true, true, false, false] rfl rfl (any_of HT_.out (by kernel_rfl)) (fun _ _ _ h => h) (Or.inr ⟨by rfl, rfl⟩) ?_ ?_
    rotate_left; (focus (simp only [Act.put, List.setIfInBounds_toArray, List.set_cons_zero, List.set_cons_succ, i64_w, i32_w]; rfl))
    refine pure_ (i := 13) (N := some 74) (v := undef) (a' := ?_) #[true, true, true, true, true, true, true, true, true, true, true, true, true, true, false] rfl rfl (any_of HT_.out (by kernel_rfl)) (fun _ _ _ h => h) (Or.inr ⟨by rfl, rfl⟩) ?_ ?_
    rotate_left; (focus (simp only [Act.put, List.setIfInBounds_toArray, List.set_cons_zero, List.set_cons_succ, i64_w, i32_w]; rfl))
    refine pure_ (i := 14) (N := some 75) (v := ?_) (a' := ?_) #[true, true, true, true, true, true, true, true, true, true, true, true, true, true, true] rfl rfl (any_of HT_.out (by kernel_rfl)) (fun _ _ _ h => h) (Or.inl ⟨by rfl, ?_⟩) ?_ ?_
    rotate_left; (focus (intro w'; go_simp; with_reducible rfl)); rotate_left; (focus (simp only [Act.put, List.setIfInBounds_toArray, List.set_cons_zero, List.set_cons_succ, i64_w, i32_w]; rfl))
    refine done_ (done_of HT_.out (by kernel_rfl)) ?_
    clear hHeld HT_ HW_
    (try go_wp2)
    go_meet
    case rel => exact ⟨rfl, BK3, BK4, HB⟩
 case rest =>
  obtain ⟨rfl, BK3, BK4, HB⟩ := hcut
  obtain ⟨v, hv⟩ : ∃ v, validT l0 l1 = v := ⟨_, rfl⟩
  have HV := Aside0.mk hv
  clear hv
  have hcz3_0 : wc.cell? ⟨gb3, 0, none⟩ = some (.slice A0 l0.length c0) := (blk_cell BK3.out 0).trans rfl
  have hcz3_1 : wc.cell? ⟨gb3, 1, none⟩ = some (.slice A1 l1.length c1) := (blk_cell BK3.out 1).trans rfl
  have hfz3_0 := blk_frozen BK3.out 0
  have hfz3_1 := blk_frozen BK3.out 1
  by_cases hv : v = 0
  rotate_left
  ·have hv0 : (v == 0) = false := beq_eq_false_iff_ne.mpr hv
   have hv1 : (v != 0) = true := bne_iff_ne.mpr hv
   go_wp2_with (first | ((with_reducible refine gate_callee (f := 16) rfl ?_); refine goesL_ (some 77) rfl rfl Tryd.func16 (by kernel_rfl) rfl #[.agg #[.slice A0 l0.length c0, .slice A1 l1.length c1]] rfl (by (try simp only [List.map_toArray, List.map_cons, List.map_nil]); first | done | rfl) ?_; refine (own_tb (HA.out.below HB.out) SA.out ((HG.out.below HB.out).beh)).mono ?_; rintro e wp ⟨Ao3, co3, Bo3, do3, rfl, ht, hb⟩; refine ⟨_, rfl, ?_⟩; have T1 := Aside0.mk (ht); replace BK3 := Aside0.mk (blk_below BK3.out hb); replace BK4 := Aside0.mk (blk_below BK4.out hb); replace HB := Aside0.mk (below_step HB.out hb); clear hb; clear ht) | ((with_reducible refine gate_callee (f := 20) rfl ?_); refine goesL_ (some 78) rfl rfl Tryd.func20 (by kernel_rfl) rfl #[.agg #[.slice Ao3 l0.length co3, .slice Bo3 l1.length do3]] rfl (by (try simp only [List.map_toArray, List.map_cons, List.map_nil]); first | done | rfl) ?_; refine (valid_is T1.out SA.out HV.out).mono ?_; rintro e wq ⟨rfl, hb⟩; refine ⟨_, rfl, ?_⟩; replace BK3 := Aside0.mk (blk_below BK3.out hb); replace BK4 := Aside0.mk (blk_below BK4.out hb); replace HB := Aside0.mk (below_step HB.out hb); clear hb; clear T1))
   go_ret
   exact ⟨rfl, HB.out⟩
  have hv0 : (v == 0) = true := beq_iff_eq.mpr hv
  have hv1 : (v != 0) = false := bne_eq_false_iff_eq.mpr hv
  by_cases hn : last < 0
  ·have hn1 : decide (last < 0) = true := decide_eq_true hn
   go_wp2_with (first | ((with_reducible refine gate_callee (f := 16) rfl ?_); refine goesL_ (some 77) rfl rfl Tryd.func16 (by kernel_rfl) rfl #[.agg #[.slice A0 l0.length c0, .slice A1 l1.length c1]] rfl (by (try simp only [List.map_toArray, List.map_cons, List.map_nil]); first | done | rfl) ?_; refine (own_tb (HA.out.below HB.out) SA.out ((HG.out.below HB.out).beh)).mono ?_; rintro e wp ⟨Ao3, co3, Bo3, do3, rfl, ht, hb⟩; refine ⟨_, rfl, ?_⟩; have T1 := Aside0.mk (ht); replace BK3 := Aside0.mk (blk_below BK3.out hb); replace BK4 := Aside0.mk (blk_below BK4.out hb); replace HB := Aside0.mk (below_step HB.out hb); clear hb; clear ht) | ((with_reducible refine gate_callee (f := 20) rfl ?_); refine goesL_ (some 78) rfl rfl Tryd.func20 (by kernel_rfl) rfl #[.agg #[.slice Ao3 l0.length co3, .slice Bo3 l1.length do3]] rfl (by (try simp only [List.map_toArray, List.map_cons, List.map_nil]); first | done | rfl) ?_; refine (valid_is T1.out SA.out HV.out).mono ?_; rintro e wq ⟨rfl, hb⟩; refine ⟨_, rfl, ?_⟩; replace BK3 := Aside0.mk (blk_below BK3.out hb); replace BK4 := Aside0.mk (blk_below BK4.out hb); replace HB := Aside0.mk (below_step HB.out hb); clear hb; clear T1))
   go_ret
   exact ⟨rfl, HB.out⟩
  have hn1 : decide (last < 0) = false := decide_eq_false hn
  by_cases hm : last > 5000
  ·have hm1 : decide (last > 5000) = true := decide_eq_true hm
   have hm2 : decide (5000 < last) = true := decide_eq_true hm
   go_wp2_with (first | ((with_reducible refine gate_callee (f := 16) rfl ?_); refine goesL_ (some 77) rfl rfl Tryd.func16 (by kernel_rfl) rfl #[.agg #[.slice A0 l0.length c0, .slice A1 l1.length c1]] rfl (by (try simp only [List.map_toArray, List.map_cons, List.map_nil]); first | done | rfl) ?_; refine (own_tb (HA.out.below HB.out) SA.out ((HG.out.below HB.out).beh)).mono ?_; rintro e wp ⟨Ao3, co3, Bo3, do3, rfl, ht, hb⟩; refine ⟨_, rfl, ?_⟩; have T1 := Aside0.mk (ht); replace BK3 := Aside0.mk (blk_below BK3.out hb); replace BK4 := Aside0.mk (blk_below BK4.out hb); replace HB := Aside0.mk (below_step HB.out hb); clear hb; clear ht) | ((with_reducible refine gate_callee (f := 20) rfl ?_); refine goesL_ (some 78) rfl rfl Tryd.func20 (by kernel_rfl) rfl #[.agg #[.slice Ao3 l0.length co3, .slice Bo3 l1.length do3]] rfl (by (try simp only [List.map_toArray, List.map_cons, List.map_nil]); first | done | rfl) ?_; refine (valid_is T1.out SA.out HV.out).mono ?_; rintro e wq ⟨rfl, hb⟩; refine ⟨_, rfl, ?_⟩; replace BK3 := Aside0.mk (blk_below BK3.out hb); replace BK4 := Aside0.mk (blk_below BK4.out hb); replace HB := Aside0.mk (below_step HB.out hb); clear hb; clear T1))
   go_ret
   exact ⟨rfl, HB.out⟩
  have hm1 : decide (last > 5000) = false := decide_eq_false hm
  have hm2 : decide (5000 < last) = false := decide_eq_false hm
  obtain ⟨kc, rc, hc, hcr⟩ := HL.out.cu (HV.out.trans hv) (by omega) (by omega)
  obtain ⟨ko, hov⟩ := HL.out.ov (HV.out.trans hv)
  have HC := Aside0.mk hc
  have HCR := Aside0.mk hcr
  have HOV := Aside0.mk hov
  clear hc hcr hov
  go_wp2_with (first | ((with_reducible refine gate_callee (f := 16) rfl ?_); refine goesL_ (some 77) rfl rfl Tryd.func16 (by kernel_rfl) rfl #[.agg #[.slice A0 l0.length c0, .slice A1 l1.length c1]] rfl (by (try simp only [List.map_toArray, List.map_cons, List.map_nil]); first | done | rfl) ?_; refine (own_tb (HA.out.below HB.out) SA.out ((HG.out.below HB.out).beh)).mono ?_; rintro e wp ⟨Ao3, co3, Bo3, do3, rfl, ht, hb⟩; refine ⟨_, rfl, ?_⟩; have T1 := Aside0.mk (ht); replace BK3 := Aside0.mk (blk_below BK3.out hb); replace BK4 := Aside0.mk (blk_below BK4.out hb); replace HB := Aside0.mk (below_step HB.out hb); clear hb; clear ht) | ((with_reducible refine gate_callee (f := 20) rfl ?_); refine goesL_ (some 78) rfl rfl Tryd.func20 (by kernel_rfl) rfl #[.agg #[.slice Ao3 l0.length co3, .slice Bo3 l1.length do3]] rfl (by (try simp only [List.map_toArray, List.map_cons, List.map_nil]); first | done | rfl) ?_; refine (valid_is T1.out SA.out HV.out).mono ?_; rintro e wq ⟨rfl, hb⟩; refine ⟨_, rfl, ?_⟩; replace BK3 := Aside0.mk (blk_below BK3.out hb); replace BK4 := Aside0.mk (blk_below BK4.out hb); replace HB := Aside0.mk (below_step HB.out hb); clear hb; clear T1; have hcq_0 : wq.cell? ⟨gb3, 0, none⟩ = some (.slice A0 l0.length c0) := (blk_cell BK3.out 0).trans rfl; have hcq_1 : wq.cell? ⟨gb3, 1, none⟩ = some (.slice A1 l1.length c1) := (blk_cell BK3.out 1).trans rfl; have hfq_0 := blk_frozen BK3.out 0; have hfq_1 := blk_frozen BK3.out 1) | ((with_reducible refine gate_callee (f := 16) rfl ?_); refine goesL_ (some 90) rfl rfl Tryd.func16 (by kernel_rfl) rfl #[.agg #[.slice A0 l0.length c0, .slice A1 l1.length c1]] rfl (by (try simp only [List.map_toArray, List.map_cons, List.map_nil]); first | done | rfl) ?_; refine (own_tb (HA.out.below HB.out) SA.out ((HG.out.below HB.out).beh)).mono ?_; rintro e wr_ ⟨Ao4, co4, Bo4, do4, rfl, ht, hb⟩; refine ⟨_, rfl, ?_⟩; have T1 := Aside0.mk (ht); replace BK3 := Aside0.mk (blk_below BK3.out hb); replace BK4 := Aside0.mk (blk_below BK4.out hb); replace HB := Aside0.mk (below_step HB.out hb); clear hb; clear ht) | ((with_reducible refine gate_callee (f := 36) rfl ?_); refine goesL_ (some 93) rfl rfl Tryd.func36 (by kernel_rfl) rfl #[.agg #[.slice Ao4 l0.length co4, .slice Bo4 l1.length do4], .int .i64 (last + 1)] rfl (by (try simp only [List.map_toArray, List.map_cons, List.map_nil]); first | done | rfl) ?_; refine (cut_to T1.out HC.out).mono ?_; rintro e ws ⟨Ac, cc, Bc, dc, rfl, ht, hb⟩; refine ⟨_, rfl, ?_⟩; have TC := Aside0.mk (ht); replace BK3 := Aside0.mk (blk_below BK3.out hb); replace BK4 := Aside0.mk (blk_below BK4.out hb); replace HB := Aside0.mk (below_step HB.out hb); clear hb; clear ht T1) | ((with_reducible refine gate_dst (N := 11) rfl ?_); refine box_event ?hg (N := 11) ?hd (cs := #[.slice none 0 0, .slice none 0 0]) (t := 25) ?hr ?_; (case hd => rfl); (case hg => rfl); (case hr => first | (go_simp; done) | (go_simp; rfl)); intro gb11 hg wt hbox hb; have G11 := Aside0.mk (show ws.heap.size ≤ gb11 by rw [hg]; exact Nat.le_refl _); have H11 := Aside0.mk (hb); have BK11 := Aside0.mk (hbox); have hcz11_0 : wt.cell? ⟨gb11, 0, none⟩ = some (.slice none 0 0) := (blk_cell BK11.out 0).trans rfl; have hcz11_1 : wt.cell? ⟨gb11, 1, none⟩ = some (.slice none 0 0) := (blk_cell BK11.out 1).trans rfl; have hfz11_0 := blk_frozen BK11.out 0; have hfz11_1 := blk_frozen BK11.out 1; clear hb hg hbox))
  have HX := below_set (j := 1) (v := .slice Bc rc.length dc) (below_set (j := 0) (v := .slice Ac l0.length cc) H11.out G11.out) G11.out
  replace BK3 := Aside0.mk (blk_below BK3.out HX)
  replace TC := Aside0.mk (TC.out.below HX)
  replace HB := Aside0.mk (below_then HB.out HB.out.size HX)
  replace BK11 := Aside0.mk (blk_put (cs' := #[.slice Ac l0.length cc, .slice Bc rc.length dc]) (blk_put (cs' := #[.slice Ac l0.length cc, .slice none 0 0]) BK11.out 0 _ rfl) 1 _ rfl)
  clear HX H11 G11 BK4 hcz11_0 hcz11_1 hfz11_0 hfz11_1 hcz3_0 hcz3_1 hfz3_0 hfz3_1 hcq_0 hcq_1 hfq_0 hfq_1
  replace BK3 := Aside0.mk (blk_drew BK3.out)
  replace BK11 := Aside0.mk (blk_drew BK11.out)
  replace TC := Aside0.mk (TC.out.drew)
  replace HB := Aside0.mk (below_drew1 HB.out)
  refine start_ (n := 11) (S := fun w' => w'.cell? ⟨gb3, 0, none⟩ = some (.slice A0 l0.length c0) ∧ w'.cell? ⟨gb3, 1, none⟩ = some (.slice A1 l1.length c1)) (ds := []) #[false, false, false, false, false, false, false, false, false, false, false] (by kernel_rfl) rfl rfl ⟨(blk_cell BK3.out 0).trans rfl, (blk_cell BK3.out 1).trans rfl⟩ (fun hHeld => ?_); refine with_tabW payofflaw05_TableLike.tab15 payofflaw05_TableLike.bits15 (fun HT_ HW_ => ?_)
  generalize World.drew _ = wu at BK3 BK11 TC HB hHeld ⊢
  refine take_ (i := 0) (N := some 97) (v := ?_) (a' := ?_) #[true, false, false, false, false, false, false, false, false, false, false] rfl rfl (take_ofW HT_.out HW_.out (by kernel_rfl)) (fun _ _ _ h => h) (Or.inl ⟨by rfl, ?_⟩) hHeld ?_ ?_
  rotate_left; (focus (rintro w' ⟨s0, s1⟩; go_simp; with_reducible rfl)); rotate_left; (focus (simp only [Act.put, List.setIfInBounds_toArray, List.set_cons_zero, List.set_cons_succ, i64_w, i32_w]; rfl))
  refine take_ (i := 2) (N := some 99) (v := ?_) (a' := ?_) #[true, false, true, false, false, false, false, false, false, false, false] rfl rfl (take_ofW HT_.out HW_.out (by kernel_rfl)) (fun _ _ _ h => h) (Or.inl ⟨by rfl, ?_⟩) hHeld ?_ ?_
  rotate_left; (focus (rintro w' ⟨s0, s1⟩; go_simp; with_reducible rfl)); rotate_left; (focus (simp only [Act.put, List.setIfInBounds_toArray, List.set_cons_zero, List.set_cons_succ, i64_w, i32_w]; rfl))
  clear hHeld
  refine join_ (σ := (Option Addr × Nat × Option Addr × Nat) × (Option Addr × Nat × Option Addr × Nat) × (Option Addr × Nat × Option Addr × Nat) × Nat) 2 #[true, true, true, true, true, true, true, true, true, false, false] (fun s_ => [(98, .agg #[.slice s_.1.1 l0.length s_.1.2.1, .slice s_.1.2.2.1 l1.length s_.1.2.2.2]), (100, .agg #[.slice s_.2.1.1 l0.length s_.2.1.2.1, .slice s_.2.1.2.2.1 l1.length s_.2.1.2.2.2]), (101, .tuple #[.agg #[.slice s_.2.2.1.1 l0.length s_.2.2.1.2.1, .slice s_.2.2.1.2.2.1 l1.length s_.2.2.1.2.2.2], .int .i64 0]), (96, .tuple #[.agg #[.slice s_.2.2.1.1 l0.length s_.2.2.1.2.1, .slice s_.2.2.1.2.2.1 l1.length s_.2.2.1.2.2.2], .int .i64 0]), (102, .agg #[.slice s_.2.2.1.1 l0.length s_.2.2.1.2.1, .slice s_.2.2.1.2.2.1 l1.length s_.2.2.1.2.2.2]), (103, .int .i64 0), (13, .pointer (some ⟨s_.2.2.2, 0, none⟩))]) (fun s_ w' => (w'.heap[gb3]? = some (.cells #[.slice A0 l0.length c0, .slice A1 l1.length c1] 25 (0, 0))) ∧ (w'.heap[gb11]? = some (.cells #[.slice Ac l0.length cc, .slice Bc rc.length dc] 25 (0, 0))) ∧ (TO w' Ac cc l0 Bc dc rc) ∧ (TO w' s_.2.2.1.1 s_.2.2.1.2.1 l0 s_.2.2.1.2.2.1 s_.2.2.1.2.2.2 l1) ∧ (w'.heap[s_.2.2.2]? = some (.cells #[.slice none 0 0, .slice none 0 0] 25 (0, 0))) ∧ (w.heap.size ≤ s_.2.2.2) ∧ (gb3 ≠ s_.2.2.2) ∧ (gb11 ≠ s_.2.2.2) ∧ (Below w.heap.size w w')) ?_ ?_
  rotate_left
  ·intro hJ
   refine two_ (i := 1) (j := 8) (Ni := some 98) (Nj := some 13) #[true, true, true, false, false, false, false, false, false, false, false] #[true, false, true, false, false, false, false, false, true, false, false] rfl rfl rfl rfl (two_of HT_.out (by kernel_rfl)) (by decide) (by decide) (fun K hK => ?_) (fun K hK => ?_)
   ·skip
    refine goes_ Tryd.func16 (by kernel_rfl) rfl #[.agg #[.slice A0 l0.length c0, .slice A1 l1.length c1]] (by rfl) rfl rfl (by (try simp only [List.map_toArray, List.map_cons, List.map_nil]); first | done | rfl) ?_
    refine (own_tb (HA.out.below HB.out) SA.out ((HG.out.below HB.out).beh)).mono ?_
    rintro e wv ⟨A1_, c1_, B1_, d1_, rfl, ht, hb⟩
    refine ⟨_, rfl, ?_⟩
    replace BK3 := Aside0.mk (blk_below BK3.out hb)
    replace BK11 := Aside0.mk (blk_below BK11.out hb)
    replace TC := Aside0.mk (TC.out.below hb)
    replace HB := Aside0.mk (below_step HB.out hb)
    have T1 := Aside0.mk ht
    clear hb ht
    refine hK.out _ _ ⟨(blk_cell BK3.out 0).trans rfl, (blk_cell BK3.out 1).trans rfl⟩ (fun hHeld => ?_)
    clear hK K hHeld
    refine norm_ (a' := ?_) ?_ ?_
    rotate_left; (focus (show Act.put _ (some 98) _ = _; simp only [Act.put, List.setIfInBounds_toArray, List.set_cons_zero, List.set_cons_succ, i64_w, i32_w]; rfl))
    refine two_ (i := 3) (j := 8) (Ni := some 100) (Nj := some 13) #[true, true, true, true, false, false, false, false, false, false, false] #[true, true, true, false, false, false, false, false, true, false, false] rfl rfl rfl rfl (two_of HT_.out (by kernel_rfl)) (by decide) (by decide) (fun K hK => ?_) (fun K hK => ?_)
    ·skip
     refine goes_ Tryd.func16 (by kernel_rfl) rfl #[.agg #[.slice A0 l0.length c0, .slice A1 l1.length c1]] (by rfl) rfl rfl (by (try simp only [List.map_toArray, List.map_cons, List.map_nil]); first | done | rfl) ?_
     refine (own_tb (HA.out.below HB.out) SA.out ((HG.out.below HB.out).beh)).mono ?_
     rintro e wv ⟨A2_, c2_, B2_, d2_, rfl, ht, hb⟩
     refine ⟨_, rfl, ?_⟩
     replace BK3 := Aside0.mk (blk_below BK3.out hb)
     replace BK11 := Aside0.mk (blk_below BK11.out hb)
     replace TC := Aside0.mk (TC.out.below hb)
     replace HB := Aside0.mk (below_step HB.out hb)
     replace T1 := Aside0.mk (T1.out.below hb)
     have T2 := Aside0.mk ht
     clear hb ht
     refine hK.out _ _ ⟨(blk_cell BK3.out 0).trans rfl, (blk_cell BK3.out 1).trans rfl⟩ (fun hHeld => ?_)
     clear hK K hHeld
     refine norm_ (a' := ?_) ?_ ?_
     rotate_left; (focus (show Act.put _ (some 100) _ = _; simp only [Act.put, List.setIfInBounds_toArray, List.set_cons_zero, List.set_cons_succ, i64_w, i32_w]; rfl))
     refine two_ (i := 4) (j := 8) (Ni := some 101) (Nj := some 13) #[true, true, true, true, true, false, false, false, false, false, false] #[true, true, true, true, false, false, false, false, true, false, false] rfl rfl rfl rfl (two_of HT_.out (by kernel_rfl)) (by decide) (by decide) (fun K hK => ?_) (fun K hK => ?_)
     ·skip
      refine goes_ Tryd.func37 (by kernel_rfl) rfl #[.agg #[.slice A1_ l0.length c1_, .slice B1_ l1.length d1_], .agg #[.slice A2_ l0.length c2_, .slice B2_ l1.length d2_]] (by rfl) rfl rfl (by (try simp only [List.map_toArray, List.map_cons, List.map_nil]); first | done | rfl) ?_
      refine (overlay_to T1.out T2.out HOV.out).mono ?_
      rintro e wv ⟨A3_, c3_, B3_, d3_, rfl, ht, hb⟩
      refine ⟨_, rfl, ?_⟩
      replace BK3 := Aside0.mk (blk_below BK3.out hb)
      replace BK11 := Aside0.mk (blk_below BK11.out hb)
      replace TC := Aside0.mk (TC.out.below hb)
      replace HB := Aside0.mk (below_step HB.out hb)
      replace T1 := Aside0.mk (T1.out.below hb)
      replace T2 := Aside0.mk (T2.out.below hb)
      have TX := Aside0.mk ht
      clear hb ht
      refine hK.out _ _ ⟨(blk_cell BK3.out 0).trans rfl, (blk_cell BK3.out 1).trans rfl⟩ (fun hHeld => ?_)
      clear hK K hHeld
      refine norm_ (a' := ?_) ?_ ?_
      rotate_left; (focus (show Act.put _ (some 101) _ = _; simp only [Act.put, List.setIfInBounds_toArray, List.set_cons_zero, List.set_cons_succ, i64_w, i32_w]; rfl))
      refine pure_ (i := 5) (N := some 96) (v := ?_) (a' := ?_) #[true, true, true, true, true, true, false, false, false, false, false] rfl rfl (any_of HT_.out (by kernel_rfl)) (fun _ _ _ h => h) (Or.inl ⟨by rfl, ?_⟩) ?_ ?_
      rotate_left; (focus (intro w'; go_simp; with_reducible rfl)); rotate_left; (focus (simp only [Act.put, List.setIfInBounds_toArray, List.set_cons_zero, List.set_cons_succ, i64_w, i32_w]; rfl))
      refine pure_ (i := 6) (N := some 102) (v := ?_) (a' := ?_) #[true, true, true, true, true, true, true, false, false, false, false] rfl rfl (any_of HT_.out (by kernel_rfl)) (fun _ _ _ h => h) (Or.inl ⟨by rfl, ?_⟩) ?_ ?_
      rotate_left; (focus (intro w'; go_simp; with_reducible rfl)); rotate_left; (focus (simp only [Act.put, List.setIfInBounds_toArray, List.set_cons_zero, List.set_cons_succ, i64_w, i32_w]; rfl))
      refine pure_ (i := 7) (N := some 103) (v := ?_) (a' := ?_) #[true, true, true, true, true, true, true, true, false, false, false] rfl rfl (any_of HT_.out (by kernel_rfl)) (fun _ _ _ h => h) (Or.inl ⟨by rfl, ?_⟩) ?_ ?_
      rotate_left; (focus (intro w'; go_simp; with_reducible rfl)); rotate_left; (focus (simp only [Act.put, List.setIfInBounds_toArray, List.set_cons_zero, List.set_cons_succ, i64_w, i32_w]; rfl))
      refine one_ (i := 8) (N := some 13) #[true, true, true, true, true, true, true, true, true, false, false] rfl rfl (one_of HT_.out (by kernel_rfl)) (by decide) (fun K hK => ?_)
      refine box_step ?hg (N := 13) ?hd (cs := #[.slice none 0 0, .slice none 0 0]) (t := 25) ?hr ?_; (case hd => rfl); (case hg => rfl); (case hr => first | (go_simp; done) | (go_simp; rfl))
      intro gX hg wv hbox hb
      have GX := Aside0.mk (show w.heap.size ≤ gX by rw [hg]; exact HB.out.size)
      have NE3 := Aside0.mk (show gb3 ≠ gX by rw [hg]; exact Nat.ne_of_lt (blk_lt BK3.out))
      have NE11 := Aside0.mk (show gb11 ≠ gX by rw [hg]; exact Nat.ne_of_lt (blk_lt BK11.out))
      replace BK3 := Aside0.mk (blk_below BK3.out hb)
      replace BK11 := Aside0.mk (blk_below BK11.out hb)
      replace TC := Aside0.mk (TC.out.below hb)
      replace HB := Aside0.mk (below_step HB.out hb)
      replace T1 := Aside0.mk (T1.out.below hb)
      replace T2 := Aside0.mk (T2.out.below hb)
      replace TX := Aside0.mk (TX.out.below hb)
      have BX := Aside0.mk hbox
      clear hb hg hbox
      refine hK.out _ _ ⟨(blk_cell BK3.out 0).trans rfl, (blk_cell BK3.out 1).trans rfl⟩ (fun hHeld => ?_)
      clear hK K hHeld
      refine norm_ (a' := ?_) ?_ ?_
      rotate_left; (focus (show Act.put _ (some 13) _ = _; simp only [Act.put, List.setIfInBounds_toArray, List.set_cons_zero, List.set_cons_succ, i64_w, i32_w]; rfl))
      exact norm_ (by first | (simp only [putAll, Act.put, List.setIfInBounds_toArray, List.set_cons_zero, List.set_cons_succ]; done) | (simp only [putAll, Act.put, List.setIfInBounds_toArray, List.set_cons_zero, List.set_cons_succ]; rfl)) (hJ ((A1_, c1_, B1_, d1_), (A2_, c2_, B2_, d2_), (A3_, c3_, B3_, d3_), gX) _ ⟨BK3.out, BK11.out, TC.out, TX.out, BX.out, GX.out, NE3.out, NE11.out, HB.out⟩)
     ·skip
      refine box_step ?hg (N := 13) ?hd (cs := #[.slice none 0 0, .slice none 0 0]) (t := 25) ?hr ?_; (case hd => rfl); (case hg => rfl); (case hr => first | (go_simp; done) | (go_simp; rfl))
      intro gX hg wv hbox hb
      have GX := Aside0.mk (show w.heap.size ≤ gX by rw [hg]; exact HB.out.size)
      have NE3 := Aside0.mk (show gb3 ≠ gX by rw [hg]; exact Nat.ne_of_lt (blk_lt BK3.out))
      have NE11 := Aside0.mk (show gb11 ≠ gX by rw [hg]; exact Nat.ne_of_lt (blk_lt BK11.out))
      replace BK3 := Aside0.mk (blk_below BK3.out hb)
      replace BK11 := Aside0.mk (blk_below BK11.out hb)
      replace TC := Aside0.mk (TC.out.below hb)
      replace HB := Aside0.mk (below_step HB.out hb)
      replace T1 := Aside0.mk (T1.out.below hb)
      replace T2 := Aside0.mk (T2.out.below hb)
      have BX := Aside0.mk hbox
      clear hb hg hbox
      refine hK.out _ _ ⟨(blk_cell BK3.out 0).trans rfl, (blk_cell BK3.out 1).trans rfl⟩ (fun hHeld => ?_)
      clear hK K hHeld
      refine norm_ (a' := ?_) ?_ ?_
      rotate_left; (focus (show Act.put _ (some 13) _ = _; simp only [Act.put, List.setIfInBounds_toArray, List.set_cons_zero, List.set_cons_succ, i64_w, i32_w]; rfl))
      refine one_ (i := 4) (N := some 101) #[true, true, true, true, true, false, false, false, true, false, false] rfl rfl (one_of HT_.out (by kernel_rfl)) (by decide) (fun K hK => ?_)
      refine goes_ Tryd.func37 (by kernel_rfl) rfl #[.agg #[.slice A1_ l0.length c1_, .slice B1_ l1.length d1_], .agg #[.slice A2_ l0.length c2_, .slice B2_ l1.length d2_]] (by rfl) rfl rfl (by (try simp only [List.map_toArray, List.map_cons, List.map_nil]); first | done | rfl) ?_
      refine (overlay_to T1.out T2.out HOV.out).mono ?_
      rintro e wv ⟨A3_, c3_, B3_, d3_, rfl, ht, hb⟩
      refine ⟨_, rfl, ?_⟩
      replace BK3 := Aside0.mk (blk_below BK3.out hb)
      replace BK11 := Aside0.mk (blk_below BK11.out hb)
      replace TC := Aside0.mk (TC.out.below hb)
      replace HB := Aside0.mk (below_step HB.out hb)
      replace T1 := Aside0.mk (T1.out.below hb)
      replace T2 := Aside0.mk (T2.out.below hb)
      replace BX := Aside0.mk (blk_below BX.out hb)
      have TX := Aside0.mk ht
      clear hb ht
      refine hK.out _ _ ⟨(blk_cell BK3.out 0).trans rfl, (blk_cell BK3.out 1).trans rfl⟩ (fun hHeld => ?_)
      clear hK K hHeld
      refine norm_ (a' := ?_) ?_ ?_
      rotate_left; (focus (show Act.put _ (some 101) _ = _; simp only [Act.put, List.setIfInBounds_toArray, List.set_cons_zero, List.set_cons_succ, i64_w, i32_w]; rfl))
      refine pure_ (i := 5) (N := some 96) (v := ?_) (a' := ?_) #[true, true, true, true, true, true, false, false, true, false, false] rfl rfl (any_of HT_.out (by kernel_rfl)) (fun _ _ _ h => h) (Or.inl ⟨by rfl, ?_⟩) ?_ ?_
      rotate_left; (focus (intro w'; go_simp; with_reducible rfl)); rotate_left; (focus (simp only [Act.put, List.setIfInBounds_toArray, List.set_cons_zero, List.set_cons_succ, i64_w, i32_w]; rfl))
      refine pure_ (i := 6) (N := some 102) (v := ?_) (a' := ?_) #[true, true, true, true, true, true, true, false, true, false, false] rfl rfl (any_of HT_.out (by kernel_rfl)) (fun _ _ _ h => h) (Or.inl ⟨by rfl, ?_⟩) ?_ ?_
      rotate_left; (focus (intro w'; go_simp; with_reducible rfl)); rotate_left; (focus (simp only [Act.put, List.setIfInBounds_toArray, List.set_cons_zero, List.set_cons_succ, i64_w, i32_w]; rfl))
      refine pure_ (i := 7) (N := some 103) (v := ?_) (a' := ?_) #[true, true, true, true, true, true, true, true, true, false, false] rfl rfl (any_of HT_.out (by kernel_rfl)) (fun _ _ _ h => h) (Or.inl ⟨by rfl, ?_⟩) ?_ ?_
      rotate_left; (focus (intro w'; go_simp; with_reducible rfl)); rotate_left; (focus (simp only [Act.put, List.setIfInBounds_toArray, List.set_cons_zero, List.set_cons_succ, i64_w, i32_w]; rfl))
      exact norm_ (by first | (simp only [putAll, Act.put, List.setIfInBounds_toArray, List.set_cons_zero, List.set_cons_succ]; done) | (simp only [putAll, Act.put, List.setIfInBounds_toArray, List.set_cons_zero, List.set_cons_succ]; rfl)) (hJ ((A1_, c1_, B1_, d1_), (A2_, c2_, B2_, d2_), (A3_, c3_, B3_, d3_), gX) _ ⟨BK3.out, BK11.out, TC.out, TX.out, BX.out, GX.out, NE3.out, NE11.out, HB.out⟩)
    ·skip
     refine box_step ?hg (N := 13) ?hd (cs := #[.slice none 0 0, .slice none 0 0]) (t := 25) ?hr ?_; (case hd => rfl); (case hg => rfl); (case hr => first | (go_simp; done) | (go_simp; rfl))
     intro gX hg wv hbox hb
     have GX := Aside0.mk (show w.heap.size ≤ gX by rw [hg]; exact HB.out.size)
     have NE3 := Aside0.mk (show gb3 ≠ gX by rw [hg]; exact Nat.ne_of_lt (blk_lt BK3.out))
     have NE11 := Aside0.mk (show gb11 ≠ gX by rw [hg]; exact Nat.ne_of_lt (blk_lt BK11.out))
     replace BK3 := Aside0.mk (blk_below BK3.out hb)
     replace BK11 := Aside0.mk (blk_below BK11.out hb)
     replace TC := Aside0.mk (TC.out.below hb)
     replace HB := Aside0.mk (below_step HB.out hb)
     replace T1 := Aside0.mk (T1.out.below hb)
     have BX := Aside0.mk hbox
     clear hb hg hbox
     refine hK.out _ _ ⟨(blk_cell BK3.out 0).trans rfl, (blk_cell BK3.out 1).trans rfl⟩ (fun hHeld => ?_)
     clear hK K hHeld
     refine norm_ (a' := ?_) ?_ ?_
     rotate_left; (focus (show Act.put _ (some 13) _ = _; simp only [Act.put, List.setIfInBounds_toArray, List.set_cons_zero, List.set_cons_succ, i64_w, i32_w]; rfl))
     refine one_ (i := 3) (N := some 100) #[true, true, true, true, false, false, false, false, true, false, false] rfl rfl (one_of HT_.out (by kernel_rfl)) (by decide) (fun K hK => ?_)
     refine goes_ Tryd.func16 (by kernel_rfl) rfl #[.agg #[.slice A0 l0.length c0, .slice A1 l1.length c1]] (by rfl) rfl rfl (by (try simp only [List.map_toArray, List.map_cons, List.map_nil]); first | done | rfl) ?_
     refine (own_tb (HA.out.below HB.out) SA.out ((HG.out.below HB.out).beh)).mono ?_
     rintro e wv ⟨A2_, c2_, B2_, d2_, rfl, ht, hb⟩
     refine ⟨_, rfl, ?_⟩
     replace BK3 := Aside0.mk (blk_below BK3.out hb)
     replace BK11 := Aside0.mk (blk_below BK11.out hb)
     replace TC := Aside0.mk (TC.out.below hb)
     replace HB := Aside0.mk (below_step HB.out hb)
     replace T1 := Aside0.mk (T1.out.below hb)
     replace BX := Aside0.mk (blk_below BX.out hb)
     have T2 := Aside0.mk ht
     clear hb ht
     refine hK.out _ _ ⟨(blk_cell BK3.out 0).trans rfl, (blk_cell BK3.out 1).trans rfl⟩ (fun hHeld => ?_)
     clear hK K hHeld
     refine norm_ (a' := ?_) ?_ ?_
     rotate_left; (focus (show Act.put _ (some 100) _ = _; simp only [Act.put, List.setIfInBounds_toArray, List.set_cons_zero, List.set_cons_succ, i64_w, i32_w]; rfl))
     refine one_ (i := 4) (N := some 101) #[true, true, true, true, true, false, false, false, true, false, false] rfl rfl (one_of HT_.out (by kernel_rfl)) (by decide) (fun K hK => ?_)
     refine goes_ Tryd.func37 (by kernel_rfl) rfl #[.agg #[.slice A1_ l0.length c1_, .slice B1_ l1.length d1_], .agg #[.slice A2_ l0.length c2_, .slice B2_ l1.length d2_]] (by rfl) rfl rfl (by (try simp only [List.map_toArray, List.map_cons, List.map_nil]); first | done | rfl) ?_
     refine (overlay_to T1.out T2.out HOV.out).mono ?_
     rintro e wv ⟨A3_, c3_, B3_, d3_, rfl, ht, hb⟩
     refine ⟨_, rfl, ?_⟩
     replace BK3 := Aside0.mk (blk_below BK3.out hb)
     replace BK11 := Aside0.mk (blk_below BK11.out hb)
     replace TC := Aside0.mk (TC.out.below hb)
     replace HB := Aside0.mk (below_step HB.out hb)
     replace T1 := Aside0.mk (T1.out.below hb)
     replace T2 := Aside0.mk (T2.out.below hb)
     replace BX := Aside0.mk (blk_below BX.out hb)
     have TX := Aside0.mk ht
     clear hb ht
     refine hK.out _ _ ⟨(blk_cell BK3.out 0).trans rfl, (blk_cell BK3.out 1).trans rfl⟩ (fun hHeld => ?_)
     clear hK K hHeld
     refine norm_ (a' := ?_) ?_ ?_
     rotate_left; (focus (show Act.put _ (some 101) _ = _; simp only [Act.put, List.setIfInBounds_toArray, List.set_cons_zero, List.set_cons_succ, i64_w, i32_w]; rfl))
     refine pure_ (i := 5) (N := some 96) (v := ?_) (a' := ?_) #[true, true, true, true, true, true, false, false, true, false, false] rfl rfl (any_of HT_.out (by kernel_rfl)) (fun _ _ _ h => h) (Or.inl ⟨by rfl, ?_⟩) ?_ ?_
     rotate_left; (focus (intro w'; go_simp; with_reducible rfl)); rotate_left; (focus (simp only [Act.put, List.setIfInBounds_toArray, List.set_cons_zero, List.set_cons_succ, i64_w, i32_w]; rfl))
     refine pure_ (i := 6) (N := some 102) (v := ?_) (a' := ?_) #[true, true, true, true, true, true, true, false, true, false, false] rfl rfl (any_of HT_.out (by kernel_rfl)) (fun _ _ _ h => h) (Or.inl ⟨by rfl, ?_⟩) ?_ ?_
     rotate_left; (focus (intro w'; go_simp; with_reducible rfl)); rotate_left; (focus (simp only [Act.put, List.setIfInBounds_toArray, List.set_cons_zero, List.set_cons_succ, i64_w, i32_w]; rfl))
     refine pure_ (i := 7) (N := some 103) (v := ?_) (a' := ?_) #[true, true, true, true, true, true, true, true, true, false, false] rfl rfl (any_of HT_.out (by kernel_rfl)) (fun _ _ _ h => h) (Or.inl ⟨by rfl, ?_⟩) ?_ ?_
     rotate_left; (focus (intro w'; go_simp; with_reducible rfl)); rotate_left; (focus (simp only [Act.put, List.setIfInBounds_toArray, List.set_cons_zero, List.set_cons_succ, i64_w, i32_w]; rfl))
     exact norm_ (by first | (simp only [putAll, Act.put, List.setIfInBounds_toArray, List.set_cons_zero, List.set_cons_succ]; done) | (simp only [putAll, Act.put, List.setIfInBounds_toArray, List.set_cons_zero, List.set_cons_succ]; rfl)) (hJ ((A1_, c1_, B1_, d1_), (A2_, c2_, B2_, d2_), (A3_, c3_, B3_, d3_), gX) _ ⟨BK3.out, BK11.out, TC.out, TX.out, BX.out, GX.out, NE3.out, NE11.out, HB.out⟩)
   ·skip
    refine box_step ?hg (N := 13) ?hd (cs := #[.slice none 0 0, .slice none 0 0]) (t := 25) ?hr ?_; (case hd => rfl); (case hg => rfl); (case hr => first | (go_simp; done) | (go_simp; rfl))
    intro gX hg wv hbox hb
    have GX := Aside0.mk (show w.heap.size ≤ gX by rw [hg]; exact HB.out.size)
    have NE3 := Aside0.mk (show gb3 ≠ gX by rw [hg]; exact Nat.ne_of_lt (blk_lt BK3.out))
    have NE11 := Aside0.mk (show gb11 ≠ gX by rw [hg]; exact Nat.ne_of_lt (blk_lt BK11.out))
    replace BK3 := Aside0.mk (blk_below BK3.out hb)
    replace BK11 := Aside0.mk (blk_below BK11.out hb)
    replace TC := Aside0.mk (TC.out.below hb)
    replace HB := Aside0.mk (below_step HB.out hb)
    have BX := Aside0.mk hbox
    clear hb hg hbox
    refine hK.out _ _ ⟨(blk_cell BK3.out 0).trans rfl, (blk_cell BK3.out 1).trans rfl⟩ (fun hHeld => ?_)
    clear hK K hHeld
    refine norm_ (a' := ?_) ?_ ?_
    rotate_left; (focus (show Act.put _ (some 13) _ = _; simp only [Act.put, List.setIfInBounds_toArray, List.set_cons_zero, List.set_cons_succ, i64_w, i32_w]; rfl))
    refine one_ (i := 1) (N := some 98) #[true, true, true, false, false, false, false, false, true, false, false] rfl rfl (one_of HT_.out (by kernel_rfl)) (by decide) (fun K hK => ?_)
    refine goes_ Tryd.func16 (by kernel_rfl) rfl #[.agg #[.slice A0 l0.length c0, .slice A1 l1.length c1]] (by rfl) rfl rfl (by (try simp only [List.map_toArray, List.map_cons, List.map_nil]); first | done | rfl) ?_
    refine (own_tb (HA.out.below HB.out) SA.out ((HG.out.below HB.out).beh)).mono ?_
    rintro e wv ⟨A1_, c1_, B1_, d1_, rfl, ht, hb⟩
    refine ⟨_, rfl, ?_⟩
    replace BK3 := Aside0.mk (blk_below BK3.out hb)
    replace BK11 := Aside0.mk (blk_below BK11.out hb)
    replace TC := Aside0.mk (TC.out.below hb)
    replace HB := Aside0.mk (below_step HB.out hb)
    replace BX := Aside0.mk (blk_below BX.out hb)
    have T1 := Aside0.mk ht
    clear hb ht
    refine hK.out _ _ ⟨(blk_cell BK3.out 0).trans rfl, (blk_cell BK3.out 1).trans rfl⟩ (fun hHeld => ?_)
    clear hK K hHeld
    refine norm_ (a' := ?_) ?_ ?_
    rotate_left; (focus (show Act.put _ (some 98) _ = _; simp only [Act.put, List.setIfInBounds_toArray, List.set_cons_zero, List.set_cons_succ, i64_w, i32_w]; rfl))
    refine one_ (i := 3) (N := some 100) #[true, true, true, true, false, false, false, false, true, false, false] rfl rfl (one_of HT_.out (by kernel_rfl)) (by decide) (fun K hK => ?_)
    refine goes_ Tryd.func16 (by kernel_rfl) rfl #[.agg #[.slice A0 l0.length c0, .slice A1 l1.length c1]] (by rfl) rfl rfl (by (try simp only [List.map_toArray, List.map_cons, List.map_nil]); first | done | rfl) ?_
    refine (own_tb (HA.out.below HB.out) SA.out ((HG.out.below HB.out).beh)).mono ?_
    rintro e wv ⟨A2_, c2_, B2_, d2_, rfl, ht, hb⟩
    refine ⟨_, rfl, ?_⟩
    replace BK3 := Aside0.mk (blk_below BK3.out hb)
    replace BK11 := Aside0.mk (blk_below BK11.out hb)
    replace TC := Aside0.mk (TC.out.below hb)
    replace HB := Aside0.mk (below_step HB.out hb)
    replace T1 := Aside0.mk (T1.out.below hb)
    replace BX := Aside0.mk (blk_below BX.out hb)
    have T2 := Aside0.mk ht
    clear hb ht
    refine hK.out _ _ ⟨(blk_cell BK3.out 0).trans rfl, (blk_cell BK3.out 1).trans rfl⟩ (fun hHeld => ?_)
    clear hK K hHeld
    refine norm_ (a' := ?_) ?_ ?_
    rotate_left; (focus (show Act.put _ (some 100) _ = _; simp only [Act.put, List.setIfInBounds_toArray, List.set_cons_zero, List.set_cons_succ, i64_w, i32_w]; rfl))
    refine one_ (i := 4) (N := some 101) #[true, true, true, true, true, false, false, false, true, false, false] rfl rfl (one_of HT_.out (by kernel_rfl)) (by decide) (fun K hK => ?_)
    refine goes_ Tryd.func37 (by kernel_rfl) rfl #[.agg #[.slice A1_ l0.length c1_, .slice B1_ l1.length d1_], .agg #[.slice A2_ l0.length c2_, .slice B2_ l1.length d2_]] (by rfl) rfl rfl (by (try simp only [List.map_toArray, List.map_cons, List.map_nil]); first | done | rfl) ?_
    refine (overlay_to T1.out T2.out HOV.out).mono ?_
    rintro e wv ⟨A3_, c3_, B3_, d3_, rfl, ht, hb⟩
    refine ⟨_, rfl, ?_⟩
    replace BK3 := Aside0.mk (blk_below BK3.out hb)
    replace BK11 := Aside0.mk (blk_below BK11.out hb)
    replace TC := Aside0.mk (TC.out.below hb)
    replace HB := Aside0.mk (below_step HB.out hb)
    replace T1 := Aside0.mk (T1.out.below hb)
    replace T2 := Aside0.mk (T2.out.below hb)
    replace BX := Aside0.mk (blk_below BX.out hb)
    have TX := Aside0.mk ht
    clear hb ht
    refine hK.out _ _ ⟨(blk_cell BK3.out 0).trans rfl, (blk_cell BK3.out 1).trans rfl⟩ (fun hHeld => ?_)
    clear hK K hHeld
    refine norm_ (a' := ?_) ?_ ?_
    rotate_left; (focus (show Act.put _ (some 101) _ = _; simp only [Act.put, List.setIfInBounds_toArray, List.set_cons_zero, List.set_cons_succ, i64_w, i32_w]; rfl))
    refine pure_ (i := 5) (N := some 96) (v := ?_) (a' := ?_) #[true, true, true, true, true, true, false, false, true, false, false] rfl rfl (any_of HT_.out (by kernel_rfl)) (fun _ _ _ h => h) (Or.inl ⟨by rfl, ?_⟩) ?_ ?_
    rotate_left; (focus (intro w'; go_simp; with_reducible rfl)); rotate_left; (focus (simp only [Act.put, List.setIfInBounds_toArray, List.set_cons_zero, List.set_cons_succ, i64_w, i32_w]; rfl))
    refine pure_ (i := 6) (N := some 102) (v := ?_) (a' := ?_) #[true, true, true, true, true, true, true, false, true, false, false] rfl rfl (any_of HT_.out (by kernel_rfl)) (fun _ _ _ h => h) (Or.inl ⟨by rfl, ?_⟩) ?_ ?_
    rotate_left; (focus (intro w'; go_simp; with_reducible rfl)); rotate_left; (focus (simp only [Act.put, List.setIfInBounds_toArray, List.set_cons_zero, List.set_cons_succ, i64_w, i32_w]; rfl))
    refine pure_ (i := 7) (N := some 103) (v := ?_) (a' := ?_) #[true, true, true, true, true, true, true, true, true, false, false] rfl rfl (any_of HT_.out (by kernel_rfl)) (fun _ _ _ h => h) (Or.inl ⟨by rfl, ?_⟩) ?_ ?_
    rotate_left; (focus (intro w'; go_simp; with_reducible rfl)); rotate_left; (focus (simp only [Act.put, List.setIfInBounds_toArray, List.set_cons_zero, List.set_cons_succ, i64_w, i32_w]; rfl))
    exact norm_ (by first | (simp only [putAll, Act.put, List.setIfInBounds_toArray, List.set_cons_zero, List.set_cons_succ]; done) | (simp only [putAll, Act.put, List.setIfInBounds_toArray, List.set_cons_zero, List.set_cons_succ]; rfl)) (hJ ((A1_, c1_, B1_, d1_), (A2_, c2_, B2_, d2_), (A3_, c3_, B3_, d3_), gX) _ ⟨BK3.out, BK11.out, TC.out, TX.out, BX.out, GX.out, NE3.out, NE11.out, HB.out⟩)
  rintro ⟨⟨A1_, c1_, B1_, d1_⟩, ⟨A2_, c2_, B2_, d2_⟩, ⟨A3_, c3_, B3_, d3_⟩, gX⟩ wx ⟨h0_, h1_, h2_, h3_, h4_, h5_, h7_, h8_, h6_⟩
  clear BK3 BK11 TC HB
  have BK3 := Aside0.mk h0_
  have BK11 := Aside0.mk h1_
  have TC := Aside0.mk h2_
  have TX := Aside0.mk h3_
  have BX := Aside0.mk h4_
  have GX := Aside0.mk h5_
  have HB := Aside0.mk h6_
  have NE3 := Aside0.mk h7_
  have NE11 := Aside0.mk h8_
  clear h0_ h1_ h2_ h3_ h4_ h5_ h6_ h7_ h8_
  refine norm_ (a' := ?_) ?_ ?_
  rotate_left
  ·simp only [putAll, Act.put, List.setIfInBounds_toArray, List.set_cons_zero, List.set_cons_succ, i64_w, i32_w]
   rfl
  refine one_ (i := 9) (N := none) #[true, true, true, true, true, true, true, true, true, true, false] rfl rfl (one_of HT_.out (by kernel_rfl)) (by decide) (fun K hK => ?_)
  have hs0 : wx.cell? ⟨gX, 0, none⟩ = some (.slice none 0 0) := (blk_cell BX.out 0).trans rfl
  have hs1 : wx.cell? ⟨gX, 1, none⟩ = some (.slice none 0 0) := (blk_cell BX.out 1).trans rfl
  have hf0 := blk_frozen BX.out 0
  have hf1 := blk_frozen BX.out 1
  refine skip_ (w1 := ?_) (by rfl) rfl ?_ ?_
  rotate_left
  ·go_simp
   rfl
  have m0_ := Aside0.mk (blk_far (p := ⟨gX, 1, none⟩) (blk_far (p := ⟨gX, 0, none⟩) BK3.out NE3.out (.slice A3_ l0.length c3_)) NE3.out (.slice B3_ l1.length d3_))
  have m1_ := Aside0.mk (blk_far (p := ⟨gX, 1, none⟩) (blk_far (p := ⟨gX, 0, none⟩) BK11.out NE11.out (.slice A3_ l0.length c3_)) NE11.out (.slice B3_ l1.length d3_))
  have m2_ := Aside0.mk ((TC.out.set BX.out 0 (.slice A3_ l0.length c3_)).set (blk_put (cs' := #[.slice A3_ l0.length c3_, .slice none 0 0]) BX.out 0 (.slice A3_ l0.length c3_) rfl) 1 (.slice B3_ l1.length d3_))
  have m3_ := Aside0.mk ((TX.out.set BX.out 0 (.slice A3_ l0.length c3_)).set (blk_put (cs' := #[.slice A3_ l0.length c3_, .slice none 0 0]) BX.out 0 (.slice A3_ l0.length c3_) rfl) 1 (.slice B3_ l1.length d3_))
  have m4_ := Aside0.mk (blk_put (cs' := #[.slice A3_ l0.length c3_, .slice B3_ l1.length d3_]) (blk_put (cs' := #[.slice A3_ l0.length c3_, .slice none 0 0]) BX.out 0 (.slice A3_ l0.length c3_) rfl) 1 (.slice B3_ l1.length d3_) rfl)
  have m5_ := Aside0.mk (below_set (j := 1) (v := .slice B3_ l1.length d3_) (below_set (j := 0) (v := .slice A3_ l0.length c3_) HB.out GX.out) GX.out)
  generalize (wx.setCell ⟨gX, 0, none⟩ (.slice A3_ l0.length c3_)).setCell ⟨gX, 1, none⟩ (.slice B3_ l1.length d3_) = wy at m0_ m1_ m2_ m3_ m4_ m5_ ⊢
  clear BK3 BK11 TC TX BX HB hs0 hs1 hf0 hf1
  have BK3 := m0_
  have BK11 := m1_
  have TC := m2_
  have TX := m3_
  have BX := m4_
  have HB := m5_
  clear m0_ m1_ m2_ m3_ m4_ m5_
  refine hK.out _ _ ⟨(blk_cell BK3.out 0).trans rfl, (blk_cell BK3.out 1).trans rfl⟩ (fun hHeld => ?_)
  clear hK K hHeld
  refine pure_ (i := 10) (N := some 14) (v := ?_) (a' := ?_) #[true, true, true, true, true, true, true, true, true, true, true] rfl rfl (any_of HT_.out (by kernel_rfl)) (fun _ _ _ h => h) (Or.inl ⟨by rfl, ?_⟩) ?_ ?_
  rotate_left; (focus (intro w'; go_simp; with_reducible rfl)); rotate_left; (focus (simp only [Act.put, List.setIfInBounds_toArray, List.set_cons_zero, List.set_cons_succ, i64_w, i32_w]; rfl))
  refine done_ (done_of HT_.out (by kernel_rfl)) ?_
  clear HT_ HW_ NE3 NE11 GX
  go_wp2
  replace BK3 := Aside0.mk (blk_drew BK3.out)
  replace BK11 := Aside0.mk (blk_drew BK11.out)
  replace BX := Aside0.mk (blk_drew BX.out)
  replace TC := Aside0.mk (TC.out.drew)
  replace TX := Aside0.mk (TX.out.drew)
  replace HB := Aside0.mk (below_drew1 HB.out)
  refine start_ (n := 19) (S := fun w' => w'.cell? ⟨gb3, 0, none⟩ = some (.slice A0 l0.length c0) ∧ w'.cell? ⟨gb3, 1, none⟩ = some (.slice A1 l1.length c1) ∧ w'.cell? ⟨gb11, 0, none⟩ = some (.slice Ac l0.length cc) ∧ w'.cell? ⟨gb11, 1, none⟩ = some (.slice Bc rc.length dc) ∧ w'.cell? ⟨gX, 0, none⟩ = some (.slice A3_ l0.length c3_) ∧ w'.cell? ⟨gX, 1, none⟩ = some (.slice B3_ l1.length d3_)) (ds := []) #[false, false, false, false, false, false, false, false, false, false, false, false, false, false, false, false, false, false, false] (by kernel_rfl) rfl rfl ⟨(blk_cell BK3.out 0).trans rfl, (blk_cell BK3.out 1).trans rfl, (blk_cell BK11.out 0).trans rfl, (blk_cell BK11.out 1).trans rfl, (blk_cell BX.out 0).trans rfl, (blk_cell BX.out 1).trans rfl⟩ (fun hHeld => ?_); refine with_tabW payofflaw05_TableLike.tab16 payofflaw05_TableLike.bits16 (fun HT_ HW_ => ?_)
  generalize World.drew _ = wz at BK3 BK11 BX TC TX HB hHeld ⊢
  refine pure_ (i := 0) (N := some 104) (v := ?_) (a' := ?_) #[true, false, false, false, false, false, false, false, false, false, false, false, false, false, false, false, false, false, false] rfl rfl (any_of HT_.out (by kernel_rfl)) (fun _ _ _ h => h) (Or.inl ⟨by rfl, ?_⟩) ?_ ?_
  rotate_left; (focus (intro w'; go_simp; with_reducible rfl)); rotate_left; (focus (simp only [Act.put, List.setIfInBounds_toArray, List.set_cons_zero, List.set_cons_succ, i64_w, i32_w]; rfl))
  refine pure_ (i := 1) (N := some 105) (v := ?_) (a' := ?_) #[true, true, false, false, false, false, false, false, false, false, false, false, false, false, false, false, false, false, false] rfl rfl (any_of HT_.out (by kernel_rfl)) (fun _ _ _ h => h) (Or.inl ⟨by rfl, ?_⟩) ?_ ?_
  rotate_left; (focus (intro w'; go_simp; with_reducible rfl)); rotate_left; (focus (simp only [Act.put, List.setIfInBounds_toArray, List.set_cons_zero, List.set_cons_succ, i64_w, i32_w]; rfl))
  refine pure_ (i := 2) (N := some 106) (v := ?_) (a' := ?_) #[true, true, true, false, false, false, false, false, false, false, false, false, false, false, false, false, false, false, false] rfl rfl (any_of HT_.out (by kernel_rfl)) (fun _ _ _ h => h) (Or.inl ⟨by rfl, ?_⟩) ?_ ?_
  rotate_left; (focus (intro w'; go_simp; with_reducible rfl)); rotate_left; (focus (simp only [Act.put, List.setIfInBounds_toArray, List.set_cons_zero, List.set_cons_succ, i64_w, i32_w]; rfl))
  refine take_ (i := 3) (N := some 107) (v := ?_) (a' := ?_) #[true, true, true, true, false, false, false, false, false, false, false, false, false, false, false, false, false, false, false] rfl rfl (take_ofW HT_.out HW_.out (by kernel_rfl)) (fun _ _ _ h => h) (Or.inl ⟨by rfl, ?_⟩) hHeld ?_ ?_
  rotate_left; (focus (rintro w' ⟨s0, s1, s2, s3, s4, s5⟩; go_simp; with_reducible rfl)); rotate_left; (focus (simp only [Act.put, List.setIfInBounds_toArray, List.set_cons_zero, List.set_cons_succ, i64_w, i32_w]; rfl))
  refine take_ (i := 5) (N := some 109) (v := ?_) (a' := ?_) #[true, true, true, true, false, true, false, false, false, false, false, false, false, false, false, false, false, false, false] rfl rfl (take_ofW HT_.out HW_.out (by kernel_rfl)) (fun _ _ _ h => h) (Or.inl ⟨by rfl, ?_⟩) hHeld ?_ ?_
  rotate_left; (focus (rintro w' ⟨s0, s1, s2, s3, s4, s5⟩; go_simp; with_reducible rfl)); rotate_left; (focus (simp only [Act.put, List.setIfInBounds_toArray, List.set_cons_zero, List.set_cons_succ, i64_w, i32_w]; rfl))
  refine pure_ (i := 6) (N := some 110) (v := ?_) (a' := ?_) #[true, true, true, true, false, true, true, false, false, false, false, false, false, false, false, false, false, false, false] rfl rfl (any_of HT_.out (by kernel_rfl)) (fun _ _ _ h => h) (Or.inl ⟨by rfl, ?_⟩) ?_ ?_
  rotate_left; (focus (intro w'; go_simp; with_reducible rfl)); rotate_left; (focus (simp only [Act.put, List.setIfInBounds_toArray, List.set_cons_zero, List.set_cons_succ, i64_w, i32_w]; rfl))
  refine one_ (i := 4) (N := some 108) #[true, true, true, true, true, true, true, false, false, false, false, false, false, false, false, false, false, false, false] rfl rfl (one_of HT_.out (by kernel_rfl)) (by decide) (fun K hK => ?_)
  refine goes_ Tryd.func16 (by kernel_rfl) rfl #[.agg #[.slice A0 l0.length c0, .slice A1 l1.length c1]] (by rfl) rfl rfl (by (try simp only [List.map_toArray, List.map_cons, List.map_nil]); first | done | rfl) ?_
  refine (own_tb (HA.out.below HB.out) SA.out ((HG.out.below HB.out).beh)).mono ?_
  rintro e wo5 ⟨Ao5, co5, Bo5, do5, rfl, ht, hb⟩
  refine ⟨_, rfl, ?_⟩
  have T5 := Aside0.mk (ht)
  replace BK3 := Aside0.mk (blk_below BK3.out hb)
  replace BK11 := Aside0.mk (blk_below BK11.out hb)
  replace BX := Aside0.mk (blk_below BX.out hb)
  replace TC := Aside0.mk (TC.out.below hb)
  replace TX := Aside0.mk (TX.out.below hb)
  replace HB := Aside0.mk (below_step HB.out hb)
  clear hb
  clear ht
  refine hK.out _ _ ⟨(blk_cell BK3.out 0).trans rfl, (blk_cell BK3.out 1).trans rfl, (blk_cell BK11.out 0).trans rfl, (blk_cell BK11.out 1).trans rfl, (blk_cell BX.out 0).trans rfl, (blk_cell BX.out 1).trans rfl⟩ (fun hHeld => ?_)
  clear hK K
  refine norm_ (a' := ?_) ?_ ?_
  rotate_left; (focus (show Act.put _ (some 108) _ = _; simp only [Act.put, List.setIfInBounds_toArray, List.set_cons_zero, List.set_cons_succ, i64_w, i32_w]; rfl))
  refine one_ (i := 7) (N := some 111) #[true, true, true, true, true, true, true, true, false, false, false, false, false, false, false, false, false, false, false] rfl rfl (one_of HT_.out (by kernel_rfl)) (by decide) (fun K hK => ?_)
  refine goes_ Tryd.func17 (by kernel_rfl) rfl #[.agg #[.slice Ao5 l0.length co5, .slice Bo5 l1.length do5], .agg #[.slice Ac l0.length cc, .slice Bc rc.length dc], .int .i64 last] (by rfl) rfl rfl (by (try simp only [List.map_toArray, List.map_cons, List.map_nil]); first | done | rfl) ?_
  refine (agree_is T5.out TC.out.tb SA.out.a ⟨SA.out.a.nm, SA.out.a.ln, HCR.out.2⟩ last HCR.out.1).mono ?_
  rintro e wz1 ⟨rfl, hb⟩
  refine ⟨_, rfl, ?_⟩
  replace BK3 := Aside0.mk (blk_below BK3.out hb)
  replace BK11 := Aside0.mk (blk_below BK11.out hb)
  replace BX := Aside0.mk (blk_below BX.out hb)
  replace TC := Aside0.mk (TC.out.below hb)
  replace TX := Aside0.mk (TX.out.below hb)
  replace HB := Aside0.mk (below_step HB.out hb)
  clear hb
  clear T5
  refine hK.out _ _ ⟨(blk_cell BK3.out 0).trans rfl, (blk_cell BK3.out 1).trans rfl, (blk_cell BK11.out 0).trans rfl, (blk_cell BK11.out 1).trans rfl, (blk_cell BX.out 0).trans rfl, (blk_cell BX.out 1).trans rfl⟩ (fun hHeld => ?_)
  clear hK K
  refine norm_ (a' := ?_) ?_ ?_
  rotate_left; (focus (show Act.put _ (some 111) _ = _; simp only [Act.put, List.setIfInBounds_toArray, List.set_cons_zero, List.set_cons_succ, i64_w, i32_w]; rfl))
  refine pure_ (i := 8) (N := some 112) (v := ?_) (a' := ?_) #[true, true, true, true, true, true, true, true, true, false, false, false, false, false, false, false, false, false, false] rfl rfl (any_of HT_.out (by kernel_rfl)) (fun _ _ _ h => h) (Or.inl ⟨by rfl, ?_⟩) ?_ ?_
  rotate_left; (focus (intro w'; go_simp; with_reducible rfl)); rotate_left; (focus (simp only [Act.put, List.setIfInBounds_toArray, List.set_cons_zero, List.set_cons_succ, i64_w, i32_w]; rfl))
  refine pure_ (i := 9) (N := some 113) (v := ?_) (a' := ?_) #[true, true, true, true, true, true, true, true, true, true, false, false, false, false, false, false, false, false, false] rfl rfl (any_of HT_.out (by kernel_rfl)) (fun _ _ _ h => h) (Or.inl ⟨by rfl, ?_⟩) ?_ ?_
  rotate_left; (focus (intro w'; go_simp; with_reducible rfl)); rotate_left; (focus (simp only [Act.put, List.setIfInBounds_toArray, List.set_cons_zero, List.set_cons_succ, i64_w, i32_w]; rfl))
  refine pure_ (i := 10) (N := some 114) (v := ?_) (a' := ?_) #[true, true, true, true, true, true, true, true, true, true, true, false, false, false, false, false, false, false, false] rfl rfl (any_of HT_.out (by kernel_rfl)) (fun _ _ _ h => h) (Or.inl ⟨by rfl, ?_⟩) ?_ ?_
  rotate_left; (focus (intro w'; go_simp; with_reducible rfl)); rotate_left; (focus (simp only [Act.put, List.setIfInBounds_toArray, List.set_cons_zero, List.set_cons_succ, i64_w, i32_w]; rfl))
  refine pure_ (i := 11) (N := some 115) (v := ?_) (a' := ?_) #[true, true, true, true, true, true, true, true, true, true, true, true, false, false, false, false, false, false, false] rfl rfl (any_of HT_.out (by kernel_rfl)) (fun _ _ _ h => h) (Or.inl ⟨by rfl, ?_⟩) ?_ ?_
  rotate_left; (focus (intro w'; go_simp; with_reducible rfl)); rotate_left; (focus (simp only [Act.put, List.setIfInBounds_toArray, List.set_cons_zero, List.set_cons_succ, i64_w, i32_w]; rfl))
  refine pure_ (i := 12) (N := some 116) (v := ?_) (a' := ?_) #[true, true, true, true, true, true, true, true, true, true, true, true, true, false, false, false, false, false, false] rfl rfl (any_of HT_.out (by kernel_rfl)) (fun _ _ _ h => h) (Or.inl ⟨by rfl, ?_⟩) ?_ ?_
  rotate_left; (focus (intro w'; go_simp; with_reducible rfl)); rotate_left; (focus (simp only [Act.put, List.setIfInBounds_toArray, List.set_cons_zero, List.set_cons_succ, i64_w, i32_w]; rfl))
  refine pure_ (i := 13) (N := some 117) (v := ?_) (a' := ?_) #[true, true, true, true, true, true, true, true, true, true, true, true, true, true, false, false, false, false, false] rfl rfl (any_of HT_.out (by kernel_rfl)) (fun _ _ _ h => h) (Or.inl ⟨by rfl, ?_⟩) ?_ ?_
  rotate_left; (focus (intro w'; go_simp; with_reducible rfl)); rotate_left; (focus (simp only [Act.put, List.setIfInBounds_toArray, List.set_cons_zero, List.set_cons_succ, i64_w, i32_w]; rfl))
  refine take_ (i := 14) (N := some 118) (v := ?_) (a' := ?_) #[true, true, true, true, true, true, true, true, true, true, true, true, true, true, true, false, false, false, false] rfl rfl (take_ofW HT_.out HW_.out (by kernel_rfl)) (fun _ _ _ h => h) (Or.inl ⟨by rfl, ?_⟩) hHeld ?_ ?_
  rotate_left; (focus (rintro w' ⟨s0, s1, s2, s3, s4, s5⟩; go_simp; with_reducible rfl)); rotate_left; (focus (simp only [Act.put, List.setIfInBounds_toArray, List.set_cons_zero, List.set_cons_succ, i64_w, i32_w]; rfl))
  refine take_ (i := 15) (N := some 119) (v := ?_) (a' := ?_) #[true, true, true, true, true, true, true, true, true, true, true, true, true, true, true, true, false, false, false] rfl rfl (take_ofW HT_.out HW_.out (by kernel_rfl)) (fun _ _ _ h => h) (Or.inl ⟨by rfl, ?_⟩) hHeld ?_ ?_
  rotate_left; (focus (rintro w' ⟨s0, s1, s2, s3, s4, s5⟩; go_simp; with_reducible rfl)); rotate_left; (focus (simp only [Act.put, List.setIfInBounds_toArray, List.set_cons_zero, List.set_cons_succ, i64_w, i32_w]; rfl))
  obtain ⟨ks, hks⟩ := HL.out.sm
  refine one_ (i := 16) (N := some 120) #[true, true, true, true, true, true, true, true, true, true, true, true, true, true, true, true, true, false, false] rfl rfl (one_of HT_.out (by kernel_rfl)) (by decide) (fun K hK => ?_)
  refine goes_ Tryd.func27 (by kernel_rfl) rfl #[.agg #[.slice A3_ l0.length c3_, .slice B3_ l1.length d3_], .agg #[.slice A0 l0.length c0, .slice A1 l1.length c1]] (by rfl) rfl rfl (by (try simp only [List.map_toArray, List.map_cons, List.map_nil]); first | done | rfl) ?_
  refine (same_tb TX.out.tb (HA.out.below HB.out) hks).mono ?_
  rintro e wz2 ⟨rfl, hb⟩
  refine ⟨_, rfl, ?_⟩
  replace BK3 := Aside0.mk (blk_below BK3.out hb)
  replace BK11 := Aside0.mk (blk_below BK11.out hb)
  replace BX := Aside0.mk (blk_below BX.out hb)
  replace TC := Aside0.mk (TC.out.below hb)
  replace TX := Aside0.mk (TX.out.below hb)
  replace HB := Aside0.mk (below_step HB.out hb)
  clear hb
  refine hK.out _ _ ⟨(blk_cell BK3.out 0).trans rfl, (blk_cell BK3.out 1).trans rfl, (blk_cell BK11.out 0).trans rfl, (blk_cell BK11.out 1).trans rfl, (blk_cell BX.out 0).trans rfl, (blk_cell BX.out 1).trans rfl⟩ (fun hHeld => ?_)
  clear hK K
  refine norm_ (a' := ?_) ?_ ?_
  rotate_left; (focus (show Act.put _ (some 120) _ = _; simp only [Act.put, List.setIfInBounds_toArray, List.set_cons_zero, List.set_cons_succ, i64_w, i32_w]; rfl))
  refine pure_ (i := 17) (N := some 121) (v := ?_) (a' := ?_) #[true, true, true, true, true, true, true, true, true, true, true, true, true, true, true, true, true, true, false] rfl rfl (any_of HT_.out (by kernel_rfl)) (fun _ _ _ h => h) (Or.inl ⟨by rfl, ?_⟩) ?_ ?_
  rotate_left; (focus (intro w'; go_simp; with_reducible rfl)); rotate_left; (focus (simp only [Act.put, List.setIfInBounds_toArray, List.set_cons_zero, List.set_cons_succ, i64_w, i32_w]; rfl))
  refine pure_ (i := 18) (N := some 6) (v := ?_) (a' := ?_) #[true, true, true, true, true, true, true, true, true, true, true, true, true, true, true, true, true, true, true] rfl rfl (any_of HT_.out (by kernel_rfl)) (fun _ _ _ h => h) (Or.inl ⟨by rfl, ?_⟩) ?_ ?_
  rotate_left; (focus (intro w'; go_simp; with_reducible rfl)); rotate_left; (focus (simp only [Act.put, List.setIfInBounds_toArray, List.set_cons_zero, List.set_cons_succ, i64_w, i32_w]; rfl))
  refine done_ (done_of HT_.out (by kernel_rfl)) ?_
  (try go_wp2)
  go_ret
  exact ⟨rfl, HB.out⟩
end Go.Proofs.YtppojbafagneeaaDoor.Pure
