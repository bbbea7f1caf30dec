/- Own text, for this claim: TableLike: what the calls of the law answer, by plain laws; the law for every input. -/
import Derived.Test.YtppojbafagneeaaDoorZLikeWalk
import Derived.Test.YtppojbafagneeaaDoorZTabOpen
import Derived.Test.YtppojbafagneeaaDoorZQSayc
namespace Go.Proofs.YtppojbafagneeaaDoor.Pure
open Go.RowKit Go.Maps Go.ChangeShapes Go.WideShapes Go.Proofs.YtppojbafagneeaaDoor.PTab Go.Proofs.YtppojbafagneeaaDoorW.PrintWords Go.Proofs.YtppojbafagneeaaDoorW.PrintLast Go.Proofs.YtppojbafagneeaaDoorW.PrintMore
set_option linter.unusedVariables false
set_option linter.unusedSimpArgs false
theorem sameNames_ev (l : List ByteArray) (hl : l.length ≤ 9223372036854775806) : Ev (fun k => payofflaw05_sameNames.f k l l) true := by
 unfold payofflaw05_sameNames.f
 refine Ev.pos rfl ?_
 have key : ∀ d i : Nat, i + d = l.length → Ev (fun k => payofflaw05_sameNames.l0 k l l (i : Int)) true := by
  intro d
  induction d with
  | zero => intro i hi; exact Ev.step (fun k => payofflaw05_sameNames.l0.eq_2 ..) (Ev.neg (by omega) (Ev.ret rfl))
  | succ d ih =>
   intro i hi
   refine Ev.step (fun k => payofflaw05_sameNames.l0.eq_2 ..) (Ev.pos (by omega) (Ev.pos (by omega) (Ev.pos (by omega) (Ev.pos rfl ?_))))
   rw [w64n i (by omega)]
   exact ih (i + 1) (by omega)
 exact key l.length 0 (by omega)
theorem sameRow_ev (l : List S52) (hl : l.length ≤ 9223372036854775806) : Ev (fun k => payofflaw05_sameRow.f k l l) true := by
 unfold payofflaw05_sameRow.f
 refine Ev.pos rfl ?_
 have key : ∀ d i : Nat, i + d = l.length → Ev (fun k => payofflaw05_sameRow.l0 k l l (i : Int)) true := by
  intro d
  induction d with
  | zero => intro i hi; exact Ev.step (fun k => payofflaw05_sameRow.l0.eq_2 ..) (Ev.neg (by omega) (Ev.ret rfl))
  | succ d ih =>
   intro i hi
   refine Ev.step (fun k => payofflaw05_sameRow.l0.eq_2 ..) (Ev.pos (by omega) (Ev.pos (by omega) (Ev.pos (by omega) (Ev.neg (by simp) ?_))))
   rw [w64n i (by omega)]
   exact ih (i + 1) (by omega)
 exact key l.length 0 (by omega)
theorem sameRows_ev (l : List (List S52)) (hl : l.length ≤ 9223372036854775806) (hr : ∀ r ∈ l, r.length ≤ 9223372036854775806) : Ev (fun k => payofflaw05_sameRows.f k l l) true := by
 unfold payofflaw05_sameRows.f
 refine Ev.pos rfl ?_
 have key : ∀ d i : Nat, i + d = l.length → Ev (fun k => payofflaw05_sameRows.l0 k l l (i : Int)) true := by
  intro d
  induction d with
  | zero => intro i hi; exact Ev.step (fun k => payofflaw05_sameRows.l0.eq_2 ..) (Ev.neg (by omega) (Ev.ret rfl))
  | succ d ih =>
   intro i hi
   have hb := sameRow_ev (rd_L4 l (i : Int)) (by rw [rdL_get l i (by omega)]; exact hr _ (List.getElem_mem _))
   refine Ev.step (fun k => payofflaw05_sameRows.l0.eq_2 ..) (Ev.pos (by omega) (Ev.pos (by omega) (Ev.pos (by omega) (Ev.bind hb (Ev.pos rfl ?_)))))
   rw [w64n i (by omega)]
   exact ih (i + 1) (by omega)
 exact key l.length 0 (by omega)
theorem same_ev (l0 : List ByteArray) (l1 : List (List S52)) (h0 : l0.length ≤ 9223372036854775806) (h1 : l1.length ≤ 9223372036854775806) (hr : ∀ r ∈ l1, r.length ≤ 9223372036854775806) : Ev (fun k => payofflaw05_same.f k l0 l1 l0 l1) true := by
 unfold payofflaw05_same.f
 exact Ev.bind (sameNames_ev l0 h0) (Ev.pos rfl (Ev.bind (sameRows_ev l1 h1 hr) (Ev.ret rfl)))
section
variable {H : Type} {enc : TypeId × Value → H} {W : World} {spare : Nat → Bool} {held : Bool}
theorem cells_open_w {fuel : Nat} {v : Value} {y : DataW H × List MemPlace} (h : DataW.trod enc Tryd.prog W 0 spare held fuel 54 [v] = some y) (hw : WOk Tryd.prog 54 y.1) :
  ∃ A c l, v = .slice A l.length c ∧ l.length ≤ c ∧ k52.C W A l.length l ∧ l.length * 16 ≤ 140737488351232 ∧ ∀ x ∈ l, -9223372036854775808 ≤ x.f1 ∧ x.f1 ≤ 9223372036854775807 :=
 row_open z52 k52 (by decide) (fun x => -9223372036854775808 ≤ x.f1 ∧ x.f1 ≤ 9223372036854775807) Tryd.underlying54 (by kernel_rfl) (by kernel_rfl) (by decide) (fun n cs y hl h hw => by
  obtain ⟨y0, y1, m, -, hlen, h0, h1⟩ := trod_struct2 Tryd.underlying52 h
  obtain ⟨b, e0, -⟩ := DataW.trod_bool Tryd.underlying4 h0
  obtain ⟨z, e1, -, hz⟩ := DataW.trod_int Tryd.underlying3 h1
  have hC4 : Tryd.prog.cellsOf 4 = 1 := by kernel_rfl
  have hC3 : Tryd.prog.cellsOf 3 = 1 := by kernel_rfl
  have e0 : (cs.drop 0).take (Tryd.prog.cellsOf 4) = [.bool b] := e0
  have e1 : (cs.drop 1).take (Tryd.prog.cellsOf 3) = [.int .i64 z] := e1
  rw [hC4] at e0
  rw [hC3] at e1
  have hl : cs.length = 2 := hl
  rcases cs with _ | ⟨u, _ | ⟨v, _ | ⟨x, r⟩⟩⟩
  ·cases hl
  ·cases hl
  ·have g0 : u = .bool b := (List.cons.inj e0).1
   have g1 : v = .int .i64 z := (List.cons.inj e1).1
   subst g0
   subst g1
   exact ⟨⟨b, z⟩, k52_mk W _, wf64 hz⟩
  ·simp at hl) h hw
theorem rows_open_w {fuel : Nat} {v : Value} {y : DataW H × List MemPlace} (h : DataW.trod enc Tryd.prog W 0 spare held fuel 23 [v] = some y) (hw : WOk Tryd.prog 23 y.1) :
  ∃ A c l, v = .slice A l.length c ∧ l.length ≤ c ∧ (Kd.slice 52 k52).C W A l.length l ∧ l.length * 24 ≤ 140737488351232 ∧ ∀ x ∈ l, x.length * 16 ≤ 140737488351232 ∧ ∀ c ∈ x, -9223372036854775808 ≤ c.f1 ∧ c.f1 ≤ 9223372036854775807 :=
 row_open ([] : List S52) (Kd.slice 52 k52) (show 0 < 1 by decide) (fun x => x.length * 16 ≤ 140737488351232 ∧ ∀ c ∈ x, -9223372036854775808 ≤ c.f1 ∧ c.f1 ≤ 9223372036854775807) Tryd.underlying23 (by kernel_rfl) (by kernel_rfl) (by decide) (fun n cs y hl h hw => by
  have hl : cs.length = 1 := hl
  obtain ⟨u, rfl⟩ := List.length_eq_one_iff.1 hl
  obtain ⟨A, c, l, rfl, h1, h2, h3, h4⟩ := cells_open_w h hw
  exact ⟨l, ⟨A, c, rfl, h1, h2⟩, h3, h4⟩) h hw
set_option maxRecDepth 100000 in
theorem open_tabw {r : Reach} {b0 : Nat} {v : Value} {d : DataW H} {p : List MemPlace} (hv : Value.okWide Tryd.prog W r b0 25 v) (hw : WOk Tryd.prog 25 d) (h : DataW.Trod enc Tryd.prog W 0 spare held 25 v d p) :
  ∃ A0 c0 l0 A1 c1 l1, v = .agg #[.slice A0 l0.length c0, .slice A1 l1.length c1] ∧ Kd.string.C W A0 l0.length l0 ∧ l0.length ≤ c0 ∧ (Kd.slice 52 k52).C W A1 l1.length l1 ∧ l1.length ≤ c1 ∧
   l0.length * 16 ≤ 140737488351232 ∧ (∀ n ∈ l0, n.size ≤ 140737488351232) ∧ l1.length * 24 ≤ 140737488351232 ∧ (∀ x ∈ l1, x.length * 16 ≤ 140737488351232 ∧ ∀ c ∈ x, -9223372036854775808 ≤ c.f1 ∧ c.f1 ≤ 9223372036854775807) := by
 obtain ⟨v0, v1, y0, y1, n, rfl, rfl, -, t0, t1⟩ := Joins.open_agg2 Tryd.underlying25 (by kernel_rfl) (by kernel_rfl) hv h
 have w0 : WOk Tryd.prog 22 y0.1 := WOk.field (j := 0) Tryd.underlying25 hw rfl rfl
 have w1 : WOk Tryd.prog 23 y1.1 := WOk.field (j := 1) Tryd.underlying25 hw rfl rfl
 obtain ⟨A0, c0, l0, rfl, a1, a2, a3, a4⟩ := names_open t0 w0
 obtain ⟨A1, c1, l1, rfl, b1, b2, b3, b4⟩ := rows_open_w t1 w1
 exact ⟨A0, c0, l0, A1, c1, l1, rfl, a2, a1, b2, b1, a3, a4, b3, b4⟩
end
theorem Ev.pos' {α : Type} {c : Prop} {hd : Decidable c} {a b : Nat → Option α} {r : α} (h : c) (k : Ev a r) : Ev (fun n => @ite _ c hd (a n) (b n)) r := by
 simpa only [if_pos h] using k
theorem rdL_at (l : List (List S52)) (j : Nat) (h : j < l.length) : rd_L4 l (j : Int) = l[j] := by
 unfold rd_L4
 rw [Int.toNat_natCast, List.getD_eq_getElem?_getD, List.getElem?_eq_getElem h]; rfl
theorem rdT_at (r : List S52) (j : Nat) (h : j < r.length) : rd_T52 r (j : Int) = r[j] := by
 unfold rd_T52
 rw [Int.toNat_natCast, List.getD_eq_getElem?_getD, List.getElem?_eq_getElem h]; rfl
theorem copied_is {l : List ByteArray} (h : l.length ≤ 17592186044416) : table_copied.f l = some l := by
 unfold table_copied.f
 rw [if_pos (by omega), if_pos (by rw [Int.toNat_natCast]; exact h)]
theorem copiedRow_is {l : List S52} (h : l.length ≤ 17592186044416) : table_copiedRow.f l = some l := by
 unfold table_copiedRow.f
 rw [if_pos (by omega), if_pos (by rw [Int.toNat_natCast]; exact h)]
theorem valid_ev0 {l0 : List ByteArray} {l1 : List (List S52)} (hs : SmallT l0 l1) (hv : validT l0 l1 = 0) : Ev (fun k => table_Valid.f k l0 l1) 0 := by
 have h := validT_ev l0 l1 hs
 rw [hv] at h; exact h
theorem cut_ev {l0 : List ByteArray} {l1 : List (List S52)} (hs : SmallT l0 l1) (hv : validT l0 l1 = 0) (n : Int) (hn : 0 ≤ n) : Ev (fun k => table_Cut.f k l0 l1 n) (l0, l1.take n.toNat, 0) := by
 obtain ⟨a0, a1, a2, a3⟩ := valid_lens hv
 have key : ∀ y : List (List S52), y.length ≤ 4096 → (∀ r ∈ y, r.length ≤ 64) → ∀ d i : Nat, i + d = y.length → Ev (fun k => table_Cut.l0 k y (y.length : Int) (i : Int) l0 (y.take i)) (l0, y, 0) := by
  intro y hy hr d
  induction d with
  | zero => intro i hi; exact Ev.step (fun k => table_Cut.l0.eq_2 ..) (Ev.neg (by omega) (Ev.ret (by rw [List.take_of_length_le (by omega)])))
  | succ d ih =>
   intro i hi
   have hl : rd_L4 y (i : Int) = y[i] := rdL_at y i (by omega)
   refine Ev.step (fun k => table_Cut.l0.eq_2 ..) (Ev.pos (by omega) (Ev.pos (by omega) (Ev.pos (by omega) (Ev.call (copiedRow_is (by rw [hl]; have := hr _ (List.getElem_mem (show i < y.length by omega)); omega)) (Ev.pos (by rw [List.length_take]; omega) ?_)))))
   rw [w64n i (by omega), hl, ← List.take_succ_eq_append_getElem (by omega)]
   exact ih (i + 1) (by omega)
 have fin : ∀ m : Nat, m ≤ l1.length → l1.take n.toNat = l1.take m → Ev (fun k => if 0 ≤ (m : Int) then (if (m : Int) ≤ (l1.length : Int) then ((some (l1.take (m : Int).toNat : List (List (S52)))).bind fun y235 => (table_Cut.l0 k y235 (y235.length : Int) 0 l0 ([] : List (List (S52))))) else none) else none) (l0, l1.take n.toNat, 0) := by
  intro m hm e
  refine Ev.pos (by omega) (Ev.pos (by omega) (Ev.call rfl ?_))
  rw [Int.toNat_natCast, e]
  exact key (l1.take m) (by rw [List.length_take]; omega) (fun r hr => by rw [a3 r (List.mem_of_mem_take hr)]; exact a0) (l1.take m).length 0 (by omega)
 have hmn : ∃ m : Nat, mn n (l1.length : Int) = (m : Int) ∧ m ≤ l1.length ∧ l1.take n.toNat = l1.take m := by
  unfold mn
  split
  ·exact ⟨l1.length, rfl, Nat.le_refl _, by rw [List.take_of_length_le (Nat.le_refl _), List.take_of_length_le (by omega)]⟩
  ·exact ⟨n.toNat, by omega, by omega, rfl⟩
 obtain ⟨m, e1, e2, e3⟩ := hmn
 unfold table_Cut.f
 refine Ev.neg (by omega) (Ev.bind (valid_ev0 hs hv) (Ev.pos rfl (Ev.call (copied_is (by omega)) ?_)))
 rw [e1]
 exact fin m e2 e3
def ovC (l0 : List ByteArray) (l1 : List (List S52)) (m0 : List ByteArray) (m1 : List (List S52)) (d : Nat) (n : ByteArray) : S52 :=
 if (cellC m0 m1 n (d : Int)).f0 = true then cellC m0 m1 n (d : Int) else cellC l0 l1 n (d : Int)
def ovNames (l0 m0 : List ByteArray) : List ByteArray := l0 ++ m0.filter (fun n => !has (colD l0 0 (.map [])) (keyS n))
def ovRows (l0 : List ByteArray) (l1 : List (List S52)) (m0 : List ByteArray) (m1 : List (List S52)) : List (List S52) :=
 (List.range (max l1.length m1.length)).map (fun d => (ovNames l0 m0).map (ovC l0 l1 m0 m1 d))
theorem vcell_is {l0 : List ByteArray} {l1 : List (List S52)} {n : ByteArray} {d : Int} (h : n.size ≤ 140737488351232) : table_view_cell.f l0 l1 n d = some ((cellC l0 l1 n d).f0, (cellC l0 l1 n d).f1) := by
 unfold table_view_cell.f
 rw [if_pos h]
theorem SmallT.n {l0 : List ByteArray} {l1 : List (List S52)} (h : SmallT l0 l1) : SmallN l0 := ⟨h.2.1, by have := h.1; omega⟩
theorem set_grow {α : Type} (f : ByteArray → α) (z c : α) (l : List ByteArray) (i : Nat) (h : i < l.length) (hc : c = f (nth l i)) : ((l.take i).map f ++ List.replicate (l.length - i) z).set i c = (l.take (i + 1)).map f ++ List.replicate (l.length - (i + 1)) z := by
 rw [List.set_append_right _ _ (by rw [List.length_map, List.length_take]; omega), List.length_map, List.length_take, Nat.min_eq_left (by omega), Nat.sub_self, show l.length - i = (l.length - (i + 1)) + 1 by omega, List.replicate_succ, List.set_cons_zero, List.take_succ_eq_append_getElem h, List.map_append, List.append_assoc, hc, nth_get l i h]
 rfl
theorem ov_row (l0 : List ByteArray) (l1 : List (List S52)) (m0 : List ByteArray) (m1 : List (List S52)) (ns : List ByteArray) (hn : ns.length ≤ 64) (hz : ∀ n ∈ ns, n.size ≤ 140737488351232) (M : Int) (D : Nat) (acc : List (List S52)) (ha : acc.length < 5864062014805) (R : List ByteArray × List (List S52) × Int)
  (hk : Ev (fun k => table_Overlay.l1 k M (wrap64 ((D : Int) + 1)) l0 l1 m0 m1 ns (acc ++ [ns.map (ovC l0 l1 m0 m1 D)])) R) :
  ∀ d i : Nat, i + d = ns.length → Ev (fun k => table_Overlay.l2 k (D : Int) ((ns.take i).map (ovC l0 l1 m0 m1 D) ++ List.replicate (ns.length - i) z52) M (D : Int) ns (ns.length : Int) (i : Int) l0 l1 m0 m1 ns acc) R := by
 intro d
 induction d with
 | zero =>
  intro i hi
  refine Ev.step (fun k => table_Overlay.l2.eq_2 ..) (Ev.neg (by omega) (Ev.pos ha ?_))
  rw [show ns.length - i = 0 by omega, List.replicate_zero, List.append_nil, List.take_of_length_le (by omega)]
  exact hk
 | succ d ih =>
  intro i hi
  have hsz : (rdOf ByteArray.empty ns (i : Int)).size ≤ 140737488351232 := hz _ (nth_mem ns i (by omega))
  have hlen : ((ns.take i).map (ovC l0 l1 m0 m1 D) ++ List.replicate (ns.length - i) z52).length = ns.length := by simp; omega
  refine Ev.step (fun k => table_Overlay.l2.eq_2 ..) (Ev.pos (by omega) (Ev.pos (by omega) (Ev.pos (by omega) (Ev.call (vcell_is hsz) (Ev.pos (by rw [hlen]; omega) (Ev.call rfl ?_))))))
  rw [w64n i (by omega), Int.toNat_natCast]
  have hget : ∀ c : S52, rd_T52 (((ns.take i).map (ovC l0 l1 m0 m1 D) ++ List.replicate (ns.length - i) z52).set i c) (i : Int) = c := fun c => by
   rw [rdT_at _ i (by rw [List.length_set, hlen]; omega), List.getElem_set_self]
  rw [hget]
  by_cases hc : (cellC m0 m1 (rdOf ByteArray.empty ns (i : Int)) (D : Int)).f0 = true
  ·refine Ev.pos hc ?_
   rw [set_grow (ovC l0 l1 m0 m1 D) z52 _ ns i (by omega) (show _ = ovC l0 l1 m0 m1 D (nth ns i) by unfold ovC nth; rw [if_pos hc])]
   exact ih (i + 1) (by omega)
  ·refine Ev.neg hc (Ev.call (vcell_is hsz) ?_)
   rw [List.set_set, set_grow (ovC l0 l1 m0 m1 D) z52 _ ns i (by omega) (show _ = ovC l0 l1 m0 m1 D (nth ns i) by unfold ovC nth; rw [if_neg hc])]
   exact ih (i + 1) (by omega)
theorem ov_rows (l0 : List ByteArray) (l1 : List (List S52)) (m0 : List ByteArray) (m1 : List (List S52)) (ns : List ByteArray) (hn : ns.length ≤ 64) (hz : ∀ n ∈ ns, n.size ≤ 140737488351232) (M : Nat) (hM : M ≤ 4096) :
  ∀ g d : Nat, d + g = M → Ev (fun k => table_Overlay.l1 k (M : Int) (d : Int) l0 l1 m0 m1 ns ((List.range d).map (fun d => ns.map (ovC l0 l1 m0 m1 d)))) (ns, (List.range M).map (fun d => ns.map (ovC l0 l1 m0 m1 d)), 0) := by
 intro g
 induction g with
 | zero => intro d hd; exact Ev.step (fun k => table_Overlay.l1.eq_2 ..) (Ev.neg (by omega) (Ev.ret (by rw [show d = M by omega])))
 | succ g ih =>
  intro d hd
  refine Ev.step (fun k => table_Overlay.l1.eq_2 ..) (Ev.pos (by omega) (Ev.pos (by omega) (Ev.pos (by rw [Int.toNat_natCast]; omega) ?_)))
  rw [Int.toNat_natCast]
  refine ov_row l0 l1 m0 m1 ns hn hz (M : Int) d _ (by rw [List.length_map, List.length_range]; omega) _ ?_ ns.length 0 (by omega)
  rw [w64n d (by omega), show ((List.range d).map (fun d => ns.map (ovC l0 l1 m0 m1 d)) ++ [ns.map (ovC l0 l1 m0 m1 d)]) = (List.range (d + 1)).map (fun d => ns.map (ovC l0 l1 m0 m1 d)) by rw [List.range_succ, List.map_append]; rfl]
  exact ih (d + 1) (by omega)
theorem overlay_ev {l0 : List ByteArray} {l1 : List (List S52)} {m0 : List ByteArray} {m1 : List (List S52)} (hs : SmallT l0 l1) (hv : validT l0 l1 = 0) (gs : SmallT m0 m1) (gv : validT m0 m1 = 0) :
  Ev (fun k => table_Overlay.f k l0 l1 m0 m1) (if (ovNames l0 m0).length ≤ 64 then (ovNames l0 m0, ovRows l0 l1 m0 m1, 0) else ([], [], 6)) := by
 obtain ⟨a0, a1, a2, a3⟩ := valid_lens hv
 obtain ⟨b0, b1, b2, b3⟩ := valid_lens gv
 have hfl : ∀ l : List ByteArray, l.length ≤ 64 → (l.filter (fun n => !has (colD l0 0 (.map [])) (keyS n))).length ≤ 64 := fun l hl => Nat.le_trans (List.length_filter_le _ _) hl
 have key : ∀ d i : Nat, i + d = m0.length → Ev (fun k => table_Overlay.l0 k m0 (m0.length : Int) (i : Int) l0 l1 m0 m1 l0 l1 m0 m1 (l0 ++ (m0.take i).filter (fun n => !has (colD l0 0 (.map [])) (keyS n))))
   (if (ovNames l0 m0).length ≤ 64 then (ovNames l0 m0, ovRows l0 l1 m0 m1, 0) else ([], [], 6)) := by
  intro d
  induction d with
  | zero =>
   intro i hi
   refine Ev.step (fun k => table_Overlay.l0.eq_2 ..) (Ev.neg (by omega) ?_)
   rw [List.take_of_length_le (by omega)]
   show Ev (fun k => if ((ovNames l0 m0).length : Int) > 64 then _ else table_Overlay.l1 k _ 0 l0 l1 m0 m1 (ovNames l0 m0) []) _
   by_cases h : (ovNames l0 m0).length ≤ 64
   ·rw [if_pos h]
    refine Ev.neg (by omega) ?_
    have hmx : mx (l1.length : Int) (m1.length : Int) = ((max l1.length m1.length : Nat) : Int) := by unfold mx; split <;> omega
    rw [hmx]
    refine ov_rows l0 l1 m0 m1 (ovNames l0 m0) h (fun n hn => ?_) (max l1.length m1.length) (by omega) (max l1.length m1.length) 0 (by omega)
    rcases List.mem_append.1 hn with h | h
    ·have := a2 n h; omega
    ·have := b2 n (List.mem_filter.1 h).1; omega
   ·rw [if_neg h]
    exact Ev.pos (by omega) (Ev.ret rfl)
  | succ d ih =>
   intro i hi
   have hm := hfl (m0.take i) (by rw [List.length_take]; omega)
   refine Ev.step (fun k => table_Overlay.l0.eq_2 ..) (Ev.pos (by omega) (Ev.pos (by omega) (Ev.pos (by omega) ?_)))
   rw [w64n i (by omega)]
   have e : (m0.take (i + 1)).filter (fun n => !has (colD l0 0 (.map [])) (keyS n)) = (m0.take i).filter (fun n => !has (colD l0 0 (.map [])) (keyS n)) ++ [rdOf ByteArray.empty m0 (i : Int)].filter (fun n => !has (colD l0 0 (.map [])) (keyS n)) := by
    rw [List.take_succ_eq_append_getElem (by omega), List.filter_append, show m0[i] = rdOf ByteArray.empty m0 (i : Int) from (nth_get m0 i (by omega)).symm]
   have hi' := ih (i + 1) (by omega)
   rw [e] at hi'
   by_cases h : has (colD l0 0 (.map [])) (keyS (rdOf ByteArray.empty m0 (i : Int))) = true
   ·rw [List.filter_cons_of_neg (by rw [h]; decide), List.filter_nil, List.append_nil] at hi'
    exact Ev.pos h hi'
   ·rw [List.filter_cons_of_pos (by rw [Bool.eq_false_iff.2 h]; decide), List.filter_nil, ← List.append_assoc] at hi'
    exact Ev.neg h (Ev.pos (by rw [List.length_append]; omega) hi')
 have h0 := key m0.length 0 (by omega)
 rw [List.take_zero, List.filter_nil, List.append_nil] at h0
 unfold table_Overlay.f
 refine Ev.pos' ⟨hs.n, gs.n⟩ (Ev.bind (valid_ev0 hs hv) (Ev.pos rfl (Ev.bind (valid_ev0 gs gv) (Ev.pos rfl (Ev.call (copied_is (by omega)) h0)))))
theorem colC_nth {l0 : List ByteArray} (hd : l0.Nodup) (i : Nat) (h : i < l0.length) : colC l0 (nth l0 i) = (i : Int) := by
 obtain ⟨m, e, hm, hn, -⟩ := (colC_at l0 (nth l0 i)).2.2 (nth_mem l0 i h)
 rw [nth_get l0 i h, nth_get l0 m hm] at hn
 rw [e, (List.getElem_inj hd).1 hn]
theorem cellC_nth {l0 : List ByteArray} {l1 : List (List S52)} (hv : validT l0 l1 = 0) (i d : Nat) (h : i < l0.length) (hd : d < l1.length) : ∃ hi : i < l1[d].length, cellC l0 l1 (nth l0 i) (d : Int) = l1[d][i] := by
 obtain ⟨-, -, -, hnd, hr⟩ := (valid_iff l0 l1).1 hv
 obtain ⟨hl, hc⟩ := hr _ (List.getElem_mem hd)
 refine ⟨by omega, ?_⟩
 unfold cellC cellAt
 rw [if_pos (((colD_facts l0).2.1 _).2 (nth_mem l0 i h)), if_pos (by omega), if_pos (by omega), colC_nth hnd i h, rdL_at l1 d hd, if_pos (by omega), rdT_at _ i (by omega)]
 by_cases hf : (l1[d][i]).f0 = true
 ·rw [if_pos hf]
 ·rw [if_neg hf]
  have h0 := Bool.eq_false_iff.2 hf
  have h1 := hc _ (List.getElem_mem (show i < l1[d].length by omega)) h0
  show (⟨false, 0⟩ : S52) = _
  rw [← h0, ← h1]
section
variable {l0 m0 : List ByteArray} {l1 m1 : List (List S52)} {last : Int}
theorem agree_self : agreeB l0 l1 l0 l1 last = true := agreeB_true.2 fun _ _ _ _ _ => rfl
theorem agree_comm : agreeB m0 m1 l0 l1 last = agreeB l0 l1 m0 m1 last := by
 rw [Bool.eq_iff_iff, agreeB_true, agreeB_true]
 exact ⟨fun h d hd hl n hn => (h d (by omega) hl n (Or.symm hn)).symm, fun h d hd hl n hn => (h d (by omega) hl n (Or.symm hn)).symm⟩
theorem agree_le (h : agreeB l0 l1 m0 m1 last = true) (hp : 0 < last) : agreeB l0 l1 m0 m1 (wrap64 (last - 1)) = true := by
 rw [agreeB_true] at h ⊢
 intro d hd hl n hn
 have : wrap64 (last - 1) ≤ last - 1 := by unfold wrap64; omega
 exact h d hd (by omega) n hn
theorem agree_cut (h0 : 0 ≤ last) : agreeB l0 l1 l0 (l1.take (last + 1).toNat) last = true := by
 rw [agreeB_true]
 intro d hd hl n hn
 have hlt : (l1.take (last + 1).toNat).length = min (last + 1).toNat l1.length := List.length_take
 unfold cellC cellAt
 by_cases h : d < l1.length
 ·have e : rd_L4 (l1.take (last + 1).toNat) (d : Int) = rd_L4 l1 (d : Int) := by
   rw [rdL_at _ d (by omega), rdL_at l1 d h, List.getElem_take]
  rw [e]
  simp only [show (d : Int) < (l1.length : Int) by omega, show (d : Int) < ((l1.take (last + 1).toNat).length : Int) by omega, if_true]
 ·simp only [show ¬ (d : Int) < (l1.length : Int) by omega, show ¬ (d : Int) < ((l1.take (last + 1).toNat).length : Int) by omega, if_false]
theorem agree_p1 : agreeB pN pR pN qR 1 = false := by
 refine Bool.eq_false_iff.2 fun h => ?_
 have h1 := agreeB_true.1 h 1 (by decide) (by decide) ⟨#[83, 95, 49]⟩ (Or.inl (List.mem_cons_of_mem _ (List.mem_cons_self ..)))
 have e1 : (cellC pN pR ⟨#[83, 95, 49]⟩ ((1 : Nat) : Int)).f1 = 0 := by kernel_rfl
 have e2 : (cellC pN qR ⟨#[83, 95, 49]⟩ ((1 : Nat) : Int)).f1 = 1 := by kernel_rfl
 rw [h1, e2] at e1
 exact absurd e1 (by decide)
theorem agree_p0 : agreeB pN pR pN qR 0 = true := by
 refine agreeB_true.2 fun d hd hl n hn => ?_
 obtain rfl : d = 0 := by omega
 rfl
theorem ovNames_self : ovNames l0 l0 = l0 := by
 unfold ovNames
 rw [List.filter_eq_nil_iff.2 (fun n hn => by rw [((colD_facts l0).2.1 n).2 hn]; decide), List.append_nil]
theorem ovRows_self (hv : validT l0 l1 = 0) : ovRows l0 l1 l0 l1 = l1 := by
 obtain ⟨a0, a1, a2, a3⟩ := valid_lens hv
 unfold ovRows
 rw [ovNames_self]
 refine List.ext_getElem (by simp) (fun d h1 h2 => ?_)
 rw [List.getElem_map, List.getElem_range]
 refine List.ext_getElem (by rw [List.length_map, a3 _ (List.getElem_mem h2)]) (fun i h3 h4 => ?_)
 rw [List.getElem_map]
 rw [List.length_map] at h3
 obtain ⟨hi, e⟩ := cellC_nth hv i d h3 h2
 rw [nth_get l0 i h3] at e
 unfold ovC
 rw [e]
 exact ite_self _
theorem like_of (hs : SmallT l0 l1) (gs : SmallT m0 m1) : Like l0 l1 m0 m1 last where
 p1 := agree_p1
 p0 := agree_p0
 aa := agree_self
 ba := agree_comm
 le := agree_le
 ov hv := by
  have h := overlay_ev hs hv hs hv
  rw [ovNames_self, ovRows_self hv, if_pos (valid_lens hv).1] at h
  exact h.rounds
 cu hv h0 h1 := by
  obtain ⟨k, hk⟩ := (cut_ev hs hv (last + 1) (by omega)).rounds
  exact ⟨k, _, hk, agree_cut h0, by rw [List.length_take]; have := (valid_lens hv).2.1; omega⟩
 sm := (same_ev l0 l1 (by have := hs.1; omega) (by have := hs.2.2.1; omega) (fun r hr => by have := (hs.2.2.2 r hr).1; omega)).rounds
end
theorem TableLike_walk (A0 : Option Addr) (c0 : Nat) (l0 : List ByteArray) (A1 : Option Addr) (c1 : Nat) (l1 : List (List S52)) (B0 : Option Addr) (d0 : Nat) (m0 : List ByteArray) (B1 : Option Addr) (d1 : Nat) (m1 : List (List S52)) (last : Int) (w : World)
  (h0 : Kd.C Kd.string w A0 l0.length l0) (hc0 : l0.length ≤ c0) (h1 : Kd.C (Kd.slice 52 k52) w A1 l1.length l1) (hc1 : l1.length ≤ c1)
  (b0 : l0.length * 16 ≤ 140737488351232) (b1 : ∀ n ∈ l0, n.size ≤ 140737488351232) (b2 : l1.length * 24 ≤ 140737488351232) (b3 : ∀ r ∈ l1, r.length * 16 ≤ 140737488351232 ∧ ∀ c ∈ r, -9223372036854775808 ≤ c.f1 ∧ c.f1 ≤ 9223372036854775807)
  (g0 : Kd.C Kd.string w B0 m0.length m0) (gc0 : m0.length ≤ d0) (g1 : Kd.C (Kd.slice 52 k52) w B1 m1.length m1) (gc1 : m1.length ≤ d1)
  (e0 : m0.length * 16 ≤ 140737488351232) (e1 : ∀ n ∈ m0, n.size ≤ 140737488351232) (e2 : m1.length * 24 ≤ 140737488351232) (e3 : ∀ r ∈ m1, r.length * 16 ≤ 140737488351232 ∧ ∀ c ∈ r, -9223372036854775808 ≤ c.f1 ∧ c.f1 ≤ 9223372036854775807) (wl : (Lit.int .i64 last).wf = true) (hG : GB w) :
  Calls Tryd.prog 14 #[.agg #[.slice A0 l0.length c0, .slice A1 l1.length c1], .agg #[.slice B0 m0.length d0, .slice B1 m1.length d1], .int .i64 last] w fun e w' => e = .returned (.bool true) ∧ Below w.heap.size w w' := by
 have hs : SmallT l0 l1 := ⟨by omega, b1, by omega, fun r hr => ⟨by have := (b3 r hr).1; omega, (b3 r hr).2⟩⟩
 have gs : SmallT m0 m1 := ⟨by omega, e1, by omega, fun r hr => ⟨by have := (e3 r hr).1; omega, (e3 r hr).2⟩⟩
 exact like_walk A0 c0 l0 A1 c1 l1 B0 d0 m0 B1 d1 m1 last w ⟨h0, hc0, h1, hc1⟩ ⟨g0, gc0, g1, gc1⟩ hs gs (like_of hs gs) hG
end Go.Proofs.YtppojbafagneeaaDoor.Pure
