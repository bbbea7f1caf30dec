/- Own text, for this claim: TableSays: plain laws of Bind to one name, of Missing, of the overlay's and the cut's cells. -/
import Derived.Test.YtppojbafagneeaaDoorZLawTab
import Derived.Test.YtppojbafagneeaaDoorZQSayc
import Derived.Test.YtppojbafagneeaaDoorZQSayl
import Derived.Test.YtppojbafagneeaaDoorZQSaym
namespace Go.Proofs.YtppojbafagneeaaDoor.PTab
open Go.RowKit Go.Proofs.YtppojbafagneeaaDoorW.PrintWords Go.Proofs.YtppojbafagneeaaDoorW.PrintLast Go.Proofs.YtppojbafagneeaaDoorW.PrintMore
theorem eqA68 (d : Nat) (w : World) (x0 y0 : ByteArray) (x1 y1 : Int) :
  (Op.equalIn (d + 2) 68 (.agg #[.string x0, .int .i64 x1]) (.agg #[.string y0, .int .i64 y1])).run Tryd.prog w = .ok (x0.toList == y0.toList && (x1 == y1)) w := by
 refine eqA_of Tryd.underlying68 (by kernel_rfl) ?_
 refine eqf_cons (by rfl) (by go_simp; rfl) (by go_simp; rfl) (by go_simp) ?_
 exact eqf_last (by rfl) (by go_simp; rfl) (by go_simp; rfl) (by go_simp)
end Go.Proofs.YtppojbafagneeaaDoor.PTab
namespace Go.Proofs.YtppojbafagneeaaDoor.Pure
open Go.RowKit Go.Maps Go.ChangeShapes Go.WideShapes Go.Proofs.YtppojbafagneeaaDoor.PTab Go.Proofs.YtppojbafagneeaaDoorW.PrintWords Go.Proofs.YtppojbafagneeaaDoorW.PrintLast Go.Proofs.YtppojbafagneeaaDoorW.PrintMore
set_option linter.unusedVariables false
set_option linter.unusedSimpArgs false
theorem Ev.pos' {α : Type} {c : Prop} {hd : Decidable c} {a b : Nat → Option α} {r : α} (h : c) (k : Ev a r) : Ev (fun n => @ite _ c hd (a n) (b n)) r := by
 simpa only [if_pos h] using k
theorem rdL_at (l : List (List S52)) (j : Nat) (h : j < l.length) : rd_L4 l (j : Int) = l[j] := by
 unfold rd_L4
 rw [Int.toNat_natCast, List.getD_eq_getElem?_getD, List.getElem?_eq_getElem h]; rfl
theorem rdT_at (r : List S52) (j : Nat) (h : j < r.length) : rd_T52 r (j : Int) = r[j] := by
 unfold rd_T52
 rw [Int.toNat_natCast, List.getD_eq_getElem?_getD, List.getElem?_eq_getElem h]; rfl
theorem copied_is {l : List ByteArray} (h : l.length ≤ 17592186044416) : table_copied.f l = some l := by
 unfold table_copied.f
 rw [if_pos (by omega), if_pos (by rw [Int.toNat_natCast]; exact h)]
theorem copiedRow_is {l : List S52} (h : l.length ≤ 17592186044416) : table_copiedRow.f l = some l := by
 unfold table_copiedRow.f
 rw [if_pos (by omega), if_pos (by rw [Int.toNat_natCast]; exact h)]
theorem valid_ev0 {l0 : List ByteArray} {l1 : List (List S52)} (hs : SmallT l0 l1) (hv : validT l0 l1 = 0) : Ev (fun k => table_Valid.f k l0 l1) 0 := by
 have h := validT_ev l0 l1 hs
 rw [hv] at h; exact h
theorem cut_ev {l0 : List ByteArray} {l1 : List (List S52)} (hs : SmallT l0 l1) (hv : validT l0 l1 = 0) (n : Int) (hn : 0 ≤ n) : Ev (fun k => table_Cut.f k l0 l1 n) (l0, l1.take n.toNat, 0) := by
 obtain ⟨a0, a1, a2, a3⟩ := valid_lens hv
 have key : ∀ y : List (List S52), y.length ≤ 4096 → (∀ r ∈ y, r.length ≤ 64) → ∀ d i : Nat, i + d = y.length → Ev (fun k => table_Cut.l0 k y (y.length : Int) (i : Int) l0 (y.take i)) (l0, y, 0) := by
  intro y hy hr d
  induction d with
  | zero => intro i hi; exact Ev.step (fun k => table_Cut.l0.eq_2 ..) (Ev.neg (by omega) (Ev.ret (by rw [List.take_of_length_le (by omega)])))
  | succ d ih =>
   intro i hi
   have hl : rd_L4 y (i : Int) = y[i] := rdL_at y i (by omega)
   refine Ev.step (fun k => table_Cut.l0.eq_2 ..) (Ev.pos (by omega) (Ev.pos (by omega) (Ev.pos (by omega) (Ev.call (copiedRow_is (by rw [hl]; have := hr _ (List.getElem_mem (show i < y.length by omega)); omega)) (Ev.pos (by rw [List.length_take]; omega) ?_)))))
   rw [w64n i (by omega), hl, ← List.take_succ_eq_append_getElem (by omega)]
   exact ih (i + 1) (by omega)
 have fin : ∀ m : Nat, m ≤ l1.length → l1.take n.toNat = l1.take m → Ev (fun k => if 0 ≤ (m : Int) then (if (m : Int) ≤ (l1.length : Int) then ((some (l1.take (m : Int).toNat : List (List (S52)))).bind fun y235 => (table_Cut.l0 k y235 (y235.length : Int) 0 l0 ([] : List (List (S52))))) else none) else none) (l0, l1.take n.toNat, 0) := by
  intro m hm e
  refine Ev.pos (by omega) (Ev.pos (by omega) (Ev.call rfl ?_))
  rw [Int.toNat_natCast, e]
  exact key (l1.take m) (by rw [List.length_take]; omega) (fun r hr => by rw [a3 r (List.mem_of_mem_take hr)]; exact a0) (l1.take m).length 0 (by omega)
 have hmn : ∃ m : Nat, mn n (l1.length : Int) = (m : Int) ∧ m ≤ l1.length ∧ l1.take n.toNat = l1.take m := by
  unfold mn
  split
  ·exact ⟨l1.length, rfl, Nat.le_refl _, by rw [List.take_of_length_le (Nat.le_refl _), List.take_of_length_le (by omega)]⟩
  ·exact ⟨n.toNat, by omega, by omega, rfl⟩
 obtain ⟨m, e1, e2, e3⟩ := hmn
 unfold table_Cut.f
 refine Ev.neg (by omega) (Ev.bind (valid_ev0 hs hv) (Ev.pos rfl (Ev.call (copied_is (by omega)) ?_)))
 rw [e1]
 exact fin m e2 e3
def ovC (l0 : List ByteArray) (l1 : List (List S52)) (m0 : List ByteArray) (m1 : List (List S52)) (d : Nat) (n : ByteArray) : S52 :=
 if (cellC m0 m1 n (d : Int)).f0 = true then cellC m0 m1 n (d : Int) else cellC l0 l1 n (d : Int)
def ovNames (l0 m0 : List ByteArray) : List ByteArray := l0 ++ m0.filter (fun n => !has (colD l0 0 (.map [])) (keyS n))
def ovRows (l0 : List ByteArray) (l1 : List (List S52)) (m0 : List ByteArray) (m1 : List (List S52)) : List (List S52) :=
 (List.range (max l1.length m1.length)).map (fun d => (ovNames l0 m0).map (ovC l0 l1 m0 m1 d))
theorem vcell_is {l0 : List ByteArray} {l1 : List (List S52)} {n : ByteArray} {d : Int} (h : n.size ≤ 140737488351232) : table_view_cell.f l0 l1 n d = some ((cellC l0 l1 n d).f0, (cellC l0 l1 n d).f1) := by
 unfold table_view_cell.f
 rw [if_pos h]
theorem SmallT.n {l0 : List ByteArray} {l1 : List (List S52)} (h : SmallT l0 l1) : SmallN l0 := ⟨h.2.1, by have := h.1; omega⟩
theorem set_grow {α : Type} (f : ByteArray → α) (z c : α) (l : List ByteArray) (i : Nat) (h : i < l.length) (hc : c = f (nth l i)) : ((l.take i).map f ++ List.replicate (l.length - i) z).set i c = (l.take (i + 1)).map f ++ List.replicate (l.length - (i + 1)) z := by
 rw [List.set_append_right _ _ (by rw [List.length_map, List.length_take]; omega), List.length_map, List.length_take, Nat.min_eq_left (by omega), Nat.sub_self, show l.length - i = (l.length - (i + 1)) + 1 by omega, List.replicate_succ, List.set_cons_zero, List.take_succ_eq_append_getElem h, List.map_append, List.append_assoc, hc, nth_get l i h]
 rfl
theorem ov_row (l0 : List ByteArray) (l1 : List (List S52)) (m0 : List ByteArray) (m1 : List (List S52)) (ns : List ByteArray) (hn : ns.length ≤ 64) (hz : ∀ n ∈ ns, n.size ≤ 140737488351232) (M : Int) (D : Nat) (acc : List (List S52)) (ha : acc.length < 5864062014805) (R : List ByteArray × List (List S52) × Int)
  (hk : Ev (fun k => table_Overlay.l1 k M (wrap64 ((D : Int) + 1)) l0 l1 m0 m1 ns (acc ++ [ns.map (ovC l0 l1 m0 m1 D)])) R) :
  ∀ d i : Nat, i + d = ns.length → Ev (fun k => table_Overlay.l2 k (D : Int) ((ns.take i).map (ovC l0 l1 m0 m1 D) ++ List.replicate (ns.length - i) z52) M (D : Int) ns (ns.length : Int) (i : Int) l0 l1 m0 m1 ns acc) R := by
 intro d
 induction d with
 | zero =>
  intro i hi
  refine Ev.step (fun k => table_Overlay.l2.eq_2 ..) (Ev.neg (by omega) (Ev.pos ha ?_))
  rw [show ns.length - i = 0 by omega, List.replicate_zero, List.append_nil, List.take_of_length_le (by omega)]
  exact hk
 | succ d ih =>
  intro i hi
  have hsz : (rdOf ByteArray.empty ns (i : Int)).size ≤ 140737488351232 := hz _ (nth_mem ns i (by omega))
  have hlen : ((ns.take i).map (ovC l0 l1 m0 m1 D) ++ List.replicate (ns.length - i) z52).length = ns.length := by simp; omega
  refine Ev.step (fun k => table_Overlay.l2.eq_2 ..) (Ev.pos (by omega) (Ev.pos (by omega) (Ev.pos (by omega) (Ev.call (vcell_is hsz) (Ev.pos (by rw [hlen]; omega) (Ev.call rfl ?_))))))
  rw [w64n i (by omega), Int.toNat_natCast]
  have hget : ∀ c : S52, rd_T52 (((ns.take i).map (ovC l0 l1 m0 m1 D) ++ List.replicate (ns.length - i) z52).set i c) (i : Int) = c := fun c => by
   rw [rdT_at _ i (by rw [List.length_set, hlen]; omega), List.getElem_set_self]
  rw [hget]
  by_cases hc : (cellC m0 m1 (rdOf ByteArray.empty ns (i : Int)) (D : Int)).f0 = true
  ·refine Ev.pos hc ?_
   rw [set_grow (ovC l0 l1 m0 m1 D) z52 _ ns i (by omega) (show _ = ovC l0 l1 m0 m1 D (nth ns i) by unfold ovC nth; rw [if_pos hc])]
   exact ih (i + 1) (by omega)
  ·refine Ev.neg hc (Ev.call (vcell_is hsz) ?_)
   rw [List.set_set, set_grow (ovC l0 l1 m0 m1 D) z52 _ ns i (by omega) (show _ = ovC l0 l1 m0 m1 D (nth ns i) by unfold ovC nth; rw [if_neg hc])]
   exact ih (i + 1) (by omega)
theorem ov_rows (l0 : List ByteArray) (l1 : List (List S52)) (m0 : List ByteArray) (m1 : List (List S52)) (ns : List ByteArray) (hn : ns.length ≤ 64) (hz : ∀ n ∈ ns, n.size ≤ 140737488351232) (M : Nat) (hM : M ≤ 4096) :
  ∀ g d : Nat, d + g = M → Ev (fun k => table_Overlay.l1 k (M : Int) (d : Int) l0 l1 m0 m1 ns ((List.range d).map (fun d => ns.map (ovC l0 l1 m0 m1 d)))) (ns, (List.range M).map (fun d => ns.map (ovC l0 l1 m0 m1 d)), 0) := by
 intro g
 induction g with
 | zero => intro d hd; exact Ev.step (fun k => table_Overlay.l1.eq_2 ..) (Ev.neg (by omega) (Ev.ret (by rw [show d = M by omega])))
 | succ g ih =>
  intro d hd
  refine Ev.step (fun k => table_Overlay.l1.eq_2 ..) (Ev.pos (by omega) (Ev.pos (by omega) (Ev.pos (by rw [Int.toNat_natCast]; omega) ?_)))
  rw [Int.toNat_natCast]
  refine ov_row l0 l1 m0 m1 ns hn hz (M : Int) d _ (by rw [List.length_map, List.length_range]; omega) _ ?_ ns.length 0 (by omega)
  rw [w64n d (by omega), show ((List.range d).map (fun d => ns.map (ovC l0 l1 m0 m1 d)) ++ [ns.map (ovC l0 l1 m0 m1 d)]) = (List.range (d + 1)).map (fun d => ns.map (ovC l0 l1 m0 m1 d)) by rw [List.range_succ, List.map_append]; rfl]
  exact ih (d + 1) (by omega)
theorem overlay_ev {l0 : List ByteArray} {l1 : List (List S52)} {m0 : List ByteArray} {m1 : List (List S52)} (hs : SmallT l0 l1) (hv : validT l0 l1 = 0) (gs : SmallT m0 m1) (gv : validT m0 m1 = 0) :
  Ev (fun k => table_Overlay.f k l0 l1 m0 m1) (if (ovNames l0 m0).length ≤ 64 then (ovNames l0 m0, ovRows l0 l1 m0 m1, 0) else ([], [], 6)) := by
 obtain ⟨a0, a1, a2, a3⟩ := valid_lens hv
 obtain ⟨b0, b1, b2, b3⟩ := valid_lens gv
 have hfl : ∀ l : List ByteArray, l.length ≤ 64 → (l.filter (fun n => !has (colD l0 0 (.map [])) (keyS n))).length ≤ 64 := fun l hl => Nat.le_trans (List.length_filter_le _ _) hl
 have key : ∀ d i : Nat, i + d = m0.length → Ev (fun k => table_Overlay.l0 k m0 (m0.length : Int) (i : Int) l0 l1 m0 m1 l0 l1 m0 m1 (l0 ++ (m0.take i).filter (fun n => !has (colD l0 0 (.map [])) (keyS n))))
   (if (ovNames l0 m0).length ≤ 64 then (ovNames l0 m0, ovRows l0 l1 m0 m1, 0) else ([], [], 6)) := by
  intro d
  induction d with
  | zero =>
   intro i hi
   refine Ev.step (fun k => table_Overlay.l0.eq_2 ..) (Ev.neg (by omega) ?_)
   rw [List.take_of_length_le (by omega)]
   show Ev (fun k => if ((ovNames l0 m0).length : Int) > 64 then _ else table_Overlay.l1 k _ 0 l0 l1 m0 m1 (ovNames l0 m0) []) _
   by_cases h : (ovNames l0 m0).length ≤ 64
   ·rw [if_pos h]
    refine Ev.neg (by omega) ?_
    have hmx : mx (l1.length : Int) (m1.length : Int) = ((max l1.length m1.length : Nat) : Int) := by unfold mx; split <;> omega
    rw [hmx]
    refine ov_rows l0 l1 m0 m1 (ovNames l0 m0) h (fun n hn => ?_) (max l1.length m1.length) (by omega) (max l1.length m1.length) 0 (by omega)
    rcases List.mem_append.1 hn with h | h
    ·have := a2 n h; omega
    ·have := b2 n (List.mem_filter.1 h).1; omega
   ·rw [if_neg h]
    exact Ev.pos (by omega) (Ev.ret rfl)
  | succ d ih =>
   intro i hi
   have hm := hfl (m0.take i) (by rw [List.length_take]; omega)
   refine Ev.step (fun k => table_Overlay.l0.eq_2 ..) (Ev.pos (by omega) (Ev.pos (by omega) (Ev.pos (by omega) ?_)))
   rw [w64n i (by omega)]
   have e : (m0.take (i + 1)).filter (fun n => !has (colD l0 0 (.map [])) (keyS n)) = (m0.take i).filter (fun n => !has (colD l0 0 (.map [])) (keyS n)) ++ [rdOf ByteArray.empty m0 (i : Int)].filter (fun n => !has (colD l0 0 (.map [])) (keyS n)) := by
    rw [List.take_succ_eq_append_getElem (by omega), List.filter_append, show m0[i] = rdOf ByteArray.empty m0 (i : Int) from (nth_get m0 i (by omega)).symm]
   have hi' := ih (i + 1) (by omega)
   rw [e] at hi'
   by_cases h : has (colD l0 0 (.map [])) (keyS (rdOf ByteArray.empty m0 (i : Int))) = true
   ·rw [List.filter_cons_of_neg (by rw [h]; decide), List.filter_nil, List.append_nil] at hi'
    exact Ev.pos h hi'
   ·rw [List.filter_cons_of_pos (by rw [Bool.eq_false_iff.2 h]; decide), List.filter_nil, ← List.append_assoc] at hi'
    exact Ev.neg h (Ev.pos (by rw [List.length_append]; omega) hi')
 have h0 := key m0.length 0 (by omega)
 rw [List.take_zero, List.filter_nil, List.append_nil] at h0
 unfold table_Overlay.f
 refine Ev.pos' ⟨hs.n, gs.n⟩ (Ev.bind (valid_ev0 hs hv) (Ev.pos rfl (Ev.bind (valid_ev0 gs gv) (Ev.pos rfl (Ev.call (copied_is (by omega)) h0)))))
theorem colC_nth {l0 : List ByteArray} (hd : l0.Nodup) (i : Nat) (h : i < l0.length) : colC l0 (nth l0 i) = (i : Int) := by
 obtain ⟨m, e, hm, hn, -⟩ := (colC_at l0 (nth l0 i)).2.2 (nth_mem l0 i h)
 rw [nth_get l0 i h, nth_get l0 m hm] at hn
 rw [e, (List.getElem_inj hd).1 hn]
theorem cellC_nth {l0 : List ByteArray} {l1 : List (List S52)} (hv : validT l0 l1 = 0) (i d : Nat) (h : i < l0.length) (hd : d < l1.length) : ∃ hi : i < l1[d].length, cellC l0 l1 (nth l0 i) (d : Int) = l1[d][i] := by
 obtain ⟨-, -, -, hnd, hr⟩ := (valid_iff l0 l1).1 hv
 obtain ⟨hl, hc⟩ := hr _ (List.getElem_mem hd)
 refine ⟨by omega, ?_⟩
 unfold cellC cellAt
 rw [if_pos (((colD_facts l0).2.1 _).2 (nth_mem l0 i h)), if_pos (by omega), if_pos (by omega), colC_nth hnd i h, rdL_at l1 d hd, if_pos (by omega), rdT_at _ i (by omega)]
 by_cases hf : (l1[d][i]).f0 = true
 ·rw [if_pos hf]
 ·rw [if_neg hf]
  have h0 := Bool.eq_false_iff.2 hf
  have h1 := hc _ (List.getElem_mem (show i < l1[d].length by omega)) h0
  show (⟨false, 0⟩ : S52) = _
  rw [← h0, ← h1]
theorem not_one : ¬ wrap64 (0 + 1) < ((1 : Nat) : Int) := by
 rw [w64 (n := 0 + 1) (by omega)]; omega
theorem cellC_or (l0 : List ByteArray) (l1 : List (List S52)) (n : ByteArray) (d : Int) : ((cellC l0 l1 n d).f0 = true ∧ ∃ r ∈ l1, cellC l0 l1 n d ∈ r) ∨ cellC l0 l1 n d = z52 := by
 unfold cellC cellAt
 split
 ·split
  ·split
   ·split
    ·split
     ·rename_i h0 h1 h2 h3 h4
      refine Or.inl ⟨h4, rd_L4 l1 d, ?_, ?_⟩
      ·obtain ⟨j, rfl⟩ := Int.eq_ofNat_of_zero_le h1
       rw [rdL_at l1 j (by omega)]; exact List.getElem_mem _
      ·have hc : 0 ≤ colC l0 n := (colC_at l0 n).2.1
       obtain ⟨j, hj⟩ := Int.eq_ofNat_of_zero_le hc
       rw [hj] at h3 ⊢
       rw [rdT_at _ j (by omega)]; exact List.getElem_mem _
     ·exact Or.inr rfl
    ·exact Or.inr rfl
   ·exact Or.inr rfl
  ·exact Or.inr rfl
 ·exact Or.inr rfl
theorem cellC_z {l0 : List ByteArray} {l1 : List (List S52)} {n : ByteArray} {d : Int} (h : ¬ (cellC l0 l1 n d).f0 = true) : cellC l0 l1 n d = z52 := by
 rcases cellC_or l0 l1 n d with h1 | h1
 ·exact absurd h1.1 h
 ·exact h1
theorem cellC_out {l0 : List ByteArray} {l1 : List (List S52)} {n : ByteArray} {d : Int} (h : d < 0 ∨ (l1.length : Int) ≤ d) : cellC l0 l1 n d = z52 := by
 unfold cellC cellAt
 by_cases h0 : 0 ≤ d
 ·rw [if_pos h0, if_neg (show ¬ d < (l1.length : Int) by omega)]; exact ite_self _
 ·rw [if_neg h0]; exact ite_self _
theorem cellC_no {l0 : List ByteArray} {l1 : List (List S52)} {n : ByteArray} {d : Int} (h : ¬ n ∈ l0) : cellC l0 l1 n d = z52 := by
 unfold cellC cellAt
 rw [if_neg (fun e => h (((colD_facts l0).2.1 n).1 e))]
def boundRows (l0 : List ByteArray) (l1 : List (List S52)) (n : ByteArray) : List (List S52) := (List.range l1.length).map (fun d => [cellC l0 l1 n ((d : Nat) : Int)])
theorem caps1 (n : ByteArray) : Ev (fun k => table_capitals.f k [n]) (capB n) := by
 have h := caps_ev [n] (by simp)
 have e : capsl [n] [n].length 0 = capB n := by
  show (capB (nth [n] 0) && true) = capB n
  rw [Bool.and_true]; rfl
 rw [e] at h; exact h
theorem bind1_ev {l0 : List ByteArray} {l1 : List (List S52)} (hs : SmallT l0 l1) (hv : validT l0 l1 = 0) (n : ByteArray) :
  Ev (fun k => table_Bind.f k l0 l1 [n]) (if capB n = true then (boundRows l0 l1 n, 0) else ([], 52)) := by
 obtain ⟨a0, a1, a2, a3⟩ := valid_lens hv
 unfold table_Bind.f
 refine Ev.pos' hs.n (Ev.bind (valid_ev0 hs hv) (Ev.pos rfl (Ev.bind (caps1 n) ?_)))
 by_cases hc : capB n = true
 ·rw [if_pos hc]
  refine Ev.pos hc (Ev.pos (by omega) (Ev.pos (by rw [Int.toNat_natCast]; omega) (Ev.call rfl ?_)))
  have hsz : n.size ≤ 140737488351232 := by have := cap_small hc; omega
  rw [Int.toNat_natCast]
  have key : ∀ g d : Nat, d + g = l1.length → Ev (fun k => table_Bind.l0 k [n] ((List.range d).map (fun d => [cellC l0 l1 n ((d : Nat) : Int)]) ++ List.replicate (l1.length - d) []) (l1.length : Int) (d : Int) l0 l1) (boundRows l0 l1 n, 0) := by
   intro g
   induction g with
   | zero =>
    intro d hd
    obtain rfl : d = l1.length := by omega
    refine Ev.step (fun k => table_Bind.l0.eq_2 ..) (Ev.neg (by omega) (Ev.ret ?_))
    rw [Nat.sub_self, List.replicate_zero, List.append_nil]; rfl
   | succ g ih =>
    intro d hd
    have hlen : ((List.range d).map (fun d => [cellC l0 l1 n ((d : Nat) : Int)]) ++ List.replicate (l1.length - d) []).length = l1.length := by simp; omega
    have hset : ∀ r : List S52, ((List.range d).map (fun d => [cellC l0 l1 n ((d : Nat) : Int)]) ++ List.replicate (l1.length - d) []).set d r = (List.range d).map (fun d => [cellC l0 l1 n ((d : Nat) : Int)]) ++ ([r] ++ List.replicate (l1.length - (d + 1)) []) := by
     intro r
     rw [List.set_append_right _ _ (by rw [List.length_map, List.length_range]; omega), List.length_map, List.length_range, Nat.sub_self, show l1.length - d = (l1.length - (d + 1)) + 1 by omega, List.replicate_succ, List.set_cons_zero]; rfl
    refine Ev.step (fun k => table_Bind.l0.eq_2 ..) (Ev.pos (by omega) (Ev.pos (by simp) (Ev.pos (by simp) (Ev.pos (by omega) (Ev.pos (by rw [hlen]; omega) ?_)))))
    simp only [Int.toNat_natCast]
    have hrd : ∀ r : List S52, rd_L4 (((List.range d).map (fun d => [cellC l0 l1 n ((d : Nat) : Int)]) ++ List.replicate (l1.length - d) []).set d r) (d : Int) = r := fun r => by
     rw [rdL_at _ d (by rw [List.length_set, hlen]; omega), List.getElem_set_self]
    refine Ev.step (fun k => table_Bind.l1.eq_2 ..) (Ev.pos (by simp) (Ev.pos (by omega) (Ev.pos (by simp) (Ev.pos (by omega) (Ev.pos (by rw [List.length_set, hlen]; omega) (Ev.call (vcell_is (show (rdOf ByteArray.empty [n] 0).size ≤ 140737488351232 from hsz)) (Ev.pos (by rw [hrd]; simp) ?_)))))))
    simp only [Int.toNat_natCast]
    rw [hrd, List.set_set, hset]
    refine Ev.step (fun k => table_Bind.l1.eq_2 ..) (Ev.neg not_one ?_)
    rw [w64n d (by omega)]
    have hi := ih (d + 1) (by omega)
    rw [List.range_succ, List.map_append, List.append_assoc] at hi
    exact hi
  have h0 := key l1.length 0 (by omega)
  rw [List.range_zero, List.map_nil, List.nil_append, Nat.sub_zero] at h0
  rw [List.length_replicate]
  exact h0
 ·rw [if_neg hc]
  exact Ev.neg hc (Ev.ret rfl)
def bcell (l0 : List ByteArray) (l1 : List (List S52)) (n : ByteArray) (d : Int) : S52 := if capB n = true then cellC l0 l1 n d else z52
theorem bcell_ev {l0 : List ByteArray} {l1 : List (List S52)} (hs : SmallT l0 l1) (hv : validT l0 l1 = 0) (n : ByteArray) (d : Int) :
  Ev (fun k => payofflaw05_cell.f k l0 l1 n d) ((bcell l0 l1 n d).f0, (bcell l0 l1 n d).f1, capB n) := by
 unfold payofflaw05_cell.f
 refine Ev.bind (bind1_ev hs hv n) ?_
 unfold bcell
 by_cases hc : capB n = true
 ·rw [if_pos hc, if_pos hc]
  refine Ev.pos rfl ?_
  have hl : (boundRows l0 l1 n).length = l1.length := by unfold boundRows; rw [List.length_map, List.length_range]
  rw [show ((((boundRows l0 l1 n, (0 : Int)).1).length : Int) != (l1.length : Int)) = false by rw [hl]; exact bne_self_eq_false _]
  refine Ev.step (fun k => payofflaw05_cell.j0.eq_2 ..) (Ev.neg (by decide) ?_)
  by_cases h0 : d < 0
  ·rw [cellC_out (Or.inl h0)]
   exact Ev.pos h0 (Ev.ret (by rw [hc]; rfl))
  refine Ev.neg h0 ?_
  by_cases h1 : d ≥ ((boundRows l0 l1 n).length : Int)
  ·rw [cellC_out (Or.inr (by rw [hl] at h1; exact h1))]
   refine Ev.pos h1 (Ev.ret ?_)
   rw [yL h1, hc]; rfl
  obtain ⟨j, rfl⟩ := Int.eq_ofNat_of_zero_le (show 0 ≤ d by omega)
  have hj : j < (boundRows l0 l1 n).length := by omega
  have hr : rd_L4 (boundRows l0 l1 n) (j : Int) = [cellC l0 l1 n (j : Int)] := by
   rw [rdL_at _ j hj]; simp [boundRows]
  have hj' : (j : Int) < ((boundRows l0 l1 n).length : Int) := by omega
  refine Ev.neg h1 (Ev.pos (by omega) (Ev.pos hj' (Ev.pos (by rw [hr]; rfl) (Ev.pos (by rw [hr]; simp) (Ev.ret ?_)))))
  rw [hr, hc]; rfl
 ·rw [if_neg hc, if_neg hc, Bool.eq_false_iff.2 hc]
  refine Ev.neg (by decide) (Ev.step (fun k => payofflaw05_cell.j0.eq_2 ..) (Ev.pos rfl (Ev.ret rfl)))
def missD (l0 : List ByteArray) (l1 : List (List S52)) (n : ByteArray) (m : Nat) : List S68 := ((List.range m).filter (fun d => !(cellC l0 l1 n ((d : Nat) : Int)).f0)).map (fun d => (⟨n, ((d : Nat) : Int)⟩ : S68))
theorem missD_succ (l0 : List ByteArray) (l1 : List (List S52)) (n : ByteArray) (m : Nat) : missD l0 l1 n (m + 1) = if (cellC l0 l1 n (m : Int)).f0 = true then missD l0 l1 n m else missD l0 l1 n m ++ [⟨n, (m : Int)⟩] := by
 unfold missD
 rw [List.range_succ, List.filter_append, List.map_append]
 by_cases h : (cellC l0 l1 n (m : Int)).f0 = true
 ·rw [if_pos h, List.filter_cons_of_neg (by rw [h]; decide), List.filter_nil, List.map_nil, List.append_nil]
 ·rw [if_neg h, List.filter_cons_of_pos (by rw [Bool.eq_false_iff.2 h]; decide), List.filter_nil]; rfl
theorem missD_len (l0 : List ByteArray) (l1 : List (List S52)) (n : ByteArray) (m : Nat) : (missD l0 l1 n m).length ≤ m := by
 unfold missD
 rw [List.length_map]
 exact Nat.le_trans (List.length_filter_le _ _) (by rw [List.length_range]; exact Nat.le_refl _)
theorem missing_ev {l0 : List ByteArray} {l1 : List (List S52)} (hs : SmallT l0 l1) (hv : validT l0 l1 = 0) {n : ByteArray} (hc : capB n = true) (m : Nat) (hm : m ≤ 3660) :
  Ev (fun k => table_Missing.f k l0 l1 [n] (m : Int)) (missD l0 l1 n (m + 1), 0) := by
 have hsz : n.size ≤ 140737488351232 := by have := cap_small hc; omega
 have hcap := caps1 n
 rw [hc] at hcap
 unfold table_Missing.f
 refine Ev.pos' hs.n (Ev.neg (by omega) ?_)
 rw [yM (show ¬ (m : Int) > 3660 by omega)]
 refine Ev.step (fun k => table_Missing.j0.eq_2 ..) (Ev.neg (by decide) (Ev.bind (valid_ev0 hs hv) (Ev.pos rfl (Ev.bind hcap (Ev.pos rfl ?_)))))
 rw [w64n m (by omega)]
 have key : ∀ g d : Nat, d + g = m + 1 → Ev (fun k => table_Missing.l0 k [n] (missD l0 l1 n d) ((m + 1 : Nat) : Int) (d : Int) l0 l1) (missD l0 l1 n (m + 1), 0) := by
  intro g
  induction g with
  | zero =>
   intro d hd
   obtain rfl : d = m + 1 := by omega
   exact Ev.step (fun k => table_Missing.l0.eq_2 ..) (Ev.neg (by omega) (Ev.ret rfl))
  | succ g ih =>
   intro d hd
   have hi := ih (d + 1) (by omega)
   rw [missD_succ] at hi
   refine Ev.step (fun k => table_Missing.l0.eq_2 ..) (Ev.pos (by omega) (Ev.step (fun k => table_Missing.l1.eq_2 ..) (Ev.pos (by simp) (Ev.pos (by omega) (Ev.pos (by simp) (Ev.call (vcell_is (show (rdOf ByteArray.empty [n] 0).size ≤ 140737488351232 from hsz)) ?_))))))
   by_cases h : (cellC l0 l1 n (d : Int)).f0 = true
   ·rw [if_pos h] at hi
    refine Ev.pos h (Ev.step (fun k => table_Missing.l1.eq_2 ..) (Ev.neg not_one ?_))
    rw [w64n d (by omega)]; exact hi
   ·rw [if_neg h] at hi
    refine Ev.neg h (Ev.pos (by have := missD_len l0 l1 n d; omega) (Ev.step (fun k => table_Missing.l1.eq_2 ..) (Ev.neg not_one ?_)))
    rw [w64n d (by omega)]; exact hi
 exact key (m + 1) 0 (by omega)
theorem missD_val (l0 : List ByteArray) (l1 : List (List S52)) (n : ByteArray) (m : Nat) : ∀ p ∈ missD l0 l1 n m, p.f0 = n ∧ 0 ≤ p.f1 ∧ p.f1 < (m : Int) := by
 intro p hp
 unfold missD at hp
 obtain ⟨d, hd, rfl⟩ := List.mem_map.1 hp
 have := List.mem_range.1 (List.mem_filter.1 hd).1
 exact ⟨rfl, by show (0 : Int) ≤ (d : Int); omega, by show (d : Int) < (m : Int); omega⟩
theorem missD_last (l0 : List ByteArray) (l1 : List (List S52)) (n : ByteArray) (m : Nat) : (∃ ms, missD l0 l1 n (m + 1) = ms ++ [⟨n, (m : Int)⟩]) ∧ ¬ (cellC l0 l1 n (m : Int)).f0 = true ∨ (∀ p ∈ missD l0 l1 n (m + 1), p.f1 ≠ (m : Int)) ∧ (cellC l0 l1 n (m : Int)).f0 = true := by
 rw [missD_succ]
 by_cases h : (cellC l0 l1 n (m : Int)).f0 = true
 ·rw [if_pos h]
  exact Or.inr ⟨fun p hp => by have := (missD_val l0 l1 n m p hp).2.2; omega, h⟩
 ·rw [if_neg h]
  exact Or.inl ⟨⟨_, rfl⟩, h⟩
theorem cellC_in64 {l0 : List ByteArray} {l1 : List (List S52)} (hs : SmallT l0 l1) (n : ByteArray) (d : Int) : -9223372036854775808 ≤ (cellC l0 l1 n d).f1 ∧ (cellC l0 l1 n d).f1 ≤ 9223372036854775807 := by
 rcases cellC_or l0 l1 n d with ⟨-, r, hr, hc⟩ | h
 ·exact (hs.2.2.2 r hr).2 _ hc
 ·rw [h]; decide
theorem ovC_z {l0 : List ByteArray} {l1 : List (List S52)} {m0 : List ByteArray} {m1 : List (List S52)} {d : Nat} {n : ByteArray} (h : ¬ (ovC l0 l1 m0 m1 d n).f0 = true) : ovC l0 l1 m0 m1 d n = z52 := by
 unfold ovC at h ⊢
 by_cases h1 : (cellC m0 m1 n (d : Int)).f0 = true
 ·rw [if_pos h1] at h; exact absurd h1 h
 ·rw [if_neg h1] at h ⊢; exact cellC_z h
theorem ovNames_mem {l0 m0 : List ByteArray} {n : ByteArray} : n ∈ ovNames l0 m0 ↔ n ∈ l0 ∨ n ∈ m0 := by
 unfold ovNames
 rw [List.mem_append, List.mem_filter]
 constructor
 ·rintro (h | h)
  ·exact Or.inl h
  ·exact Or.inr h.1
 ·rintro (h | h)
  ·exact Or.inl h
  ·by_cases hl : n ∈ l0
   ·exact Or.inl hl
   ·refine Or.inr ⟨h, ?_⟩
    rw [Bool.eq_false_iff.2 (fun e => hl (((colD_facts l0).2.1 n).1 e))]; rfl
section
variable {l0 : List ByteArray} {l1 : List (List S52)} {m0 : List ByteArray} {m1 : List (List S52)}
theorem ovRows_get {d : Nat} (h : d < (ovRows l0 l1 m0 m1).length) : (ovRows l0 l1 m0 m1)[d] = (ovNames l0 m0).map (ovC l0 l1 m0 m1 d) := by
 simp [ovRows]
theorem ovRows_len : (ovRows l0 l1 m0 m1).length = max l1.length m1.length := by
 unfold ovRows; rw [List.length_map, List.length_range]
theorem ov_valid (hv : validT l0 l1 = 0) (gv : validT m0 m1 = 0) (hn : (ovNames l0 m0).length ≤ 64) : validT (ovNames l0 m0) (ovRows l0 l1 m0 m1) = 0 := by
 obtain ⟨a1, a2, a3, a4, -⟩ := (valid_iff l0 l1).1 hv
 obtain ⟨b1, b2, b3, b4, -⟩ := (valid_iff m0 m1).1 gv
 refine (valid_iff _ _).2 ⟨hn, by rw [ovRows_len]; omega, fun n h => ?_, ?_, fun r hr => ?_⟩
 ·rcases ovNames_mem.1 h with h | h
  ·exact a3 n h
  ·exact b3 n h
 ·unfold ovNames
  refine List.nodup_append.2 ⟨a4, b4.filter _, fun x hx y hy e => ?_⟩
  subst e
  have := (List.mem_filter.1 hy).2
  rw [((colD_facts l0).2.1 x).2 hx] at this
  exact absurd this (by decide)
 ·obtain ⟨d, hd, rfl⟩ := List.getElem_of_mem hr
  rw [ovRows_get hd]
  refine ⟨List.length_map .., fun c hc hf => ?_⟩
  obtain ⟨n, -, rfl⟩ := List.mem_map.1 hc
  rw [ovC_z (by rw [hf]; decide)]; rfl
theorem ov_small (hs : SmallT l0 l1) (gs : SmallT m0 m1) (hv : validT l0 l1 = 0) (gv : validT m0 m1 = 0) (hn : (ovNames l0 m0).length ≤ 64) : SmallT (ovNames l0 m0) (ovRows l0 l1 m0 m1) := by
 obtain ⟨-, a1, a2, a3⟩ := valid_lens (ov_valid hv gv hn)
 refine ⟨by omega, fun n h => by have := a2 n h; omega, by omega, fun r hr => ⟨by rw [a3 r hr]; omega, fun c hc => ?_⟩⟩
 obtain ⟨d, hd, rfl⟩ := List.getElem_of_mem hr
 rw [ovRows_get hd] at hc
 obtain ⟨n, -, rfl⟩ := List.mem_map.1 hc
 unfold ovC
 split
 ·exact cellC_in64 gs _ _
 ·exact cellC_in64 hs _ _
theorem ov_cell (hv : validT l0 l1 = 0) (gv : validT m0 m1 = 0) (hn : (ovNames l0 m0).length ≤ 64) (n : ByteArray) (d : Int) :
  cellC (ovNames l0 m0) (ovRows l0 l1 m0 m1) n d = if (cellC m0 m1 n d).f0 = true then cellC m0 m1 n d else cellC l0 l1 n d := by
 by_cases hd : d < 0 ∨ ((ovRows l0 l1 m0 m1).length : Int) ≤ d
 ·rw [cellC_out hd]
  rw [ovRows_len] at hd
  rw [cellC_out (l0 := m0) (l1 := m1) (by omega), cellC_out (l0 := l0) (l1 := l1) (by omega)]; rfl
 obtain ⟨j, rfl⟩ := Int.eq_ofNat_of_zero_le (show 0 ≤ d by omega)
 by_cases hm : n ∈ ovNames l0 m0
 ·obtain ⟨i, hi, rfl⟩ := List.getElem_of_mem hm
  have hj : j < (ovRows l0 l1 m0 m1).length := by omega
  obtain ⟨h1, e⟩ := cellC_nth (ov_valid hv gv hn) i j hi hj
  rw [nth_get _ i hi] at e
  rw [e]
  have : (ovRows l0 l1 m0 m1)[j][i] = ovC l0 l1 m0 m1 j ((ovNames l0 m0)[i]) := by
   simp only [ovRows_get hj, List.getElem_map]
  rw [this]; rfl
 ·rw [cellC_no hm, cellC_no (fun h => hm (ovNames_mem.2 (Or.inr h))), cellC_no (fun h => hm (ovNames_mem.2 (Or.inl h)))]; rfl
theorem cut_valid (hv : validT l0 l1 = 0) (r : Nat) : validT l0 (l1.take r) = 0 := by
 obtain ⟨a1, a2, a3, a4, a5⟩ := (valid_iff l0 l1).1 hv
 exact (valid_iff _ _).2 ⟨a1, by rw [List.length_take]; omega, a3, a4, fun x hx => a5 x (List.mem_of_mem_take hx)⟩
theorem cut_small (hs : SmallT l0 l1) (r : Nat) : SmallT l0 (l1.take r) :=
 ⟨hs.1, hs.2.1, by rw [List.length_take]; have := hs.2.2.1; omega, fun x hx => hs.2.2.2 x (List.mem_of_mem_take hx)⟩
theorem cut_cell (r : Nat) (n : ByteArray) (d : Int) : cellC l0 (l1.take r) n d = if d < (r : Int) then cellC l0 l1 n d else z52 := by
 have hlt : (l1.take r).length = min r l1.length := List.length_take
 by_cases hd : d < 0 ∨ ((l1.take r).length : Int) ≤ d
 ·rw [cellC_out hd]
  by_cases h : d < (r : Int)
  ·rw [if_pos h, cellC_out (by omega)]
  ·rw [if_neg h]
 obtain ⟨j, rfl⟩ := Int.eq_ofNat_of_zero_le (show 0 ≤ d by omega)
 rw [if_pos (by omega)]
 unfold cellC cellAt
 rw [rdL_at _ j (by omega), rdL_at l1 j (by omega), List.getElem_take]
 simp only [show (j : Int) < (l1.length : Int) by omega, show (j : Int) < ((l1.take r).length : Int) by omega, if_true]
end
end Go.Proofs.YtppojbafagneeaaDoor.Pure
