/- Own text: TableWrites: Print of any table is the document's, byte for byte, and the table is as it was, behind the ends of its lists too. -/
import Derived.Test.YtppojbafagneeaaDoorQTableWrites
import Derived.Test.YtppojbafagneeaaDoorTabLawV
import Derived.Test.YtppojbafagneeaaDoorTabRText
import Derived.SizedLaws
import Derived.Test.YtppojbafagneeaaDoorTabOpen
namespace Go.Proofs.YtppojbafagneeaaDoor.Pure
open Go.RowKit Go.Maps Go.ChangeShapes Go.WideShapes Go.Proofs.YtppojbafagneeaaDoor.PTab Go.Proofs.YtppojbafagneeaaDoorW.PrintWords Go.Proofs.YtppojbafagneeaaDoorW.PrintLast Go.Proofs.YtppojbafagneeaaDoorW.PrintMore
set_option linter.unusedVariables false
set_option linter.unusedSimpArgs false
/-! bytes as numbers -/
def nums8 (l : List UInt8) : List Int := l.map fun b => (b.toNat : Int)
theorem nums8_app (a b : List UInt8) : nums8 (a ++ b) = nums8 a ++ nums8 b := by unfold nums8; rw [List.map_append]
theorem nums8_len (a : List UInt8) : (nums8 a).length = a.length := by unfold nums8; rw [List.length_map]
theorem nums8_bytes (s : ByteArray) : bytesOf s = nums8 s.data.toList := rfl
theorem nums8_str (l : List UInt8) : strOfNums (nums8 l) = ⟨l.toArray⟩ := by
  unfold strOfNums nums8
  rw [List.map_map]
  congr 2
  have : ((fun n : Int => UInt8.ofNat n.toNat) ∘ fun b : UInt8 => (b.toNat : Int)) = id := by
    funext b
    simp
  rw [this, List.map_id]
/-! how long it is -/
theorem names_len_le (l : List ByteArray) (h : ∀ n ∈ l, n.size ≤ 31) : (namesL l).length ≤ 32 * l.length := by
  induction l with
  | nil => exact Nat.le_refl _
  | cons n t ih =>
    have h1 := ih (fun x hx => h x (List.mem_cons_of_mem _ hx))
    have h2 := h n List.mem_cons_self
    have h3 := data_len n
    simp only [namesL, List.length_append, List.length_cons]
    omega
theorem cells_len_le (r : List S52) (h : ∀ c ∈ r, -9223372036854775808 ≤ c.f1 ∧ c.f1 ≤ 9223372036854775807) : (cellsL r).length ≤ 22 * r.length := by
  induction r with
  | nil => exact Nat.le_refl _
  | cons c t ih =>
    have h1 := ih (fun x hx => h x (List.mem_cons_of_mem _ hx))
    have h2 := h c List.mem_cons_self
    have h3 := data_len (wordB c)
    have h4 : (wordB c).size ≤ 21 := by
      unfold wordB
      split
      · exact dec_size c.f1 h2.1 h2.2
      · decide
    simp only [cellsL, List.length_append, List.length_cons]
    omega
theorem rows_len_le (l : List (List S52)) (hr : ∀ r ∈ l, r.length ≤ 64) (h : ∀ r ∈ l, ∀ c ∈ r, -9223372036854775808 ≤ c.f1 ∧ c.f1 ≤ 9223372036854775807) : ∀ d : Nat, d + l.length ≤ 1000000 → (rowsL l d).length ≤ 1430 * l.length := by
  induction l with
  | nil => intro d _; exact Nat.le_refl _
  | cons r t ih =>
    intro d hd
    simp only [List.length_cons] at hd
    have h1 := ih (fun x hx => hr x (List.mem_cons_of_mem _ hx)) (fun x hx => h x (List.mem_cons_of_mem _ hx)) (d + 1) (by omega)
    have h2 := cells_len_le r (h r List.mem_cons_self)
    have h3 := hr r List.mem_cons_self
    have h4 := data_len (dec (d : Int))
    have h5 := dec_size (d : Int) (by omega) (by omega)
    simp only [rowsL, List.length_append, List.length_cons]
    omega
/-! the reference's Print -/
theorem nums8_sp (L : List UInt8) (s : ByteArray) : (nums8 L ++ [32]) ++ bytesOf s = nums8 (L ++ (32 :: s.data.toList)) := by
  rw [nums8_bytes, nums8_app]
  show _ = nums8 L ++ ((32 : Int) :: nums8 s.data.toList)
  simp
theorem nums8_nl (L : List UInt8) : nums8 L ++ [10] = nums8 (L ++ [10]) := by rw [nums8_app]; rfl
theorem rp_l2 (l0 : List ByteArray) (l1 : List (List S52)) (hlen : (prt l0 l1).length ≤ 100000000) (hl1 : l1.length ≤ 1000000) (hcells : ∀ r ∈ l1, ∀ c ∈ r, -9223372036854775808 ≤ c.f1 ∧ c.f1 ≤ 9223372036854775807) (hrow : ∀ r ∈ l1, r.length ≤ 1000000) (d : Nat) (hd : d < l1.length) (r : ByteArray × Int) (next : ∀ L' : List UInt8, L' ++ rowsL (l1.drop (d + 1)) (d + 1) = prt l0 l1 → Ev (fun k => payoffref05_Print.l1 k (nums8 L') ((d + 1 : Nat) : Int) l0 l1) r) :
    ∀ (g j : Nat) (L : List UInt8), j + g = (rd_L4 l1 (d : Int)).length → L ++ (cellsL ((rd_L4 l1 (d : Int)).drop j) ++ (10 :: rowsL (l1.drop (d + 1)) (d + 1))) = prt l0 l1 → Ev (fun k => payoffref05_Print.l2 k (nums8 L) (d : Int) (j : Int) l0 l1) r := by
  have hm : rd_L4 l1 (d : Int) ∈ l1 := by unfold rd_L4; rw [Int.toNat_natCast, List.getD_eq_getElem?_getD, List.getElem?_eq_getElem hd]; exact List.getElem_mem hd
  have hrl := hrow _ hm
  intro g
  induction g with
  | zero =>
    intro j L hj hL
    have hj' : j = (rd_L4 l1 (d : Int)).length := by omega
    rw [hj', List.drop_length] at hL
    have hL : L ++ (10 :: rowsL (l1.drop (d + 1)) (d + 1)) = prt l0 l1 := hL
    have h2 := congrArg List.length hL
    simp only [List.length_append, List.length_cons] at h2
    refine Ev.step (fun k => payoffref05_Print.l2.eq_2 ..) (Ev.pos (by omega) (Ev.pos (by omega) (Ev.neg (by omega) (Ev.pos (by rw [nums8_len]; omega) ?_))))
    rw [nums8_nl, w64n d (by omega)]
    exact next (L ++ [10]) (by rw [← hL]; simp)
  | succ g ih =>
    intro j L hj hL
    have hjl : j < (rd_L4 l1 (d : Int)).length := by omega
    have hc := hcells _ hm (rd_T52 (rd_L4 l1 (d : Int)) (j : Int)) (by unfold rd_T52; rw [Int.toNat_natCast, List.getD_eq_getElem?_getD, List.getElem?_eq_getElem hjl]; exact List.getElem_mem hjl)
    rw [cells_step _ j hjl] at hL
    have h2 := congrArg List.length hL
    have h4 := data_len (wordB (rd_T52 (rd_L4 l1 (d : Int)) (j : Int)))
    simp only [List.length_append, List.length_cons] at h2
    have hnext := ih (j + 1) (L ++ (32 :: (wordB (rd_T52 (rd_L4 l1 (d : Int)) (j : Int))).data.toList)) (by omega) (by rw [← hL]; simp)
    refine Ev.step (fun k => payoffref05_Print.l2.eq_2 ..) (Ev.pos (by omega) (Ev.pos (by omega) (Ev.pos (by omega) (Ev.pos (by omega) ?_))))
    by_cases hf : (rd_T52 (rd_L4 l1 (d : Int)) (j : Int)).f0 = true
    · have hw : wordB (rd_T52 (rd_L4 l1 (d : Int)) (j : Int)) = dec (rd_T52 (rd_L4 l1 (d : Int)) (j : Int)).f1 := by unfold wordB; rw [if_pos hf]
      rw [hw] at hnext h4 h2
      refine Ev.pos hf (Ev.bind (rtext0 _ hc) (Ev.pos (by rw [nums8_len]; omega) (Ev.call (a := nums8 L ++ [32]) rfl (Ev.pos (by have h5 : ((dec (rd_T52 (rd_L4 l1 (d : Int)) (j : Int)).f1, (0 : Int)).1).size = (dec (rd_T52 (rd_L4 l1 (d : Int)) (j : Int)).f1).size := rfl; rw [List.length_append, nums8_len]; simp only [List.length_cons, List.length_nil]; omega) ?_))))
      rw [nums8_sp, w64n j (by omega)]
      exact hnext
    · have hw : wordB (rd_T52 (rd_L4 l1 (d : Int)) (j : Int)) = ⟨#[45]⟩ := by unfold wordB; rw [if_neg hf]
      rw [hw] at hnext h4 h2
      refine Ev.neg hf (Ev.pos (by rw [nums8_len]; omega) (Ev.call (a := nums8 L ++ [32]) rfl (Ev.pos (by rw [List.length_append, nums8_len]; simp only [List.length_cons, List.length_nil]; omega) ?_)))
      rw [nums8_sp, w64n j (by omega)]
      exact hnext
theorem rp_l1 (l0 : List ByteArray) (l1 : List (List S52)) (hlen : (prt l0 l1).length ≤ 100000000) (hl1 : l1.length ≤ 1000000) (hcells : ∀ r ∈ l1, ∀ c ∈ r, -9223372036854775808 ≤ c.f1 ∧ c.f1 ≤ 9223372036854775807) (hrow : ∀ r ∈ l1, r.length ≤ 1000000) (r : ByteArray × Int) (hbig : (prt l0 l1).length > 1048576 → r = (⟨#[]⟩, 6)) (hsmall : ¬ (prt l0 l1).length > 1048576 → r = (⟨(prt l0 l1).toArray⟩, 0)) :
    ∀ (g d : Nat) (L : List UInt8), d + g = l1.length → L ++ rowsL (l1.drop d) d = prt l0 l1 → Ev (fun k => payoffref05_Print.l1 k (nums8 L) (d : Int) l0 l1) r := by
  intro g
  induction g with
  | zero =>
    intro d L hd hL
    have hd' : d = l1.length := by omega
    rw [hd', List.drop_length] at hL
    have hL : L = prt l0 l1 := by rw [← hL]; simp [rowsL]
    refine Ev.step (fun k => payoffref05_Print.l1.eq_2 ..) (Ev.neg (by omega) ?_)
    rw [nums8_len, hL, nums8_str]
    by_cases hb : (prt l0 l1).length > 1048576
    · rw [hbig hb]; exact Ev.pos (by omega) (Ev.ret rfl)
    · rw [hsmall hb]; exact Ev.neg (by omega) (Ev.ret rfl)
  | succ g ih =>
    intro d L hd hL
    have hdl : d < l1.length := by omega
    rw [rows_step l1 d hdl] at hL
    have h2 := congrArg List.length hL
    have h4 := data_len (dec (d : Int))
    simp only [List.length_append, List.length_cons] at h2
    refine Ev.step (fun k => payoffref05_Print.l1.eq_2 ..) (Ev.pos (by omega) (Ev.bind (rtext0 (d : Int) ⟨by omega, by omega⟩) (Ev.pos (by have h5 : ((dec (d : Int), (0 : Int)).1).size = (dec (d : Int)).size := rfl; rw [nums8_len]; omega) ?_)))
    rw [nums8_bytes, ← nums8_app]
    exact rp_l2 l0 l1 hlen hl1 hcells hrow d hdl r (fun L' hL' => ih (d + 1) L' (by omega) hL') (rd_L4 l1 (d : Int)).length 0 _ (by omega) (by rw [← hL]; simp)
theorem rp_l0 (l0 : List ByteArray) (l1 : List (List S52)) (hlen : (prt l0 l1).length ≤ 100000000) (hl0 : l0.length ≤ 1000000) (hl1 : l1.length ≤ 1000000) (hcells : ∀ r ∈ l1, ∀ c ∈ r, -9223372036854775808 ≤ c.f1 ∧ c.f1 ≤ 9223372036854775807) (hrow : ∀ r ∈ l1, r.length ≤ 1000000) (r : ByteArray × Int) (hbig : (prt l0 l1).length > 1048576 → r = (⟨#[]⟩, 6)) (hsmall : ¬ (prt l0 l1).length > 1048576 → r = (⟨(prt l0 l1).toArray⟩, 0)) :
    ∀ (g i : Nat) (L : List UInt8), i + g = l0.length → L ++ (namesL (l0.drop i) ++ (10 :: rowsL l1 0)) = prt l0 l1 → Ev (fun k => payoffref05_Print.l0 k (nums8 L) (i : Int) l0 l1) r := by
  intro g
  induction g with
  | zero =>
    intro i L hi hL
    have hi' : i = l0.length := by omega
    rw [hi', List.drop_length] at hL
    have hL : L ++ (10 :: rowsL l1 0) = prt l0 l1 := hL
    have h2 := congrArg List.length hL
    simp only [List.length_append, List.length_cons] at h2
    refine Ev.step (fun k => payoffref05_Print.l0.eq_2 ..) (Ev.neg (by omega) (Ev.pos (by rw [nums8_len]; omega) ?_))
    rw [nums8_nl]
    exact rp_l1 l0 l1 hlen hl1 hcells hrow r hbig hsmall l1.length 0 (L ++ [10]) (by omega) (by rw [← hL]; simp)
  | succ g ih =>
    intro i L hi hL
    have hil : i < l0.length := by omega
    rw [names_step l0 i hil] at hL
    have hnth : rdOf ByteArray.empty l0 (i : Int) = l0.getD i ByteArray.empty := by unfold rdOf; rw [Int.toNat_natCast]
    have h2 := congrArg List.length hL
    have h4 := data_len (l0.getD i ByteArray.empty)
    simp only [List.length_append, List.length_cons] at h2
    refine Ev.step (fun k => payoffref05_Print.l0.eq_2 ..) (Ev.pos (by omega) (Ev.pos (by rw [nums8_len]; omega) (Ev.call (a := nums8 L ++ [32]) rfl (Ev.pos (by omega) (Ev.pos (by rw [List.length_append, nums8_len, hnth]; simp only [List.length_cons, List.length_nil]; omega) ?_)))))
    rw [hnth, nums8_sp, w64n i (by omega)]
    exact ih (i + 1) _ (by omega) (by rw [← hL]; simp)
theorem valid_more (l0 : List ByteArray) (l1 : List (List S52)) (hl0 : l0.length ≤ 140737488351232) (hs : ∀ n ∈ l0, n.size ≤ 140737488351232) (hl : l1.length ≤ 9223372036854775806) (hB : ∀ r ∈ l1, r.length ≤ 9223372036854775806) :
    ∃ r, Ev (fun k => table_Valid.f k l0 l1) r ∧ Ev (fun k => payoffref05_Valid.f k l0 l1) r ∧ (r = 0 → okRows l0.length l1 l1.length 0 = true ∧ l0.length ≤ 64 ∧ l1.length ≤ 4096 ∧ Good l0 0) := by
  have hcol : table_columns.f l0 = some (Maps.size (colD l0 0 (.map [])) : Int) := by unfold table_columns.f; rw [if_pos ⟨hl0, hs⟩]
  obtain ⟨-, -, hle, hiff⟩ := colD_facts l0
  cases h1 : okRows l0.length l1 l1.length 0 with
  | false => exact ⟨3, pv_l0 l0 l1 hl 3 l1.length 0 (by omega) (fun h => by rw [h1] at h; cases h) (fun _ => rfl), rv_l0 l0 l1 hl 3 l1.length 0 (by omega) (fun h => by rw [h1] at h; cases h) (fun _ => rfl), fun h => absurd h (by decide)⟩
  | true =>
    have both : ∀ r : Int, (Ev (fun k => if (l0.length : Int) > 64 then table_Valid.j1 k true l0 l1 else table_Valid.j1 k (decide ((l1.length : Int) > 4096)) l0 l1) r ∧ Ev (fun k => if (l0.length : Int) > 64 then payoffref05_Valid.j1 k true l0 l1 else payoffref05_Valid.j1 k (decide ((l1.length : Int) > 4096)) l0 l1) r) → (r = 0 → l0.length ≤ 64 ∧ l1.length ≤ 4096 ∧ Good l0 0) → ∃ r, Ev (fun k => table_Valid.f k l0 l1) r ∧ Ev (fun k => payoffref05_Valid.f k l0 l1) r ∧ (r = 0 → true = true ∧ l0.length ≤ 64 ∧ l1.length ≤ 4096 ∧ Good l0 0) :=
      fun r ⟨a, b⟩ hz => ⟨r, pv_l0 l0 l1 hl r l1.length 0 (by omega) (fun _ => a) (fun h => by rw [h1] at h; cases h), rv_l0 l0 l1 hl r l1.length 0 (by omega) (fun _ => b) (fun h => by rw [h1] at h; cases h), fun h => ⟨rfl, hz h⟩⟩
    by_cases h2 : (l0.length : Int) > 64
    · refine both 6 ⟨Ev.pos h2 (Ev.step (fun k => table_Valid.j1.eq_2 ..) (Ev.pos rfl (Ev.ret rfl))), Ev.pos h2 (Ev.step (fun k => payoffref05_Valid.j1.eq_2 ..) (Ev.pos rfl (Ev.ret rfl)))⟩ (fun h => absurd h (by decide))
    by_cases h3 : (l1.length : Int) > 4096
    · refine both 6 ⟨Ev.neg h2 (by rw [decide_eq_true h3]; exact Ev.step (fun k => table_Valid.j1.eq_2 ..) (Ev.pos rfl (Ev.ret rfl))), Ev.neg h2 (by rw [decide_eq_true h3]; exact Ev.step (fun k => payoffref05_Valid.j1.eq_2 ..) (Ev.pos rfl (Ev.ret rfl)))⟩ (fun h => absurd h (by decide))
    have go : ∀ r : Int, (Good l0 0 → okCells l1 l1.length 0 = true → r = 0) → (Good l0 0 → okCells l1 l1.length 0 = false → r = 51) → (¬ Good l0 0 → r = 52) → ∃ r, Ev (fun k => table_Valid.f k l0 l1) r ∧ Ev (fun k => payoffref05_Valid.f k l0 l1) r ∧ (r = 0 → true = true ∧ l0.length ≤ 64 ∧ l1.length ≤ 4096 ∧ Good l0 0) := by
      intro r g1 g2 g3
      refine both r ⟨Ev.neg h2 ?_, Ev.neg h2 ?_⟩ (fun h0 => ⟨by omega, by omega, Classical.byContradiction fun hng => by have := g3 hng; omega⟩)
      · rw [decide_eq_false h3]
        refine Ev.step (fun k => table_Valid.j1.eq_2 ..) (Ev.neg (by decide) (Ev.call hcol ?_))
        by_cases hn : l0.Nodup
        · refine Ev.pos (by rw [hiff.2 hn]) (Ev.bind (caps_ev l0 (by omega)) ?_)
          cases hc : capsl l0 l0.length 0 with
          | false =>
            rw [g3 (fun h => by have := ((good_iff l0).1 h).2; rw [hc] at this; cases this)]
            exact Ev.step (fun k => table_Valid.j2.eq_2 ..) (Ev.pos rfl (Ev.ret rfl))
          | true =>
            have hg : Good l0 0 := (good_iff l0).2 ⟨hn, hc⟩
            exact Ev.step (fun k => table_Valid.j2.eq_2 ..) (Ev.neg (by decide) (pv_l1 l1 hl hB r l1.length 0 (by omega) (g1 hg) (g2 hg)))
        · rw [g3 (fun h => hn ((good_iff l0).1 h).1)]
          exact Ev.neg (fun e => hn (hiff.1 (by omega))) (Ev.step (fun k => table_Valid.j2.eq_2 ..) (Ev.pos rfl (Ev.ret rfl)))
      · rw [decide_eq_false h3]
        refine Ev.step (fun k => payoffref05_Valid.j1.eq_2 ..) (Ev.neg (by decide) ?_)
        exact rv_l1 l0 l1 (by omega) r l0.length 0 (by omega) (fun hg => rv_l2 l0 l1 hl hB r l1.length 0 (by omega) (g1 hg) (g2 hg)) g3
    by_cases hg : Good l0 0
    · cases hc : okCells l1 l1.length 0 with
      | true => exact go 0 (fun _ _ => rfl) (fun _ h => by rw [hc] at h; cases h) (fun h => absurd hg h)
      | false => exact go 51 (fun _ h => by rw [hc] at h; cases h) (fun _ _ => rfl) (fun h => absurd hg h)
    · exact go 52 (fun h => absurd h hg) (fun h => absurd h hg) (fun _ => rfl)
theorem ok_rows {n : Nat} {l1 : List (List S52)} : ∀ d i : Nat, i + d = l1.length → okRows n l1 d i = true → ∀ j, i ≤ j → j < l1.length → (rd_L4 l1 (j : Int)).length = n := by
  intro d
  induction d with
  | zero => intro i hi _ j h1 h2; omega
  | succ d ih =>
    intro i hi h j h1 h2
    rw [okRows, Bool.and_eq_true] at h
    by_cases e : j = i
    · subst e; exact of_decide_eq_true h.1
    · exact ih (i + 1) (by omega) h.2 j (by omega) h2
theorem cap_small {s : ByteArray} (h : capB s = true) : s.size ≤ 31 := by
  unfold capB at h
  simp only [Bool.and_eq_true, decide_eq_true_eq] at h
  exact h.1.1.2
section
variable {H : Type} {enc : TypeId × Value → H} {W : World} {spare : Nat → Bool} {held : Bool}
theorem cells_open_w {fuel : Nat} {v : Value} {y : DataW H × List MemPlace} (h : DataW.trod enc Tryd.prog W 0 spare held fuel 54 [v] = some y) (hw : WOk Tryd.prog 54 y.1) :
    ∃ A c l, v = .slice A l.length c ∧ l.length ≤ c ∧ k52.C W A l.length l ∧ l.length * 16 ≤ 140737488351232 ∧ ∀ x ∈ l, -9223372036854775808 ≤ x.f1 ∧ x.f1 ≤ 9223372036854775807 :=
  row_open z52 k52 (by decide) (fun x => -9223372036854775808 ≤ x.f1 ∧ x.f1 ≤ 9223372036854775807) Tryd.underlying54 (by kernel_rfl) (by kernel_rfl) (by decide) (fun n cs y hl h hw => by
    obtain ⟨y0, y1, m, -, hlen, h0, h1⟩ := trod_struct2 Tryd.underlying52 h
    obtain ⟨b, e0, -⟩ := DataW.trod_bool Tryd.underlying4 h0
    obtain ⟨z, e1, -, hz⟩ := DataW.trod_int Tryd.underlying3 h1
    have hC4 : Tryd.prog.cellsOf 4 = 1 := by kernel_rfl
    have hC3 : Tryd.prog.cellsOf 3 = 1 := by kernel_rfl
    have e0 : (cs.drop 0).take (Tryd.prog.cellsOf 4) = [.bool b] := e0
    have e1 : (cs.drop 1).take (Tryd.prog.cellsOf 3) = [.int .i64 z] := e1
    rw [hC4] at e0
    rw [hC3] at e1
    have hl : cs.length = 2 := hl
    rcases cs with _ | ⟨u, _ | ⟨v, _ | ⟨x, r⟩⟩⟩
    · cases hl
    · cases hl
    · have g0 : u = .bool b := (List.cons.inj e0).1
      have g1 : v = .int .i64 z := (List.cons.inj e1).1
      subst g0
      subst g1
      exact ⟨⟨b, z⟩, k52_mk W _, wf64 hz⟩
    · simp at hl) h hw
theorem rows_open_w {fuel : Nat} {v : Value} {y : DataW H × List MemPlace} (h : DataW.trod enc Tryd.prog W 0 spare held fuel 23 [v] = some y) (hw : WOk Tryd.prog 23 y.1) :
    ∃ A c l, v = .slice A l.length c ∧ l.length ≤ c ∧ (Kd.slice 52 k52).C W A l.length l ∧ l.length * 24 ≤ 140737488351232 ∧ ∀ x ∈ l, x.length * 16 ≤ 140737488351232 ∧ ∀ c ∈ x, -9223372036854775808 ≤ c.f1 ∧ c.f1 ≤ 9223372036854775807 :=
  row_open ([] : List S52) (Kd.slice 52 k52) (show 0 < 1 by decide) (fun x => x.length * 16 ≤ 140737488351232 ∧ ∀ c ∈ x, -9223372036854775808 ≤ c.f1 ∧ c.f1 ≤ 9223372036854775807) Tryd.underlying23 (by kernel_rfl) (by kernel_rfl) (by decide) (fun n cs y hl h hw => by
    have hl : cs.length = 1 := hl
    obtain ⟨u, rfl⟩ := List.length_eq_one_iff.1 hl
    obtain ⟨A, c, l, rfl, h1, h2, h3, h4⟩ := cells_open_w h hw
    exact ⟨l, ⟨A, c, rfl, h1, h2⟩, h3, h4⟩) h hw
set_option maxRecDepth 100000 in
theorem open_tabw {r : Reach} {b0 : Nat} {v : Value} {d : DataW H} {p : List MemPlace} (hv : Value.okWide Tryd.prog W r b0 25 v) (hw : WOk Tryd.prog 25 d) (h : DataW.Trod enc Tryd.prog W 0 spare held 25 v d p) :
    ∃ A0 c0 l0 A1 c1 l1, v = .agg #[.slice A0 l0.length c0, .slice A1 l1.length c1] ∧ Kd.string.C W A0 l0.length l0 ∧ l0.length ≤ c0 ∧ (Kd.slice 52 k52).C W A1 l1.length l1 ∧ l1.length ≤ c1 ∧
      l0.length * 16 ≤ 140737488351232 ∧ (∀ n ∈ l0, n.size ≤ 140737488351232) ∧ l1.length * 24 ≤ 140737488351232 ∧ (∀ x ∈ l1, x.length * 16 ≤ 140737488351232 ∧ ∀ c ∈ x, -9223372036854775808 ≤ c.f1 ∧ c.f1 ≤ 9223372036854775807) := by
  obtain ⟨v0, v1, y0, y1, n, rfl, rfl, -, t0, t1⟩ := Joins.open_agg2 Tryd.underlying25 (by kernel_rfl) (by kernel_rfl) hv h
  have w0 : WOk Tryd.prog 22 y0.1 := WOk.field (j := 0) Tryd.underlying25 hw rfl rfl
  have w1 : WOk Tryd.prog 23 y1.1 := WOk.field (j := 1) Tryd.underlying25 hw rfl rfl
  obtain ⟨A0, c0, l0, rfl, a1, a2, a3, a4⟩ := names_open t0 w0
  obtain ⟨A1, c1, l1, rfl, b1, b2, b3, b4⟩ := rows_open_w t1 w1
  exact ⟨A0, c0, l0, A1, c1, l1, rfl, a2, a1, b2, b1, a3, a4, b3, b4⟩
end
theorem TableWrites_walk (A0 : Option Addr) (c0 : Nat) (l0 : List ByteArray) (A1 : Option Addr) (c1 : Nat) (l1 : List (List S52)) (w : World) (h0 : Kd.C Kd.string w A0 l0.length l0) (hc0 : l0.length ≤ c0) (h1 : Kd.C (Kd.slice 52 k52) w A1 l1.length l1) (hc1 : l1.length ≤ c1)
    (b0 : l0.length * 16 ≤ 140737488351232) (b1 : ∀ n ∈ l0, n.size ≤ 140737488351232) (b2 : l1.length * 24 ≤ 140737488351232) (b3 : ∀ r ∈ l1, r.length * 16 ≤ 140737488351232 ∧ ∀ c ∈ r, -9223372036854775808 ≤ c.f1 ∧ c.f1 ≤ 9223372036854775807) (hG : GP w) :
    Calls Tryd.prog 8 #[.agg #[.slice A0 l0.length c0, .slice A1 l1.length c1]] w fun e w' => e = .returned (.bool true) ∧ Below w.heap.size w w' := by
  have hB : ∀ r ∈ l1, r.length ≤ 8796093022204 := fun r hr => by have := (b3 r hr).1; omega
  obtain ⟨v, e1, e2, hv0⟩ := valid_more l0 l1 (by omega) b1 (by omega) (fun r hr => by have := hB r hr; omega)
  have key : ∃ (s : ByteArray) (er : Int), Ev (fun k => payoffref05_Print.f k l0 l1) (s, er) ∧ ∀ k, table_Valid.f k l0 l1 = some v → PrintIs k l0 l1 s er := by
    by_cases hv : v = 0
    · obtain ⟨k1, k2, k3, k4⟩ := hv0 hv
      have hn31 : ∀ n ∈ l0, n.size ≤ 31 := fun n hn => by
        obtain ⟨j, hj, rfl⟩ := List.getElem_of_mem hn
        have := cap_small (k4 j (Nat.zero_le _) hj).1
        rw [nth_get l0 j hj] at this; exact this
      have hr64 : ∀ r ∈ l1, r.length ≤ 64 := fun r hr => by
        obtain ⟨j, hj, rfl⟩ := List.getElem_of_mem hr
        have := ok_rows l1.length 0 (by omega) k1 j (Nat.zero_le _) hj
        unfold rd_L4 at this
        rw [Int.toNat_natCast, List.getD_eq_getElem?_getD, List.getElem?_eq_getElem hj] at this
        have this : l1[j].length = l0.length := this
        omega
      have hcells : ∀ r ∈ l1, ∀ c ∈ r, -9223372036854775808 ≤ c.f1 ∧ c.f1 ≤ 9223372036854775807 := fun r hr => (b3 r hr).2
      have g1 := names_len_le l0 hn31
      have g2 := rows_len_le l1 hr64 hcells 0 (by omega)
      have hlen : (prt l0 l1).length ≤ 100000000 := by
        unfold prt
        simp only [List.length_append, List.length_cons, List.length_nil]
        omega
      have hre : ∀ r : ByteArray × Int, ((prt l0 l1).length > 1048576 → r = (⟨#[]⟩, 6)) → (¬ (prt l0 l1).length > 1048576 → r = (⟨(prt l0 l1).toArray⟩, 0)) → Ev (fun k => payoffref05_Print.f k l0 l1) r := fun r hbig hsmall => by
        rw [hv] at e2
        unfold payoffref05_Print.f
        exact Ev.bind e2 (Ev.pos rfl (rp_l0 l0 l1 hlen (by omega) (by omega) hcells (fun r hr => by have := hr64 r hr; omega) r hbig hsmall l0.length 0 [100, 97, 121] (by omega) rfl))
      by_cases hb : (prt l0 l1).length > 1048576
      · exact ⟨⟨#[]⟩, 6, hre _ (fun _ => rfl) (fun h => absurd hb h), fun k hk => ⟨v, hk, fun h => absurd hv h, fun _ => ⟨hlen, k3, hcells, fun _ => ⟨rfl, rfl⟩, fun h => absurd hb h⟩⟩⟩
      · exact ⟨⟨(prt l0 l1).toArray⟩, 0, hre _ (fun h => absurd h hb) (fun _ => rfl), fun k hk => ⟨v, hk, fun h => absurd hv h, fun _ => ⟨hlen, k3, hcells, fun h => absurd h hb, fun _ => ⟨rfl, rfl⟩⟩⟩⟩
    · refine ⟨⟨#[]⟩, v, ?_, fun k hk => ⟨v, hk, fun _ => ⟨rfl, rfl⟩, fun h => absurd h hv⟩⟩
      unfold payoffref05_Print.f
      exact Ev.bind e2 (Ev.neg hv (Ev.ret rfl))
  obtain ⟨s, er, f2, hP⟩ := key
  obtain ⟨k, g1, g2, g3⟩ := Ev.both3 (own_ev A0.isNone A1.isNone l0 l1 (nil_of h1) (by omega) (by omega) hB) f2 e1
  exact payofflaw05_TableWrites.calls k A0 c0 l0 A1 c1 l1 _ _ s er w h0 hc0 h1 hc1 g1 (hP k g3) g2 ⟨rfl, by omega⟩ ⟨rfl, by omega, fun r hr => by have := hB r hr; omega⟩ (nil_of h0) hG
end Go.Proofs.YtppojbafagneeaaDoor.Pure
