/- Own text: TableNumbers: each number of a table stands in its text as num writes it, with one space ahead of it; and a word that num does not take is no cell; for every number and every word. -/
import Derived.Test.YtppojbafagneeaaDoorParBack
import Derived.Test.YtppojbafagneeaaDoorQTableNumbers
import Derived.SizedLaws
namespace Go.Proofs.YtppojbafagneeaaDoor.Pure
open Go.RowKit Go.Maps Go.ChangeShapes Go.WideShapes Go.Proofs.YtppojbafagneeaaDoor.PTab Go.Proofs.YtppojbafagneeaaDoorW.PrintWords Go.Proofs.YtppojbafagneeaaDoorW.PrintLast Go.Proofs.YtppojbafagneeaaDoorW.PrintMore
set_option linter.unusedVariables false
set_option linter.unusedSimpArgs false
def nmA : List ByteArray := [(⟨#[65]⟩ : ByteArray)]
theorem one_valid (v : Int) : validT nmA [[(⟨true, v⟩ : S52)]] = 0 := by
  rw [valid_iff]
  refine ⟨by decide, by simp, ?_, ?_, ?_⟩
  · intro n hn
    rw [List.mem_singleton.1 hn]
    decide +kernel
  · simp [nmA]
  · intro r hr
    rw [List.mem_singleton.1 hr]
    exact ⟨rfl, fun c hc => by rw [List.mem_singleton.1 hc]; intro h; cases h⟩
theorem one_prt (v : Int) : prt nmA [[(⟨true, v⟩ : S52)]] = [100, 97, 121, 32, 65, 10, 48, 32] ++ Lib.itoa v ++ [10] := by
  have e0 : (dec ((0 : Nat) : Int)).data.toList = [48] := by
    rw [dec_nat, Lib.decDigits_one (by decide)]; rfl
  unfold prt nmA
  simp only [namesL, rowsL, cellsL]
  rw [e0]
  have e1 : (wordB (⟨true, v⟩ : S52)).data.toList = Lib.itoa v := by unfold wordB; rw [if_pos rfl, dec_list]
  rw [e1]
  simp
/-! the text around a word -/
theorem wds_word0 (w : List UInt8) : ∀ (cur : List UInt8) (st p : Nat) (rest : List UInt8), cur ≠ [] → (∀ c ∈ w, c ≠ 35 ∧ blkB c = false) → wds cur st (w ++ rest) p = wds (cur ++ w) st rest (p + w.length) := by
  induction w with
  | nil => intro cur st p rest _ _; simp
  | cons c r ih =>
    intro cur st p rest hc h
    obtain ⟨h1, h2⟩ := h c List.mem_cons_self
    rw [List.cons_append, wds, if_neg h1, if_neg (by rw [h2]; decide), if_neg hc, ih (cur ++ [c]) st (p + 1) rest (by simp) (fun x hx => h x (List.mem_cons_of_mem _ hx))]
    simp [Nat.add_assoc, Nat.add_comm 1]
theorem wds_one (w : List UInt8) (p : Nat) (hw : Clean w) : wds [] 0 w p = [wd w p] := by
  obtain ⟨hne, hc⟩ := hw
  cases w with
  | nil => exact absurd rfl hne
  | cons c r =>
    obtain ⟨h1, h2, -⟩ := hc c List.mem_cons_self
    rw [wds, if_neg h1, if_neg (by rw [h2]; decide), if_pos rfl]
    have := wds_word0 r ([] ++ [c]) p (p + 1) [] (by simp) (fun x hx => ⟨(hc x (List.mem_cons_of_mem _ hx)).1, (hc x (List.mem_cons_of_mem _ hx)).2.1⟩)
    rw [List.append_nil] at this
    rw [this]
    simp [wds, emit]
theorem word_lines (w : List UInt8) (hw : Clean w) : linesOf ([100, 97, 121, 32, 65, 10, 48, 32] ++ w) = [[100, 97, 121, 32, 65], 48 :: 32 :: w] := by
  have e : ([100, 97, 121, 32, 65, 10, 48, 32] : List UInt8) ++ w = [100, 97, 121, 32, 65] ++ 10 :: (48 :: 32 :: w) := by simp
  rw [e, lines_app, lines_one _ (by decide), lines_one]
  · rfl
  · intro c hc
    rcases List.mem_cons.1 hc with rfl | hc
    · decide
    rcases List.mem_cons.1 hc with rfl | hc
    · decide
    exact (hw.2 c hc).2.2
theorem parse_word (w : List UInt8) (hw : Clean w) (hl : w.length ≤ 1048568) :
    parseT ([100, 97, 121, 32, 65, 10, 48, 32] ++ w) = (if w = [45] then (nmA, [[(⟨false, 0⟩ : S52)]], (0 : Int), (0 : Int)) else match numP ⟨w.toArray⟩ with
      | some n => (nmA, [[(⟨true, n⟩ : S52)]], (0 : Int), (0 : Int))
      | none => ([], [], (8 : Int), (51 : Int))) := by
  have hA : capB (⟨#[65]⟩ : ByteArray) = true := by decide +kernel
  have h1 : lineStep ps0 (wds [] 0 [100, 97, 121, 32, 65] 0) (0 + ([100, 97, 121, 32, 65] : List UInt8).length) = .inl ⟨true, nmA, []⟩ := by
    have e : wds [] 0 [100, 97, 121, 32, 65] 0 = [wd [100, 97, 121] 0, wd [65] 4] := rfl
    rw [e]
    have hh : headF [wd [100, 97, 121] 0, wd [65] 4] = (nmA, 0, 0) := by
      unfold headF
      dsimp only
      rw [if_pos (show (wd [100, 97, 121] 0).f0.data.toList = [100, 97, 121] from rfl), headGo_names nmA [wd [65] 4] [] rfl (by intro n hn; rw [List.mem_singleton.1 hn]; exact hA) (by simp [nmA]) (by decide)]
      rfl
    simp only [lineStep]
    rw [if_pos (show ps0.hd = false from rfl), hh]
    dsimp only
    rw [if_pos rfl]; rfl
  have e2 : wds [] 0 (48 :: 32 :: w) 6 = [wd [48] 6, wd w 8] := by
    rw [wds, if_neg (by decide), if_neg (by decide), wds, if_neg (by decide), if_pos (by decide), wds_one w 8 hw]
    rfl
  have hrun : runL ps0 (linesOf ([100, 97, 121, 32, 65, 10, 48, 32] ++ w)) 0 = lineStep ⟨true, nmA, []⟩ [wd [48] 6, wd w 8] (6 + (48 :: 32 :: w).length) := by
    rw [word_lines w hw, runL, h1]
    dsimp only
    rw [runL, show 0 + ([100, 97, 121, 32, 65] : List UInt8).length + 1 = 6 from rfl, e2]
    cases lineStep ⟨true, nmA, []⟩ [wd [48] 6, wd w 8] (6 + (48 :: 32 :: w).length) with
    | inl s => dsimp only; rw [runL]
    | inr q => rfl
  have hnum : numOf (wd [48] 6).f0.data.toList = (0, true) := by decide
  have hsize : ¬ 1048576 < ([100, 97, 121, 32, 65, 10, 48, 32] ++ w).length := by rw [List.length_append]; simp; omega
  unfold parseT
  rw [if_neg hsize, hrun]
  simp only [lineStep]
  rw [if_neg (by decide), hnum]
  dsimp only
  rw [if_neg (by rintro (h | h); · cases h
                 · have := h.2; simp at this), if_neg (by decide)]
  have hn1 : nmA.length = 1 := rfl
  rw [hn1, cellsGo, if_neg (show ¬ ([] : List S52).length = 1 by decide)]
  have ew : (wd w 8).f0.data.toList = w := rfl
  rw [ew]
  by_cases hd : w = [45]
  · rw [if_pos hd, if_pos hd, cellsGo]
    rfl
  · rw [if_neg hd, if_neg hd]
    have e3 : (wd w 8).f0 = ⟨w.toArray⟩ := rfl
    rw [e3]
    cases hn : numP ⟨w.toArray⟩ with
    | some n =>
      rfl
    | none => rfl
/-! the law -/
theorem nums_j2 (s : ByteArray) (hw : Clean s.data.toList ∨ s.data.toList = [] ∨ 1048568 < s.size) (hs : s.size ≤ 140737488351232) (b : Bool) (hb : b = false → Clean s.data.toList ∧ s.size ≤ 1048568) : Ev (fun k => payofflaw05_TableNumbers.j2 k s b) true := by
  refine Ev.step (fun k => payofflaw05_TableNumbers.j2.eq_2 ..) ?_
  cases b with
  | true => exact Ev.pos rfl (Ev.ret rfl)
  | false =>
    obtain ⟨hc, hl⟩ := hb rfl
    have hsz : s.size = s.data.toList.length := by simp
    have hdat : ((⟨#[100, 97, 121, 32, 65, 10, 48, 32]⟩ : ByteArray) ++ s).data.toList = [100, 97, 121, 32, 65, 10, 48, 32] ++ s.data.toList := by
      rw [ByteArray.data_append, Array.toList_append]
    have hpe := parse_ev ((⟨#[100, 97, 121, 32, 65, 10, 48, 32]⟩ : ByteArray) ++ s)
    rw [hdat, parse_word _ hc (by omega)] at hpe
    have hss : (⟨s.data.toList.toArray⟩ : ByteArray) = s := by apply ByteArray.ext; simp
    rw [hss] at hpe
    refine Ev.neg (by decide) (Ev.pos (by omega) (Ev.bind hpe ?_))
    cases hn : numP s with
    | some n =>
      have hnp : num_Parse.f s 0 = some (n, 0) := by unfold num_Parse.f; rw [if_pos ⟨rfl, hs⟩, hn]
      have hnd : ¬ s.data.toList = [45] := by
        intro h
        obtain ⟨rfl, -, -⟩ := numP_some hn
        rw [dec_list] at h
        exact itoa_dash n h
      rw [if_neg hnd]
      refine Ev.call hnp (Ev.pos rfl (Ev.pos rfl (Ev.pos rfl (Ev.pos (by show (0 : Int) < 1; decide) (Ev.pos rfl (Ev.pos ?_ (Ev.call rfl (Ev.ret ?_))))))))
      · show (0 : Int) < 1; decide
      · simp [rd_T52, rd_L4]
    | none =>
      have hnp : num_Parse.f s 0 = some (0, 11) := by unfold num_Parse.f; rw [if_pos ⟨rfl, hs⟩, hn]
      refine Ev.call hnp (Ev.neg (by decide) ?_)
      by_cases hd : s.data.toList = [45]
      · rw [if_pos hd]
        exact Ev.pos ((ba_list _ _).2 hd) (Ev.ret rfl)
      · rw [if_neg hd]
        exact Ev.neg (fun h => hd ((ba_list _ _).1 h)) (Ev.pos rfl (Ev.ret rfl))
theorem nums_l0 (s : ByteArray) (hs : s.size ≤ 140737488351232) : ∀ d i : Nat, i + d = s.size → (∀ j, j < i → ∀ h : j < s.data.toList.length, s.data.toList[j] ≠ 35 ∧ blkB s.data.toList[j] = false ∧ s.data.toList[j] ≠ 10) → Ev (fun k => payofflaw05_TableNumbers.l0 k s (i : Int)) true := by
  have hsz : s.size = s.data.toList.length := by simp
  intro d
  induction d with
  | zero =>
    intro i hi h
    refine Ev.step (fun k => payofflaw05_TableNumbers.l0.eq_2 ..) (Ev.neg (by omega) ?_)
    by_cases he : s.data.toList = []
    · exact Ev.pos ((ba_list _ _).2 he) (nums_j2 s (Or.inr (Or.inl he)) hs true (fun h => by cases h))
    · refine Ev.neg (fun h => he ((ba_list _ _).1 h)) ?_
      have hc : Clean s.data.toList := ⟨he, fun c hc => by
        obtain ⟨j, hj, rfl⟩ := List.getElem_of_mem hc
        exact h j (by omega) hj⟩
      by_cases hl : (s.size : Int) > 1048568
      · rw [decide_eq_true hl]; exact nums_j2 s (Or.inl hc) hs true (fun h => by cases h)
      · rw [decide_eq_false hl]; exact nums_j2 s (Or.inl hc) hs false (fun _ => ⟨hc, by omega⟩)
  | succ d ih =>
    intro i hi h
    have hil : i < s.data.toList.length := by omega
    have hb := bt_list s i hil
    refine Ev.step (fun k => payofflaw05_TableNumbers.l0.eq_2 ..) (Ev.pos (by omega) (Ev.pos (by omega) ?_))
    rw [hb]
    have hne : ∀ (k : Nat) (u : UInt8), u.toNat = k → ¬ ((s.data.toList[i].toNat : Int) = (k : Int)) → s.data.toList[i] ≠ u := by
      rintro k u hu hn rfl; exact hn (by omega)
    by_cases c1 : (s.data.toList[i].toNat : Int) = 32
    · exact Ev.pos c1 (Ev.ret rfl)
    by_cases c2 : (s.data.toList[i].toNat : Int) = 9
    · exact Ev.neg c1 (Ev.pos c2 (Ev.ret rfl))
    by_cases c3 : (s.data.toList[i].toNat : Int) = 13
    · exact Ev.neg c1 (Ev.neg c2 (Ev.pos c3 (Ev.ret rfl)))
    by_cases c4 : (s.data.toList[i].toNat : Int) = 10
    · exact Ev.neg c1 (Ev.neg c2 (Ev.neg c3 (Ev.pos c4 (Ev.ret rfl))))
    by_cases c5 : (s.data.toList[i].toNat : Int) = 35
    · exact Ev.neg c1 (Ev.neg c2 (Ev.neg c3 (Ev.neg c4 (Ev.pos c5 (Ev.ret rfl)))))
    refine Ev.neg c1 (Ev.neg c2 (Ev.neg c3 (Ev.neg c4 (Ev.neg c5 ?_))))
    rw [w64n i (by omega)]
    refine ih (i + 1) (by omega) (fun j hj hjl => ?_)
    by_cases e : j = i
    · subst e
      refine ⟨hne 35 35 rfl c5, ?_, hne 10 10 rfl c4⟩
      unfold blkB
      simp only [Bool.or_eq_false_iff, beq_eq_false_iff_ne, ne_eq]
      exact ⟨⟨hne 32 32 rfl c1, hne 9 9 rfl c2⟩, hne 13 13 rfl c3⟩
    · exact h j (by omega) hjl
theorem nums_ev (v : Int) (s : ByteArray) (hv : -9223372036854775808 ≤ v ∧ v ≤ 9223372036854775807) (hs : s.size ≤ 140737488351232) : Ev (fun k => payofflaw05_TableNumbers.f k v s) true := by
  have hcell : ∀ r ∈ [[(⟨true, v⟩ : S52)]], ∀ c ∈ r, -9223372036854775808 ≤ c.f1 ∧ c.f1 ≤ 9223372036854775807 := by
    intro r hr c hc
    rw [List.mem_singleton.1 hr] at hc
    rw [List.mem_singleton.1 hc]; exact hv
  have hsm : SmallT nmA [[(⟨true, v⟩ : S52)]] := by
    refine ⟨by decide, fun n hn => by rw [List.mem_singleton.1 hn]; decide, by show 1 < 5864062014804; decide, fun r hr => ⟨?_, hcell r hr⟩⟩
    rw [List.mem_singleton.1 hr]; show 1 ≤ 8796093022204; decide
  have hlen := prt_len nmA [[(⟨true, v⟩ : S52)]] (by decide) (by show 1 ≤ 4096; decide) (fun n hn => by rw [List.mem_singleton.1 hn]; decide) (fun r hr => by rw [List.mem_singleton.1 hr]; show 1 ≤ 64; decide) hcell
  have h1 : ([[(⟨true, v⟩ : S52)]] : List (List S52)).length = 1 := rfl
  have hpr : table_Print.f nmA [[(⟨true, v⟩ : S52)]] = some (⟨(prt nmA [[(⟨true, v⟩ : S52)]]).toArray⟩, 0) := by
    unfold table_Print.f
    rw [if_pos hsm]
    unfold printT
    rw [if_pos (one_valid v), if_neg (by omega)]
  have htx : num_Text.f v 0 = some (dec v, 0) := by unfold num_Text.f; rw [if_pos ⟨rfl, hv.1, hv.2⟩]
  have hds := dec_size v hv.1 hv.2
  have hD : (⟨#[100, 97, 121, 32, 65, 10, 48, 32]⟩ : ByteArray).size = 8 := rfl
  unfold payofflaw05_TableNumbers.f
  refine Ev.call rfl (Ev.call hpr (Ev.call htx (Ev.pos rfl (Ev.pos rfl (Ev.pos (by show 8 + (dec v).size ≤ _; omega) (Ev.pos (by rw [ByteArray.size_append, hD]; show 8 + (dec v).size + 1 ≤ _; omega) ?_))))))
  have heq : ((⟨(prt nmA [[(⟨true, v⟩ : S52)]]).toArray⟩ : ByteArray).toList != (((⟨#[100, 97, 121, 32, 65, 10, 48, 32]⟩ : ByteArray) ++ dec v) ++ (⟨#[10]⟩ : ByteArray)).toList) = false := by
    rw [bne_eq_false_iff_eq, ByteArray.toList_eq, ByteArray.toList_eq, ByteArray.data_append, ByteArray.data_append, Array.toList_append, Array.toList_append, dec_list]
    exact one_prt v
  rw [heq]
  exact Ev.step (fun k => payofflaw05_TableNumbers.j0.eq_2 ..) (Ev.neg (by decide) (nums_l0 s hs s.size 0 (by omega) (fun j hj => by omega)))
theorem TableNumbers_walk (v : Int) (s : ByteArray) (w : World) (w0 : (Lit.int .i64 v).wf = true) (hs : s.size ≤ 140737488351232) (hL : GR w) :
    Calls Tryd.prog 13 #[.int .i64 v, .string s] w fun e w' => e = .returned (.bool true) ∧ Below w.heap.size w w' := by
  obtain ⟨k, h⟩ := (nums_ev v s (wf64 w0) hs).rounds
  exact payofflaw05_TableNumbers.calls k v s true w h hL
end Go.Proofs.YtppojbafagneeaaDoor.Pure
