/- Own text: parse of print gives back; what is read is valid: plain Lean. -/
import Derived.Test.YtppojbafagneeaaDoorParPure
import Derived.Test.YtppojbafagneeaaDoorParPrn
namespace Go.Proofs.YtppojbafagneeaaDoor.Pure
open Go.RowKit Go.Maps Go.ChangeShapes Go.WideShapes Go.Proofs.YtppojbafagneeaaDoor.PTab Go.Proofs.YtppojbafagneeaaDoorW.PrintWords Go.Proofs.YtppojbafagneeaaDoorW.PrintLast Go.Proofs.YtppojbafagneeaaDoorW.PrintMore
set_option linter.unusedVariables false
set_option linter.unusedSimpArgs false
/-! numbers' texts -/
theorem dd_step (u : Nat) (h : ¬ u < 10) : Lib.decDigits u = Lib.decDigits (u / 10) ++ [UInt8.ofNat (48 + u % 10)] := by
  rw [Lib.decDigits, dif_neg h]
theorem dig_nat (d : Nat) (h : d < 10) : (UInt8.ofNat (48 + d)).toNat = 48 + d := by
  rw [UInt8.toNat_ofNat']; omega
theorem dd_dig : ∀ (u : Nat), ∀ c ∈ Lib.decDigits u, 48 ≤ c.toNat ∧ c.toNat ≤ 57 := by
  intro u
  induction u using Nat.strongRecOn with
  | ind u ih =>
    by_cases h : u < 10
    · rw [Lib.decDigits_one h]
      intro c hc
      rw [List.mem_singleton.1 hc, dig_nat u h]; omega
    · rw [dd_step u h]
      intro c hc
      rcases List.mem_append.1 hc with hc | hc
      · exact ih (u / 10) (by omega) c hc
      · rw [List.mem_singleton.1 hc, dig_nat _ (by omega)]; omega
theorem dd_ne (u : Nat) : Lib.decDigits u ≠ [] := by
  intro h
  by_cases h1 : u < 10
  · rw [Lib.decDigits_one h1] at h; cases h
  · rw [dd_step u h1] at h; simp at h
theorem dd_head : ∀ (u : Nat), 0 < u → (Lib.decDigits u).head? ≠ some 48 := by
  intro u
  induction u using Nat.strongRecOn with
  | ind u ih =>
    intro hu
    by_cases h : u < 10
    · rw [Lib.decDigits_one h]
      intro e
      have := congrArg UInt8.toNat (Option.some.inj e)
      rw [dig_nat u h, show (48 : UInt8).toNat = 48 from rfl] at this
      omega
    · rw [dd_step u h]
      have := ih (u / 10) (by omega) (by omega)
      cases hd : Lib.decDigits (u / 10) with
      | nil => exact absurd hd (dd_ne _)
      | cons c r => rw [hd] at this; exact this
theorem numGo_app (a : List UInt8) : ∀ (v : Int) (b : List UInt8), numGo v (a ++ b) = (numGo v a).bind (fun x => numGo x b) := by
  induction a with
  | nil => intro v b; rfl
  | cons c r ih =>
    intro v b
    simp only [List.cons_append, numGo]
    split
    · exact ih _ b
    · rfl
theorem numGo_dd : ∀ (u : Nat), u ≤ 4096 → numGo 0 (Lib.decDigits u) = some (u : Int) := by
  intro u
  induction u using Nat.strongRecOn with
  | ind u ih =>
    intro hu
    by_cases h : u < 10
    · rw [Lib.decDigits_one h]
      have := dig_nat u h
      simp only [numGo]
      rw [if_pos (by omega), this]
      congr 1; omega
    · rw [dd_step u h, numGo_app, ih (u / 10) (by omega) (by omega)]
      have := dig_nat (u % 10) (by omega)
      simp only [Option.bind_some, numGo]
      rw [if_pos (by omega), this]
      congr 1; omega
theorem dec_nat (d : Nat) : (dec (d : Int)).data.toList = Lib.decDigits d := by
  unfold dec
  show (Lib.itoa (d : Int)).toArray.toList = _
  unfold Lib.itoa
  rw [if_neg (by omega)]
  simp
theorem numOf_dec (d : Nat) (h : d < 4096) : numOf (dec (d : Int)).data.toList = ((d : Int), true) := by
  rw [dec_nat]
  unfold numOf
  rw [numGo_dd d (by omega), if_neg]
  rintro ⟨h1, h2⟩
  by_cases h3 : d < 10
  · rw [Lib.decDigits_one h3] at h1; simp at h1
  · exact dd_head d (by omega) h2
theorem parseM_app (M : Nat) (a : List UInt8) : ∀ (acc : Nat) (b : List UInt8) (x : Nat), Lib.parseUintM M acc a = .ok x → Lib.parseUintM M acc (a ++ b) = Lib.parseUintM M x b := by
  induction a with
  | nil => intro acc b x h; simp only [Lib.parseUintM] at h; rw [Lib.NumEnd.ok.inj h]; rfl
  | cons c r ih =>
    intro acc b x h
    simp only [List.cons_append, Lib.parseUintM] at h ⊢
    split at h
    · rename_i h1
      rw [if_pos h1]
      split at h
      · cases h
      · rename_i h2
        rw [if_neg h2]
        split at h
        · cases h
        · rename_i h3
          rw [if_neg h3]
          exact ih _ b x h
    · cases h
theorem parseM_dd : ∀ (u : Nat), u ≤ 9223372036854775808 → Lib.parseUintM 18446744073709551615 0 (Lib.decDigits u) = .ok u := by
  intro u
  induction u using Nat.strongRecOn with
  | ind u ih =>
    intro hu
    by_cases h : u < 10
    · rw [Lib.decDigits_one h]
      have := dig_nat u h
      simp only [Lib.parseUintM]
      rw [if_pos (by omega), this, if_neg (by omega), if_neg (by omega)]
      congr 1; omega
    · rw [dd_step u h, parseM_app _ _ 0 _ (u / 10) (ih (u / 10) (by omega) (by omega))]
      have := dig_nat (u % 10) (by omega)
      simp only [Lib.parseUintM]
      rw [if_pos (by omega), this, if_neg (by omega), if_neg (by omega)]
      congr 1; omega
theorem parseU_dd (u : Nat) (h : u ≤ 9223372036854775808) : Lib.parseUintB 64 (Lib.decDigits u) = .ok u := by
  unfold Lib.parseUintB
  rw [if_neg (dd_ne u), show 2 ^ 64 - 1 = 18446744073709551615 from rfl, parseM_dd u h]
theorem parseI_itoa (v : Int) (h0 : -9223372036854775808 ≤ v) (h1 : v ≤ 9223372036854775807) : Lib.parseIntB 64 (Lib.itoa v) = .ok v := by
  unfold Lib.itoa
  by_cases hv : v < 0
  · rw [if_pos hv]
    unfold Lib.parseIntB
    dsimp only
    have h45 : (45 : UInt8).toNat = 45 := rfl
    rw [if_pos (show (45 : UInt8).toNat = 43 ∨ (45 : UInt8).toNat = 45 from Or.inr rfl), parseU_dd _ (by omega)]
    dsimp only
    have e63 : (2 : Nat) ^ (64 - 1) = 9223372036854775808 := rfl
    rw [if_neg (fun h => h.1 h45), if_neg (fun h => by have := h.2; omega), if_pos h45]
    congr 1; omega
  · rw [if_neg hv]
    obtain ⟨c, r, hc⟩ : ∃ c r, Lib.decDigits v.toNat = c :: r := by
      cases hd : Lib.decDigits v.toNat with
      | nil => exact absurd hd (dd_ne _)
      | cons c r => exact ⟨c, r, rfl⟩
    have hcd := dd_dig v.toNat c (by rw [hc]; exact List.mem_cons_self)
    have hU := parseU_dd v.toNat (by omega)
    rw [hc] at hU ⊢
    unfold Lib.parseIntB
    dsimp only
    rw [if_neg (by omega), hU]
    dsimp only
    rw [if_neg (by rintro ⟨-, h⟩; have : (2 : Nat) ^ (64 - 1) = 9223372036854775808 := rfl; omega), if_neg (by omega), if_neg (by omega)]
    congr 1; omega
theorem itoa_mem (v : Int) : ∀ c ∈ Lib.itoa v, c = 45 ∨ (48 ≤ c.toNat ∧ c.toNat ≤ 57) := by
  intro c hc
  unfold Lib.itoa at hc
  split at hc
  · rcases List.mem_cons.1 hc with h | h
    · exact Or.inl h
    · exact Or.inr (dd_dig _ c h)
  · exact Or.inr (dd_dig _ c hc)
theorem itoa_ne (v : Int) : Lib.itoa v ≠ [] := by
  unfold Lib.itoa
  split
  · simp
  · exact dd_ne _
theorem itoa_dash (v : Int) : Lib.itoa v ≠ [45] := by
  unfold Lib.itoa
  split
  · intro h
    exact dd_ne _ (List.cons.inj h).2
  · intro h
    have := dd_dig v.toNat 45 (by rw [h]; exact List.mem_cons_self)
    exact absurd this (by decide)
theorem cut1_no : ∀ l : List UInt8, (∀ c ∈ l, c ≠ 46) → cut1 l = l := by
  intro l
  induction l with
  | nil => intro _; rfl
  | cons c r ih => intro h; rw [cut1, if_neg (h c List.mem_cons_self), ih (fun x hx => h x (List.mem_cons_of_mem _ hx))]
theorem dec_list (v : Int) : (dec v).data.toList = Lib.itoa v := by unfold dec; rfl
theorem numP_dec (v : Int) (h0 : -9223372036854775808 ≤ v) (h1 : v ≤ 9223372036854775807) : numP (dec v) = some v := by
  unfold numP
  have e : cut1 (dec v).data.toList = Lib.itoa v := by
    rw [dec_list]
    refine cut1_no _ (fun c hc => ?_)
    rcases itoa_mem v c hc with h | h
    · rw [h]; decide
    · rintro rfl; exact absurd h (by decide)
  rw [e]
  unfold pintOf
  rw [parseI_itoa v h0 h1]
  dsimp only
  rw [if_pos ⟨rfl, rfl⟩]
theorem numP_some {s : ByteArray} {v : Int} (h : numP s = some v) : s = dec v ∧ -9223372036854775808 ≤ v ∧ v ≤ 9223372036854775807 := by
  unfold numP at h
  obtain ⟨⟨u, c⟩, hp⟩ : ∃ q, pintOf (cut1 s.data.toList) = q := ⟨_, rfl⟩
  rw [hp] at h
  dsimp only at h
  split at h
  · rename_i hc
    obtain rfl := Option.some.inj h
    exact ⟨hc.2.symm, pint_in64 hp hc.1⟩
  · cases h
/-! words that stand behind each other -/
def Clean (w : List UInt8) : Prop := w ≠ [] ∧ ∀ c ∈ w, c ≠ 35 ∧ blkB c = false ∧ c ≠ 10
def spl : List (List UInt8) → List UInt8
  | [] => []
  | w :: t => 32 :: (w ++ spl t)
def txt (x : S115) : List UInt8 := x.f0.data.toList
theorem wds_word (w : List UInt8) : ∀ (cur : List UInt8) (st p : Nat) (rest : List UInt8), (∀ c ∈ w, c ≠ 35 ∧ blkB c = false ∧ c ≠ 10) → ∃ st', wds cur st (w ++ rest) p = wds (cur ++ w) st' rest (p + w.length) := by
  induction w with
  | nil => intro cur st p rest _; exact ⟨st, by simp⟩
  | cons c r ih =>
    intro cur st p rest h
    obtain ⟨h1, h2, -⟩ := h c List.mem_cons_self
    obtain ⟨st', e⟩ := ih (cur ++ [c]) (if cur = [] then p else st) (p + 1) rest (fun x hx => h x (List.mem_cons_of_mem _ hx))
    refine ⟨st', ?_⟩
    rw [List.cons_append, wds, if_neg h1, if_neg (by rw [h2]; decide), e]
    simp [Nat.add_assoc, Nat.add_comm 1]
theorem wds_spl : ∀ (ws : List (List UInt8)), (∀ w ∈ ws, Clean w) → ∀ (cur : List UInt8) (st p : Nat), cur ≠ [] → (wds cur st (spl ws) p).map txt = cur :: ws := by
  intro ws
  induction ws with
  | nil => intro _ cur st p hc; simp [spl, wds, emit, hc, wd, txt]
  | cons w t ih =>
    intro h cur st p hc
    obtain ⟨hw1, hw2⟩ := h w List.mem_cons_self
    obtain ⟨st', e⟩ := wds_word w [] 0 (p + 1) (spl t) hw2
    have := ih (fun x hx => h x (List.mem_cons_of_mem _ hx)) w st' (p + 1 + w.length) hw1
    rw [spl, wds, if_neg (by decide), if_pos (by decide), e, List.nil_append, List.map_append, this]
    simp [emit, hc, wd, txt]
theorem wds_line (w : List UInt8) (ws : List (List UInt8)) (hw : Clean w) (h : ∀ x ∈ ws, Clean x) (p : Nat) : (wds [] 0 (w ++ spl ws) p).map txt = w :: ws := by
  obtain ⟨st', e⟩ := wds_word w [] 0 p (spl ws) hw.2
  rw [e, List.nil_append]
  exact wds_spl ws h w st' _ hw.1
/-! the first line -/
theorem ba_of_list {a b : ByteArray} (h : a.data.toList = b.data.toList) : a = b := ByteArray.ext (Array.toList_inj.1 h)
theorem headGo_names : ∀ (names : List ByteArray) (xs : List S115) (ns : List ByteArray), xs.map txt = names.map (fun n => n.data.toList) → (∀ n ∈ names, capB n = true) → (ns ++ names).Nodup → ns.length + names.length ≤ 64 → headGo ns xs = (ns ++ names, 0, 0) := by
  intro names
  induction names with
  | nil =>
    intro xs ns hx _ _ _
    have : xs = [] := by simpa using hx
    rw [this, headGo, List.append_nil]
  | cons n t ih =>
    intro xs ns hx hc hd hl
    cases xs with
    | nil => simp at hx
    | cons x r =>
      rw [List.map_cons, List.map_cons] at hx
      obtain ⟨h1, h2⟩ := List.cons.inj hx
      have hxn : x.f0 = n := ba_of_list h1
      have hnot : inB n ns = false := by
        cases hb : inB n ns with
        | false => rfl
        | true => exact absurd rfl ((List.nodup_append.1 hd).2.2 n ((inB_iff n ns).1 hb) n List.mem_cons_self)
      simp only [List.length_cons] at hl
      rw [headGo, if_neg (by omega), hxn, if_pos ⟨hc n List.mem_cons_self, hnot⟩]
      rw [ih r (ns ++ [n]) h2 (fun m hm => hc m (List.mem_cons_of_mem _ hm)) (by simpa using hd) (by rw [List.length_append]; simp; omega)]
      simp
/-! a row -/
def CellOk (c : S52) : Prop := (c.f0 = false → c.f1 = 0) ∧ -9223372036854775808 ≤ c.f1 ∧ c.f1 ≤ 9223372036854775807
theorem cellsGo_row (n : Nat) (e : Int) : ∀ (r : List S52) (xs : List S115) (acc : List S52), xs.map txt = r.map (fun c => (wordB c).data.toList) → (∀ c ∈ r, CellOk c) → acc.length + r.length = n → cellsGo n e acc xs = (acc ++ r, 0, 0) := by
  intro r
  induction r with
  | nil =>
    intro xs acc hx _ hn
    have : xs = [] := by simpa using hx
    simp only [List.length_nil] at hn
    rw [this, cellsGo, if_neg (by omega), List.append_nil]
  | cons c t ih =>
    intro xs acc hx hc hn
    cases xs with
    | nil => simp at hx
    | cons x q =>
      rw [List.map_cons, List.map_cons] at hx
      obtain ⟨h1, h2⟩ := List.cons.inj hx
      simp only [List.length_cons] at hn
      have hxw : x.f0 = wordB c := ba_of_list h1
      obtain ⟨k1, k2, k3⟩ := hc c List.mem_cons_self
      have hrec : ∀ acc' : List S52, acc' = acc ++ [c] → cellsGo n e acc' q = (acc ++ (c :: t), 0, 0) := by
        rintro _ rfl
        rw [ih q (acc ++ [c]) h2 (fun m hm => hc m (List.mem_cons_of_mem _ hm)) (by rw [List.length_append]; simp; omega)]
        simp
      rw [cellsGo, if_neg (by omega), hxw]
      cases hf : c.f0 with
      | false =>
        have hw : (wordB c).data.toList = [45] := by unfold wordB; rw [if_neg (by rw [hf]; decide)]
        rw [if_pos hw]
        refine hrec _ ?_
        have : c = ⟨false, 0⟩ := by cases c; simp_all
        rw [this]
      | true =>
        have hw : wordB c = dec c.f1 := by unfold wordB; rw [if_pos hf]
        rw [hw, dec_list, if_neg (itoa_dash _), numP_dec _ k2 k3]
        refine hrec _ ?_
        have : c = ⟨true, c.f1⟩ := by cases c; simp_all
        rw [← this]
/-! the lines of a print -/
theorem lines_app : ∀ (a b : List UInt8), linesOf (a ++ 10 :: b) = linesOf a ++ linesOf b := by
  intro a b
  induction a with
  | nil => simp [linesOf]
  | cons c r ih =>
    rw [List.cons_append, linesOf, linesOf]
    by_cases hc : c = 10
    · rw [if_pos hc, if_pos hc, ih, List.cons_append]
    · rw [if_neg hc, if_neg hc, ih]
      cases hl : linesOf r with
      | nil => exact absurd hl (by cases r with
          | nil => simp [linesOf]
          | cons d q => rw [linesOf]; split <;> first | simp | (split <;> simp))
      | cons x y => rfl
theorem lines_one (a : List UInt8) (h : ∀ c ∈ a, c ≠ 10) : linesOf a = [a] := by
  induction a with
  | nil => rfl
  | cons c r ih => rw [linesOf, if_neg (h c List.mem_cons_self), ih (fun x hx => h x (List.mem_cons_of_mem _ hx))]
theorem names_spl (l : List ByteArray) : namesL l = spl (l.map (fun n => n.data.toList)) := by
  induction l with
  | nil => rfl
  | cons n t ih => rw [namesL, List.map_cons, spl, ih]; simp
theorem cells_spl (r : List S52) : cellsL r = spl (r.map (fun c => (wordB c).data.toList)) := by
  induction r with
  | nil => rfl
  | cons c t ih => rw [cellsL, List.map_cons, spl, ih]; simp
theorem spl_no (ws : List (List UInt8)) (h : ∀ w ∈ ws, Clean w) : ∀ c ∈ spl ws, c ≠ 10 := by
  induction ws with
  | nil => intro c hc; cases hc
  | cons w t ih =>
    intro c hc
    rw [spl] at hc
    rcases List.mem_cons.1 hc with hc | hc
    · rw [hc]; decide
    · rcases List.mem_append.1 hc with hc | hc
      · exact ((h w List.mem_cons_self).2 c hc).2.2
      · exact ih (fun x hx => h x (List.mem_cons_of_mem _ hx)) c hc
theorem dig_clean {c : UInt8} (h : c = 45 ∨ (48 ≤ c.toNat ∧ c.toNat ≤ 57)) : c ≠ 35 ∧ blkB c = false ∧ c ≠ 10 := by
  rcases h with rfl | h
  · decide
  · refine ⟨by rintro rfl; exact absurd h (by decide), ?_, by rintro rfl; exact absurd h (by decide)⟩
    unfold blkB
    simp only [Bool.or_eq_false_iff, beq_eq_false_iff_ne, ne_eq]
    refine ⟨⟨?_, ?_⟩, ?_⟩ <;> (rintro rfl; exact absurd h (by decide))
theorem dec_clean (v : Int) : Clean (dec v).data.toList := by
  rw [dec_list]
  exact ⟨itoa_ne v, fun c hc => dig_clean (itoa_mem v c hc)⟩
theorem word_clean (c : S52) : Clean (wordB c).data.toList := by
  unfold wordB
  split
  · exact dec_clean _
  · exact ⟨by decide, by decide⟩
theorem cap_bytes {s : ByteArray} (h : capB s = true) : ∀ c ∈ s.data.toList, okB ((c.toNat : Nat) : Int) = true := by
  unfold capB at h
  simp only [Bool.and_eq_true, decide_eq_true_eq] at h
  obtain ⟨⟨⟨h1, h2⟩, h3⟩, h4⟩ := h
  have hsz : s.size = s.data.toList.length := by simp
  have key : ∀ d i : Nat, capl s d i = true → ∀ j, i ≤ j → j < i + d → okB (bt s (j : Int)) = true := by
    intro d
    induction d with
    | zero => intro i _ j h1 h2; omega
    | succ d ih =>
      intro i h j h1 h2
      rw [capl, Bool.and_eq_true] at h
      by_cases e : j = i
      · rw [e]; exact h.1
      · exact ih (i + 1) h.2 j (by omega) (by omega)
  intro c hc
  obtain ⟨j, hj, rfl⟩ := List.getElem_of_mem hc
  rw [← bt_list s j hj]
  by_cases e : j = 0
  · rw [e]
    unfold okB
    rw [show ((0 : Nat) : Int) = 0 from rfl, h3]; rfl
  · exact key (s.size - 1) 1 h4 j (by omega) (by omega)
theorem cap_clean {s : ByteArray} (h : capB s = true) : Clean s.data.toList := by
  have hb := cap_bytes h
  have hsz : s.size = s.data.toList.length := by simp
  refine ⟨?_, fun c hc => ?_⟩
  · intro e
    unfold capB at h
    simp only [Bool.and_eq_true, decide_eq_true_eq] at h
    have h0 : s.data.toList.length = 0 := by rw [e]; rfl
    omega
  · have := (okB_iff _).1 (hb c hc)
    have hn : ∀ d : UInt8, ¬ ((65 ≤ d.toNat ∧ d.toNat ≤ 90) ∨ (48 ≤ d.toNat ∧ d.toNat ≤ 57) ∨ d.toNat = 95) → c ≠ d := by
      rintro d hd rfl; exact hd (by omega)
    refine ⟨hn 35 (by decide), ?_, hn 10 (by decide)⟩
    unfold blkB
    simp only [Bool.or_eq_false_iff, beq_eq_false_iff_ne, ne_eq]
    exact ⟨⟨hn 32 (by decide), hn 9 (by decide)⟩, hn 13 (by decide)⟩
theorem run_rows (ns : List ByteArray) : ∀ (l : List (List S52)) (rs : List (List S52)) (p : Nat), (∀ r ∈ l, r.length = ns.length ∧ ∀ c ∈ r, CellOk c) → rs.length + l.length ≤ 4096 → runL ⟨true, ns, rs⟩ (linesOf (rowsL l rs.length)) p = .inl ⟨true, ns, rs ++ l⟩ := by
  intro l
  induction l with
  | nil => intro rs p _ _; simp [rowsL, linesOf, runL, wds, emit, lineStep]
  | cons r t ih =>
    intro rs p h hl
    obtain ⟨h1, h2⟩ := h r List.mem_cons_self
    simp only [List.length_cons] at hl
    have hcl : ∀ x ∈ r.map (fun c => (wordB c).data.toList), Clean x := by
      intro x hx
      obtain ⟨c, -, rfl⟩ := List.mem_map.1 hx
      exact word_clean c
    have hw := wds_line (dec (rs.length : Int)).data.toList (r.map (fun c => (wordB c).data.toList)) (dec_clean _) hcl p
    have hno : ∀ c ∈ (dec (rs.length : Int)).data.toList ++ spl (r.map (fun c => (wordB c).data.toList)), c ≠ 10 := by
      intro c hc
      rcases List.mem_append.1 hc with hc | hc
      · exact ((dec_clean _).2 c hc).2.2
      · exact spl_no _ hcl c hc
    have e : rowsL (r :: t) rs.length = ((dec (rs.length : Int)).data.toList ++ spl (r.map (fun c => (wordB c).data.toList))) ++ 10 :: rowsL t (rs.length + 1) := by
      rw [rowsL, cells_spl]; simp
    rw [e, lines_app, lines_one _ hno, List.singleton_append, runL]
    generalize hq : wds [] 0 ((dec (rs.length : Int)).data.toList ++ spl (r.map (fun c => (wordB c).data.toList))) p = ws at hw ⊢
    cases ws with
    | nil => simp at hw
    | cons x q =>
      rw [List.map_cons] at hw
      obtain ⟨g1, g2⟩ := List.cons.inj hw
      have g1 : x.f0.data.toList = (dec (rs.length : Int)).data.toList := g1
      have hstep : lineStep ⟨true, ns, rs⟩ (x :: q) (p + ((dec (rs.length : Int)).data.toList ++ spl (r.map (fun c => (wordB c).data.toList))).length) = .inl ⟨true, ns, rs ++ [r]⟩ := by
        simp only [lineStep]
        rw [if_neg (by decide), g1, numOf_dec rs.length (by omega)]
        dsimp only
        rw [if_neg (by rintro (h | h); · cases h
                       · omega), if_neg (by omega), cellsGo_row ns.length _ r q [] g2 h2 (by simpa using h1)]
        dsimp only
        rw [if_pos rfl, Int.toNat_natCast, Nat.sub_self]
        simp
      rw [hstep]
      dsimp only
      have := ih (rs ++ [r]) (p + ((dec (rs.length : Int)).data.toList ++ spl (r.map (fun c => (wordB c).data.toList))).length + 1) (fun x hx => h x (List.mem_cons_of_mem _ hx)) (by rw [List.length_append]; simp; omega)
      rw [List.length_append, List.length_singleton] at this
      rw [this]
      simp
theorem okC_iff (c : S52) : okC c = true ↔ (c.f0 = false → c.f1 = 0) := by
  unfold okC
  cases c.f0 <;> simp
theorem okRow_all (row : List S52) : ∀ d j : Nat, j + d = row.length → (okRow row d j = true ↔ ∀ i, j ≤ i → i < row.length → okC (rd_T52 row (i : Int)) = true) := by
  intro d
  induction d with
  | zero => intro j hj; simp only [okRow, true_iff]; intro i h1 h2; omega
  | succ d ih =>
    intro j hj
    rw [okRow, Bool.and_eq_true, ih (j + 1) (by omega)]
    constructor
    · rintro ⟨h1, h2⟩ i h3 h4
      by_cases e : i = j
      · rw [e]; exact h1
      · exact h2 i (by omega) h4
    · intro h
      exact ⟨h j (Nat.le_refl _) (by omega), fun i h1 h2 => h i (by omega) h2⟩
theorem okCells_all (rows : List (List S52)) : ∀ d i : Nat, i + d = rows.length → (okCells rows d i = true ↔ ∀ j, i ≤ j → j < rows.length → okRow (rd_L4 rows (j : Int)) (rd_L4 rows (j : Int)).length 0 = true) := by
  intro d
  induction d with
  | zero => intro i hi; simp only [okCells, true_iff]; intro j h1 h2; omega
  | succ d ih =>
    intro i hi
    rw [okCells, Bool.and_eq_true, ih (i + 1) (by omega)]
    constructor
    · rintro ⟨h1, h2⟩ j h3 h4
      by_cases e : j = i
      · rw [e]; exact h1
      · exact h2 j (by omega) h4
    · intro h
      exact ⟨h i (Nat.le_refl _) (by omega), fun j h1 h2 => h j (by omega) h2⟩
theorem okRows_all (n : Nat) (rows : List (List S52)) : ∀ d i : Nat, i + d = rows.length → (okRows n rows d i = true ↔ ∀ j, i ≤ j → j < rows.length → (rd_L4 rows (j : Int)).length = n) := by
  intro d
  induction d with
  | zero => intro i hi; simp only [okRows, true_iff]; intro j h1 h2; omega
  | succ d ih =>
    intro i hi
    rw [okRows, Bool.and_eq_true, ih (i + 1) (by omega)]
    constructor
    · rintro ⟨h1, h2⟩ j h3 h4
      by_cases e : j = i
      · rw [e]; exact of_decide_eq_true h1
      · exact h2 j (by omega) h4
    · intro h
      exact ⟨decide_eq_true (h i (Nat.le_refl _) (by omega)), fun j h1 h2 => h j (by omega) h2⟩
theorem rdL_get (l : List (List S52)) (j : Nat) (h : j < l.length) : rd_L4 l (j : Int) = l[j] := by
  unfold rd_L4
  rw [Int.toNat_natCast, List.getD_eq_getElem?_getD, List.getElem?_eq_getElem h]; rfl
theorem rdT_get (r : List S52) (j : Nat) (h : j < r.length) : rd_T52 r (j : Int) = r[j] := by
  unfold rd_T52
  rw [Int.toNat_natCast, List.getD_eq_getElem?_getD, List.getElem?_eq_getElem h]; rfl
/-- A valid table, list by list. -/
theorem valid_iff (l0 : List ByteArray) (l1 : List (List S52)) : validT l0 l1 = 0 ↔ l0.length ≤ 64 ∧ l1.length ≤ 4096 ∧ (∀ n ∈ l0, capB n = true) ∧ l0.Nodup ∧ ∀ r ∈ l1, r.length = l0.length ∧ ∀ c ∈ r, (c.f0 = false → c.f1 = 0) := by
  rw [validT_zero, good_iff, capsl_iff l0 l0.length 0 (by omega), okRows_all _ _ _ 0 (by omega), okCells_all _ _ 0 (by omega)]
  constructor
  · rintro ⟨h1, h2, h3, ⟨h4, h5⟩, h6⟩
    refine ⟨h2, h3, fun n hn => ?_, h4, fun r hr => ?_⟩
    · obtain ⟨j, hj, rfl⟩ := List.getElem_of_mem hn
      have := h5 j (Nat.zero_le _) hj
      rw [nth_get l0 j hj] at this; exact this
    · obtain ⟨j, hj, rfl⟩ := List.getElem_of_mem hr
      have a := h1 j (Nat.zero_le _) hj
      have b := h6 j (Nat.zero_le _) hj
      rw [rdL_get l1 j hj] at a b
      refine ⟨a, fun c hc => ?_⟩
      obtain ⟨i, hi, rfl⟩ := List.getElem_of_mem hc
      have := (okRow_all _ _ 0 (by omega)).1 b i (Nat.zero_le _) hi
      rw [rdT_get _ i hi] at this
      exact (okC_iff _).1 this
  · rintro ⟨h2, h3, h5, h4, h6⟩
    refine ⟨fun j _ hj => ?_, h2, h3, ⟨h4, fun j _ hj => ?_⟩, fun j _ hj => ?_⟩
    · rw [rdL_get l1 j hj]; exact (h6 _ (List.getElem_mem hj)).1
    · rw [nth_get l0 j hj]; exact h5 _ (List.getElem_mem hj)
    · rw [rdL_get l1 j hj]
      refine (okRow_all _ _ 0 (by omega)).2 (fun i _ hi => ?_)
      rw [rdT_get _ i hi]
      exact (okC_iff _).2 ((h6 _ (List.getElem_mem hj)).2 _ (List.getElem_mem hi))
/-- Parse of print gives back. -/
theorem parse_prt (l0 : List ByteArray) (l1 : List (List S52)) (hv : validT l0 l1 = 0) (hc : ∀ r ∈ l1, ∀ c ∈ r, -9223372036854775808 ≤ c.f1 ∧ c.f1 ≤ 9223372036854775807) (hl : ¬ 1048576 < (prt l0 l1).length) : parseT (prt l0 l1) = (l0, l1, 0, 0) := by
  obtain ⟨h1, h2, h3, h4, h5⟩ := (valid_iff l0 l1).1 hv
  have hcl : ∀ x ∈ l0.map (fun n => n.data.toList), Clean x := by
    intro x hx
    obtain ⟨n, hn, rfl⟩ := List.mem_map.1 hx
    exact cap_clean (h3 n hn)
  have hday : Clean [100, 97, 121] := ⟨by decide, by decide⟩
  have hw := wds_line [100, 97, 121] (l0.map (fun n => n.data.toList)) hday hcl 0
  have hno : ∀ c ∈ ([100, 97, 121] : List UInt8) ++ spl (l0.map (fun n => n.data.toList)), c ≠ 10 := by
    intro c hc
    rcases List.mem_append.1 hc with hc | hc
    · exact (hday.2 c hc).2.2
    · exact spl_no _ hcl c hc
  unfold parseT
  rw [if_neg hl]
  have e : prt l0 l1 = (([100, 97, 121] : List UInt8) ++ spl (l0.map (fun n => n.data.toList))) ++ 10 :: rowsL l1 0 := by unfold prt; rw [names_spl]; simp
  have hrun : runL ps0 (linesOf (prt l0 l1)) 0 = .inl ⟨true, l0, l1⟩ := by
    rw [e, lines_app, lines_one _ hno, List.singleton_append, runL]
    generalize hq : wds [] 0 (([100, 97, 121] : List UInt8) ++ spl (l0.map (fun n => n.data.toList))) 0 = ws at hw ⊢
    cases ws with
    | nil => simp at hw
    | cons x q =>
      rw [List.map_cons] at hw
      obtain ⟨g1, g2⟩ := List.cons.inj hw
      have g1 : x.f0.data.toList = [100, 97, 121] := g1
      have hstep : ∀ e : Nat, lineStep ps0 (x :: q) e = .inl ⟨true, l0, []⟩ := by
        intro e
        have hh : headF (x :: q) = (l0, 0, 0) := by
          unfold headF
          dsimp only
          rw [if_pos g1, headGo_names l0 q [] g2 h3 (by simpa using h4) (by simpa using h1), List.nil_append]
        simp only [lineStep]
        rw [if_pos (show ps0.hd = false from rfl), hh]
        dsimp only
        rw [if_pos rfl]; rfl
      rw [hstep]
      dsimp only
      have := run_rows l0 l1 [] (0 + (([100, 97, 121] : List UInt8) ++ spl (l0.map (fun n => n.data.toList))).length + 1) (fun r hr => ⟨(h5 r hr).1, fun c hcr => ⟨(h5 r hr).2 c hcr, hc r hr c hcr⟩⟩) (by simpa using h2)
      rw [List.length_nil, List.nil_append] at this
      exact this
  rw [hrun]
  rfl

/-! what is read is valid; what goes wrong has a place -/
def NamesOk (ns : List ByteArray) : Prop := ns.length ≤ 64 ∧ (∀ n ∈ ns, capB n = true) ∧ ns.Nodup
theorem headGo_ok : ∀ (xs : List S115) (ns ns' : List ByteArray) (p : Int), NamesOk ns → headGo ns xs = (ns', p, 0) → NamesOk ns' := by
  intro xs
  induction xs with
  | nil =>
    intro ns ns' p h e
    rw [headGo] at e
    obtain rfl := (Prod.mk.inj e).1
    exact h
  | cons x t ih =>
    intro ns ns' p h e
    rw [headGo] at e
    split at e
    · exact absurd (Prod.mk.inj (Prod.mk.inj e).2).2 (by decide)
    · rename_i h64
      split at e
      · rename_i hc
        refine ih _ ns' p ⟨by rw [List.length_append]; have := h.1; simp; omega, fun n hn => ?_, ?_⟩ e
        · rcases List.mem_append.1 hn with hn | hn
          · exact h.2.1 n hn
          · rw [List.mem_singleton.1 hn]; exact hc.1
        · refine List.nodup_append.2 ⟨h.2.2, by simp, fun a ha b hb => ?_⟩
          rintro rfl
          rw [List.mem_singleton.1 hb] at ha
          rw [(inB_iff _ _).2 ha] at hc
          cases hc.2
      · exact absurd (Prod.mk.inj (Prod.mk.inj e).2).2 (by decide)
theorem cellsGo_ok (n : Nat) (e : Int) : ∀ (xs : List S115) (acc row : List S52) (p : Int), acc.length ≤ n → (∀ c ∈ acc, CellOk c) → cellsGo n e acc xs = (row, p, 0) → row.length = n ∧ ∀ c ∈ row, CellOk c := by
  intro xs
  induction xs with
  | nil =>
    intro acc row p hl h hr
    rw [cellsGo] at hr
    split at hr
    · exact absurd (Prod.mk.inj (Prod.mk.inj hr).2).2 (by decide)
    · obtain rfl := (Prod.mk.inj hr).1
      exact ⟨by omega, h⟩
  | cons x t ih =>
    intro acc row p hl h hr
    rw [cellsGo] at hr
    split at hr
    · exact absurd (Prod.mk.inj (Prod.mk.inj hr).2).2 (by decide)
    · split at hr
      · refine ih _ row p (by rw [List.length_append]; simp; omega) (fun c hc => ?_) hr
        rcases List.mem_append.1 hc with hc | hc
        · exact h c hc
        · rw [List.mem_singleton.1 hc]; exact ⟨fun _ => rfl, by decide, by decide⟩
      · split at hr
        · rename_i v hv
          refine ih _ row p (by rw [List.length_append]; simp; omega) (fun c hc => ?_) hr
          rcases List.mem_append.1 hc with hc | hc
          · exact h c hc
          · rw [List.mem_singleton.1 hc]
            obtain ⟨-, a, b⟩ := numP_some hv
            exact ⟨fun h => absurd h (by simp), a, b⟩
        · exact absurd (Prod.mk.inj (Prod.mk.inj hr).2).2 (by decide)
structure Inv (s : PS) : Prop where
  no : s.hd = false → s.ns = [] ∧ s.rs = []
  names : NamesOk s.ns
  few : s.rs.length ≤ 4096
  rows : ∀ r ∈ s.rs, r.length = s.ns.length ∧ ∀ c ∈ r, CellOk c
theorem headF_ok {ws : List S115} {ns : List ByteArray} {p : Int} (h : headF ws = (ns, p, 0)) : NamesOk ns := by
  unfold headF at h
  split at h
  · obtain rfl := (Prod.mk.inj h).1
    exact ⟨by simp, by simp, List.nodup_nil⟩
  · split at h
    · exact headGo_ok _ [] ns p ⟨by simp, by simp, List.nodup_nil⟩ h
    · exact absurd (Prod.mk.inj (Prod.mk.inj h).2).2 (by decide)
theorem lineStep_inv {s s' : PS} {ws : List S115} {e : Nat} (h : Inv s) (hs : lineStep s ws e = .inl s') : Inv s' := by
  unfold lineStep at hs
  split at hs
  · obtain rfl := Sum.inl.inj hs; exact h
  · rename_i x t
    split at hs
    · rename_i hd
      obtain ⟨⟨ns, p, er⟩, hh⟩ : ∃ q, headF (x :: t) = q := ⟨_, rfl⟩
      rw [hh] at hs
      dsimp only at hs
      split at hs
      · rename_i he
        obtain rfl := Sum.inl.inj hs
        subst he
        refine ⟨(fun h => by cases h), headF_ok hh, h.few, ?_⟩
        rw [(h.no hd).2]
        intro r hr; cases hr
      · cases hs
    · obtain ⟨⟨d, ok⟩, hn⟩ : ∃ q, numOf x.f0.data.toList = q := ⟨_, rfl⟩
      rw [hn] at hs
      dsimp only at hs
      split at hs
      · cases hs
      · rename_i h1
        split at hs
        · cases hs
        · rename_i h2
          obtain ⟨⟨row, p, er⟩, hc⟩ : ∃ q, cellsGo s.ns.length (e : Int) [] t = q := ⟨_, rfl⟩
          rw [hc] at hs
          dsimp only at hs
          split at hs
          · rename_i he
            obtain rfl := Sum.inl.inj hs
            subst he
            have hok : ok = true := by cases ok <;> simp_all
            have hrg := numOf_range _ d (by rw [hn, hok])
            have hfew := h.few
            have hlt : ¬ (d < 4096 ∧ d < (s.rs.length : Int)) := fun h => h1 (Or.inr h)
            obtain ⟨g1, g2⟩ := cellsGo_ok s.ns.length (e : Int) t [] row p (by simp) (by simp) hc
            refine ⟨(fun h => by cases h), h.names, ?_, ?_⟩
            · simp only [List.length_append, List.length_replicate, List.length_singleton]
              omega
            · intro r hr
              simp only [List.mem_append, List.mem_singleton] at hr
              rcases hr with (hr | hr) | hr
              · exact h.rows r hr
              · obtain ⟨-, rfl⟩ := List.mem_replicate.1 hr
                refine ⟨by simp, fun c hc => ?_⟩
                obtain ⟨-, rfl⟩ := List.mem_replicate.1 hc
                exact ⟨fun _ => rfl, by decide, by decide⟩
              · rw [hr]; exact ⟨g1, g2⟩
          · cases hs
theorem runL_inv : ∀ (ls : List (List UInt8)) (s s' : PS) (p : Nat), Inv s → runL s ls p = .inl s' → Inv s' := by
  intro ls
  induction ls with
  | nil => intro s s' p h hs; rw [runL] at hs; obtain rfl := Sum.inl.inj hs; exact h
  | cons l t ih =>
    intro s s' p h hs
    rw [runL] at hs
    cases hq : lineStep s (wds [] 0 l p) (p + l.length) with
    | inl s1 => rw [hq] at hs; exact ih s1 s' _ (lineStep_inv h hq) hs
    | inr q => rw [hq] at hs; cases hs
theorem inv0 : Inv ps0 := ⟨fun _ => ⟨rfl, rfl⟩, ⟨by simp [ps0], by simp [ps0], List.nodup_nil⟩, by simp [ps0], by simp [ps0]⟩
/-- The errors that Parse tells. -/
def Known (e : Int) : Prop := e = 51 ∨ e = 52 ∨ e = 6
theorem headGo_err : ∀ (xs : List S115) (ns ns' : List ByteArray) (p e : Int), headGo ns xs = (ns', p, e) → e ≠ 0 → Known e ∧ ∃ x ∈ xs, p = x.f1 := by
  intro xs
  induction xs with
  | nil => intro ns ns' p e h he; rw [headGo] at h; exact absurd (Prod.mk.inj (Prod.mk.inj h).2).2.symm he
  | cons x t ih =>
    intro ns ns' p e h he
    rw [headGo] at h
    have here : ∀ k : Int, Known k → (([], x.f1, k) : List ByteArray × Int × Int) = (ns', p, e) → Known e ∧ ∃ y ∈ x :: t, p = y.f1 := by
      intro k hk h
      obtain ⟨-, h⟩ := Prod.mk.inj h
      obtain ⟨rfl, rfl⟩ := Prod.mk.inj h
      exact ⟨hk, x, List.mem_cons_self, rfl⟩
    split at h
    · exact here 6 (Or.inr (Or.inr rfl)) h
    · split at h
      · obtain ⟨a, y, hy, b⟩ := ih _ ns' p e h he
        exact ⟨a, y, List.mem_cons_of_mem _ hy, b⟩
      · exact here 52 (Or.inr (Or.inl rfl)) h
theorem cellsGo_err (n : Nat) (en : Int) : ∀ (xs : List S115) (acc row : List S52) (p e : Int), cellsGo n en acc xs = (row, p, e) → e ≠ 0 → Known e ∧ (p = en ∨ ∃ x ∈ xs, p = x.f1) := by
  intro xs
  induction xs with
  | nil =>
    intro acc row p e h he
    rw [cellsGo] at h
    split at h
    · obtain ⟨-, h⟩ := Prod.mk.inj h
      obtain ⟨rfl, rfl⟩ := Prod.mk.inj h
      exact ⟨Or.inl rfl, Or.inl rfl⟩
    · exact absurd (Prod.mk.inj (Prod.mk.inj h).2).2.symm he
  | cons x t ih =>
    intro acc row p e h he
    rw [cellsGo] at h
    have here : (([], x.f1, 51) : List S52 × Int × Int) = (row, p, e) → Known e ∧ (p = en ∨ ∃ y ∈ x :: t, p = y.f1) := by
      intro h
      obtain ⟨-, h⟩ := Prod.mk.inj h
      obtain ⟨rfl, rfl⟩ := Prod.mk.inj h
      exact ⟨Or.inl rfl, Or.inr ⟨x, List.mem_cons_self, rfl⟩⟩
    have more : ∀ acc', cellsGo n en acc' t = (row, p, e) → Known e ∧ (p = en ∨ ∃ y ∈ x :: t, p = y.f1) := by
      intro acc' h
      obtain ⟨a, b⟩ := ih _ row p e h he
      refine ⟨a, b.imp id ?_⟩
      rintro ⟨y, hy, e⟩
      exact ⟨y, List.mem_cons_of_mem _ hy, e⟩
    split at h
    · exact here h
    · split at h
      · exact more _ h
      · split at h
        · exact more _ h
        · exact here h
theorem lineStep_err {s : PS} {ws : List S115} {e : Nat} {q : Int × Int} (h : lineStep s ws e = .inr q) : Known q.2 ∧ (q.1 = (e : Int) ∨ ∃ x ∈ ws, q.1 = x.f1) := by
  unfold lineStep at h
  split at h
  · cases h
  · rename_i x t
    have here : ∀ k : Int, Known k → (Sum.inr (x.f1, k) : PS ⊕ (Int × Int)) = .inr q → Known q.2 ∧ (q.1 = (e : Int) ∨ ∃ y ∈ x :: t, q.1 = y.f1) := by
      intro k hk h
      obtain rfl := Sum.inr.inj h
      exact ⟨hk, Or.inr ⟨x, List.mem_cons_self, rfl⟩⟩
    split at h
    · obtain ⟨⟨ns, p, er⟩, hh⟩ : ∃ q, headF (x :: t) = q := ⟨_, rfl⟩
      rw [hh] at h
      dsimp only at h
      split at h
      · cases h
      · rename_i he
        obtain rfl := Sum.inr.inj h
        unfold headF at hh
        dsimp only at hh
        split at hh
        · obtain ⟨a, y, hy, b⟩ := headGo_err t [] ns p er hh he
          exact ⟨a, Or.inr ⟨y, List.mem_cons_of_mem _ hy, b⟩⟩
        · obtain ⟨-, hh⟩ := Prod.mk.inj hh
          obtain ⟨rfl, rfl⟩ := Prod.mk.inj hh
          exact ⟨Or.inl rfl, Or.inr ⟨x, List.mem_cons_self, rfl⟩⟩
    · obtain ⟨⟨d, ok⟩, hn⟩ : ∃ q, numOf x.f0.data.toList = q := ⟨_, rfl⟩
      rw [hn] at h
      dsimp only at h
      split at h
      · exact here 51 (Or.inl rfl) h
      · split at h
        · exact here 6 (Or.inr (Or.inr rfl)) h
        · obtain ⟨⟨row, p, er⟩, hc⟩ : ∃ q, cellsGo s.ns.length (e : Int) [] t = q := ⟨_, rfl⟩
          rw [hc] at h
          dsimp only at h
          split at h
          · cases h
          · rename_i he
            obtain rfl := Sum.inr.inj h
            obtain ⟨a, b⟩ := cellsGo_err s.ns.length (e : Int) t [] row p er hc he
            refine ⟨a, b.imp id ?_⟩
            rintro ⟨y, hy, e⟩
            exact ⟨y, List.mem_cons_of_mem _ hy, e⟩
def tot : List (List UInt8) → Nat
  | [] => 0
  | l :: t => l.length + 1 + tot t
theorem tot_lines : ∀ l : List UInt8, tot (linesOf l) = l.length + 1 := by
  intro l
  induction l with
  | nil => rfl
  | cons c r ih =>
    rw [linesOf]
    split
    · rw [tot, ih]; simp only [List.length_nil, List.length_cons]; omega
    · split
      · rename_i h; rw [h] at ih; simp [tot] at ih
      · rename_i a t h
        rw [h] at ih
        rw [tot] at ih ⊢
        simp only [List.length_cons]; omega
theorem runL_err : ∀ (ls : List (List UInt8)) (s : PS) (p : Nat) (q : Int × Int), runL s ls p = .inr q → Known q.2 ∧ (p : Int) ≤ q.1 ∧ q.1 + 1 ≤ (p : Int) + (tot ls : Int) := by
  intro ls
  induction ls with
  | nil => intro s p q h; rw [runL] at h; cases h
  | cons l t ih =>
    intro s p q h
    rw [runL] at h
    rw [tot]
    cases hq : lineStep s (wds [] 0 l p) (p + l.length) with
    | inl s1 =>
      rw [hq] at h
      obtain ⟨a, b, c⟩ := ih s1 _ q h
      exact ⟨a, by omega, by omega⟩
    | inr q1 =>
      rw [hq] at h
      obtain rfl := Sum.inr.inj h
      obtain ⟨a, b⟩ := lineStep_err hq
      refine ⟨a, ?_⟩
      rcases b with b | ⟨x, hx, b⟩
      · rw [b]; omega
      · obtain ⟨-, -, c, d⟩ := wds_mem l [] 0 p (by omega) (by simp) x hx
        rw [if_pos rfl] at c
        rw [b]; omega
theorem runL_app : ∀ (a : List (List UInt8)) (s : PS) (p : Nat) (b : List (List UInt8)) (q : Int × Int), runL s a p = .inr q → runL s (a ++ b) p = .inr q := by
  intro a
  induction a with
  | nil => intro s p b q h; rw [runL] at h; cases h
  | cons l t ih =>
    intro s p b q h
    rw [List.cons_append, runL]
    rw [runL] at h
    cases hq : lineStep s (wds [] 0 l p) (p + l.length) with
    | inl s1 => rw [hq] at h; exact ih s1 _ b q h
    | inr q1 => rw [hq] at h; exact h
theorem four_inj {α β γ δ : Type} {a a' : α} {b b' : β} {c c' : γ} {d d' : δ} (h : (a, b, c, d) = (a', b', c', d')) : a = a' ∧ b = b' ∧ c = c' ∧ d = d' := by simpa using h
/-- What is read. -/
theorem parse_ok {l : List UInt8} {n : List ByteArray} {r : List (List S52)} {p : Int} (h : parseT l = (n, r, p, 0)) : p = 0 ∧ validT n r = 0 ∧ ∀ x ∈ r, ∀ c ∈ x, -9223372036854775808 ≤ c.f1 ∧ c.f1 ≤ 9223372036854775807 := by
  unfold parseT at h
  split at h
  · exact absurd (Prod.mk.inj (Prod.mk.inj (Prod.mk.inj h).2).2).2 (by decide)
  · cases hq : runL ps0 (linesOf l) 0 with
    | inl s =>
      rw [hq] at h
      have hi := runL_inv _ _ _ _ inv0 hq
      simp only [finL] at h
      split at h
      · obtain ⟨rfl, rfl, rfl, -⟩ := four_inj h
        refine ⟨rfl, (valid_iff _ _).2 ⟨hi.names.1, hi.few, hi.names.2.1, hi.names.2.2, fun x hx => ⟨(hi.rows x hx).1, fun c hc => ((hi.rows x hx).2 c hc).1⟩⟩, fun x hx c hc => ((hi.rows x hx).2 c hc).2⟩
      · exact absurd (Prod.mk.inj (Prod.mk.inj (Prod.mk.inj h).2).2).2 (by decide)
    | inr q =>
      rw [hq] at h
      simp only [finL] at h
      have := (runL_err _ _ _ _ hq).1
      have he := (Prod.mk.inj (Prod.mk.inj (Prod.mk.inj h).2).2).2
      rw [he] at this
      exact absurd this (by unfold Known; decide)
/-- What is refused. -/
theorem parse_bad {l : List UInt8} {n : List ByteArray} {r : List (List S52)} {p e : Int} (h : parseT l = (n, r, p, e)) (he : e ≠ 0) : n = [] ∧ r = [] ∧ 0 ≤ p ∧ p ≤ (l.length : Int) ∧ Known e ∧ (1048576 < l.length → e = 6 ∧ p = 0) := by
  unfold parseT at h
  split at h
  · obtain ⟨rfl, rfl, rfl, rfl⟩ := four_inj h
    exact ⟨rfl, rfl, by omega, by omega, Or.inr (Or.inr rfl), fun _ => ⟨rfl, rfl⟩⟩
  · rename_i hl
    cases hq : runL ps0 (linesOf l) 0 with
    | inl s =>
      rw [hq] at h
      simp only [finL] at h
      split at h
      · exact absurd (Prod.mk.inj (Prod.mk.inj (Prod.mk.inj h).2).2).2.symm he
      · obtain ⟨rfl, rfl, rfl, rfl⟩ := four_inj h
        exact ⟨rfl, rfl, by omega, by omega, Or.inl rfl, fun h => absurd h hl⟩
    | inr q =>
      rw [hq] at h
      simp only [finL] at h
      obtain ⟨rfl, rfl, rfl, rfl⟩ := four_inj h
      obtain ⟨a, b, c⟩ := runL_err _ _ _ _ hq
      rw [tot_lines] at c
      exact ⟨rfl, rfl, by omega, by omega, a, fun h => absurd h hl⟩
/-- What goes wrong first is told, whatever follows. -/
theorem parse_first {a b : List UInt8} {n : List ByteArray} {r : List (List S52)} {p e : Int} (h : parseT a = (n, r, p, e)) (he : e ≠ 0) (hp : p < (a.length : Int)) (hl : ¬ 1048576 < (a ++ 10 :: b).length) : parseT (a ++ 10 :: b) = ([], [], p, e) := by
  have hla : ¬ 1048576 < a.length := by rw [List.length_append] at hl; omega
  unfold parseT at h ⊢
  rw [if_neg hla] at h
  rw [if_neg hl, lines_app]
  cases hq : runL ps0 (linesOf a) 0 with
  | inl s =>
    rw [hq] at h
    simp only [finL] at h
    split at h
    · exact absurd (Prod.mk.inj (Prod.mk.inj (Prod.mk.inj h).2).2).2.symm he
    · have := (Prod.mk.inj (Prod.mk.inj (Prod.mk.inj h).2).2).1
      omega
  | inr q =>
    rw [hq] at h
    simp only [finL] at h
    rw [runL_app _ _ _ _ q hq]
    simp only [finL]
    obtain ⟨-, -, rfl, rfl⟩ := four_inj h
    rfl

end Go.Proofs.YtppojbafagneeaaDoor.Pure
