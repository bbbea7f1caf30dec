/- Own text: what table.Parse answers, in plain Lean, line by line. -/
import Derived.Test.YtppojbafagneeaaDoorQParp
import Derived.Lib.Bytealg
namespace Go.Proofs.YtppojbafagneeaaDoor.Pure
open Go.RowKit Go.Maps Go.ChangeShapes Go.WideShapes Go.Proofs.YtppojbafagneeaaDoor.PTab Go.Proofs.YtppojbafagneeaaDoorW.PrintWords Go.Proofs.YtppojbafagneeaaDoorW.PrintLast Go.Proofs.YtppojbafagneeaaDoorW.PrintMore
set_option linter.unusedVariables false
set_option linter.unusedSimpArgs false
/-! The text of a table, read line by line -/
def blkB (c : UInt8) : Bool := c == 32 || c == 9 || c == 13
def wd (cur : List UInt8) (st : Nat) : S115 := ⟨⟨cur.toArray⟩, (st : Int)⟩
def emit (cur : List UInt8) (st : Nat) : List S115 := if cur = [] then [] else [wd cur st]
/-- The words of a line that begins at p. -/
def wds (cur : List UInt8) (st : Nat) : List UInt8 → Nat → List S115
  | [], _ => emit cur st
  | c :: r, p => if c = 35 then emit cur st else if blkB c = true then emit cur st ++ wds [] 0 r (p + 1) else wds (cur ++ [c]) (if cur = [] then p else st) r (p + 1)
/-- The lines of a text. -/
def linesOf : List UInt8 → List (List UInt8)
  | [] => [[]]
  | c :: r => if c = 10 then [] :: linesOf r else match linesOf r with
    | [] => [[c]]
    | a :: t => (c :: a) :: t
def numGo (v : Int) : List UInt8 → Option Int
  | [] => some v
  | c :: r => if 48 ≤ c.toNat ∧ c.toNat ≤ 57 then numGo (min (10 * v + ((c.toNat : Int) - 48)) 4096) r else none
/-- A day's word. -/
def numOf (l : List UInt8) : Int × Bool :=
  if 1 < l.length ∧ l.head? = some 48 then (0, false) else match numGo 0 l with
    | some v => (v, true)
    | none => (0, false)
/-- A row's cells. -/
def cellsGo (n : Nat) (e : Int) (acc : List S52) : List S115 → List S52 × Int × Int
  | [] => if acc.length < n then ([], e, 51) else (acc, 0, 0)
  | x :: t => if acc.length = n then ([], x.f1, 51) else if x.f0.data.toList = [45] then cellsGo n e (acc ++ [⟨false, 0⟩]) t else match numP x.f0 with
    | some v => cellsGo n e (acc ++ [⟨true, v⟩]) t
    | none => ([], x.f1, 51)
def headF (ws : List S115) : List ByteArray × Int × Int := match ws with
  | [] => ([], 0, 0)
  | x :: t => if x.f0.data.toList = [100, 97, 121] then headGo [] t else ([], x.f1, 51)
structure PS where
  hd : Bool
  ns : List ByteArray
  rs : List (List S52)
/-- One line more; or the error's place and number. -/
def lineStep (s : PS) (ws : List S115) (e : Nat) : PS ⊕ (Int × Int) :=
  match ws with
  | [] => .inl s
  | x :: t =>
    if s.hd = false then
      match headF (x :: t) with
      | (ns, p, er) => if er = 0 then .inl ⟨true, ns, s.rs⟩ else .inr (p, er)
    else
      match numOf x.f0.data.toList with
      | (d, ok) =>
        if ok = false ∨ (d < 4096 ∧ d < (s.rs.length : Int)) then .inr (x.f1, 51)
        else if d = 4096 then .inr (x.f1, 6)
        else match cellsGo s.ns.length e [] t with
          | (row, p, er) => if er = 0 then .inl ⟨true, s.ns, s.rs ++ List.replicate (d.toNat - s.rs.length) (List.replicate s.ns.length z52) ++ [row]⟩ else .inr (p, er)
def runL (s : PS) : List (List UInt8) → Nat → PS ⊕ (Int × Int)
  | [], _ => .inl s
  | ln :: t, p => match lineStep s (wds [] 0 ln p) (p + ln.length) with
    | .inl s' => runL s' t (p + ln.length + 1)
    | .inr q => .inr q
def ps0 : PS := ⟨false, [], []⟩
def finL (size : Nat) : PS ⊕ (Int × Int) → List ByteArray × List (List S52) × Int × Int
  | .inl s => if s.hd = true then (s.ns, s.rs, 0, 0) else ([], [], (size : Int), 51)
  | .inr q => ([], [], q.1, q.2)
/-- What Parse answers. -/
def parseT (l : List UInt8) : List ByteArray × List (List S52) × Int × Int :=
  if 1048576 < l.length then ([], [], 0, 6) else finL l.length (runL ps0 (linesOf l) 0)

theorem bt_list (s : ByteArray) (i : Nat) (h : i < s.data.toList.length) : bt s (i : Int) = ((s.data.toList[i]).toNat : Int) := by
  have h1 : i < s.size := by simpa using h
  unfold bt
  rw [dif_pos (show (i : Int).toNat < s.size by simpa using h1)]
  rfl
theorem ext_list (s : ByteArray) (i j : Nat) : s.extract i j = ⟨((s.data.toList.take j).drop i).toArray⟩ := by
  apply ByteArray.ext
  rw [ByteArray.data_extract]
  apply Array.toList_inj.1
  rw [Array.toList_extract, List.extract_eq_take_drop, List.drop_take]
theorem toNat_iff (c d : UInt8) : ((c.toNat : Int) = (d.toNat : Int)) ↔ c = d := by
  constructor
  · intro h; exact UInt8.toNat_inj.1 (by omega)
  · rintro rfl; rfl
theorem blank_is (c : UInt8) : table_blank.f (c.toNat : Int) = some (blkB c) := by
  unfold table_blank.f blkB
  have h1 := toNat_iff c 32
  have h2 := toNat_iff c 9
  have h3 := toNat_iff c 13
  rw [show (((32 : UInt8).toNat : Int)) = 32 from rfl] at h1
  rw [show (((9 : UInt8).toNat : Int)) = 9 from rfl] at h2
  rw [show (((13 : UInt8).toNat : Int)) = 13 from rfl] at h3
  by_cases a : c = 32
  · rw [if_pos (h1.2 a), a]; rfl
  rw [if_neg (fun h => a (h1.1 h))]
  by_cases b : c = 9
  · rw [if_pos (h2.2 b), b]; rfl
  rw [if_neg (fun h => b (h2.1 h))]
  by_cases d : c = 13
  · rw [d]; rfl
  · have e1 : (c == 32) = false := beq_eq_false_iff_ne.2 a
    have e2 : (c == 9) = false := beq_eq_false_iff_ne.2 b
    have e3 : (c == 13) = false := beq_eq_false_iff_ne.2 d
    have e4 : ((c.toNat : Int) == 13) = false := beq_eq_false_iff_ne.2 (fun h => d (h3.1 h))
    rw [e1, e2, e3, e4]; rfl
theorem wds_stop (cur : List UInt8) (st : Nat) (c : UInt8) (r : List UInt8) (p : Nat) (h : c = 35 ∨ blkB c = true) : wds cur st (c :: r) p = emit cur st ++ wds [] 0 (c :: r) p := by
  by_cases h1 : c = 35
  · simp [wds, h1, emit]
  · rcases h with h | h
    · exact absurd h h1
    · simp [wds, h1, h, emit]
theorem drop_cons (L : List UInt8) (e i : Nat) (h : i < e) (hl : e ≤ L.length) : (L.take e).drop i = L[i]'(by omega) :: (L.take e).drop (i + 1) := by
  rw [List.drop_eq_getElem_cons (by rw [List.length_take]; omega)]
  congr 1
  exact List.getElem_take
theorem drop_snoc (L : List UInt8) (i j : Nat) (h : i ≤ j) (hl : j < L.length) : (L.take (j + 1)).drop i = (L.take j).drop i ++ [L[j]] := by
  rw [List.take_add_one, List.getElem?_eq_getElem hl, Option.toList_some, List.drop_append, List.length_take]
  rw [show i - min j L.length = 0 by omega]
  rfl
theorem seg_ne (L : List UInt8) (i j : Nat) (h : i < j) (hl : j ≤ L.length) : ((L.take j).drop i) ≠ [] := by
  intro e
  have := congrArg List.length e
  rw [List.length_drop, List.length_take] at this
  simp at this
  omega
section
variable (s : ByteArray) (e : Nat)
theorem words_both (he : e ≤ s.data.toList.length) (hs : s.data.toList.length ≤ 1048576) : ∀ d : Nat,
    (∀ (i : Nat) (acc : List S115), i + d = e → acc.length ≤ i → Ev (fun k => table_words.l0 k s (e : Int) acc (i : Int)) (acc ++ wds [] 0 ((s.data.toList.take e).drop i) i, (e : Int))) ∧
    (∀ (i j : Nat) (acc : List S115), j + d = e → i < j → acc.length ≤ i → Ev (fun k => table_words.l1 k s (e : Int) acc (i : Int) (j : Int)) (acc ++ wds ((s.data.toList.take j).drop i) i ((s.data.toList.take e).drop j) j, (e : Int))) := by
  have hsz : s.size = s.data.toList.length := by simp
  intro d
  induction d with
  | zero =>
    have h0 : ∀ (i : Nat) (acc : List S115), i + 0 = e → acc.length ≤ i → Ev (fun k => table_words.l0 k s (e : Int) acc (i : Int)) (acc ++ wds [] 0 ((s.data.toList.take e).drop i) i, (e : Int)) := by
      intro i acc hi ha
      rw [List.drop_of_length_le (by rw [List.length_take]; omega)]
      exact Ev.step (fun k => table_words.l0.eq_2 ..) (Ev.neg (by omega) (Ev.ret (by simp [wds, emit])))
    refine ⟨h0, fun i j acc hj hij ha => ?_⟩
    obtain rfl : j = e := by omega
    refine Ev.step (fun k => table_words.l1.eq_2 ..) (Ev.neg (by omega) (Ev.pos (by omega) (Ev.pos (by omega) (Ev.pos (by omega) (Ev.pos (by omega) ?_)))))
    have h := h0 j (acc ++ [wd ((s.data.toList.take j).drop i) i]) (by omega) (by rw [List.length_append]; simp; omega)
    rw [List.drop_of_length_le (l := s.data.toList.take j) (i := j) (by rw [List.length_take]; omega)] at h ⊢
    rw [Int.toNat_natCast, Int.toNat_natCast, ext_list]
    have hne := seg_ne s.data.toList i j hij he
    have e1 : wds ((s.data.toList.take j).drop i) i [] j = [wd ((s.data.toList.take j).drop i) i] := by simp [wds, emit, hne]
    rw [e1]
    have e2 : (acc ++ [wd ((s.data.toList.take j).drop i) i]) ++ wds [] 0 [] j = acc ++ [wd ((s.data.toList.take j).drop i) i] := by simp [wds, emit]
    rw [e2] at h
    exact h
  | succ d ih =>
    obtain ⟨ih0, ih1⟩ := ih
    have h0 : ∀ (i : Nat) (acc : List S115), i + (d + 1) = e → acc.length ≤ i → Ev (fun k => table_words.l0 k s (e : Int) acc (i : Int)) (acc ++ wds [] 0 ((s.data.toList.take e).drop i) i, (e : Int)) := by
      intro i acc hi ha
      have hil : i < s.data.toList.length := by omega
      rw [drop_cons _ e i (by omega) he]
      have hb := bt_list s i hil
      generalize s.data.toList[i]'hil = c at hb ⊢
      refine Ev.step (fun k => table_words.l0.eq_2 ..) (Ev.pos (by omega) (Ev.pos (by omega) (Ev.pos (by omega) ?_)))
      rw [hb]
      by_cases h1 : c = 35
      · exact Ev.pos (by rw [h1]; rfl) (Ev.ret (by simp [wds, h1, emit]))
      refine Ev.neg (fun h => h1 ((toNat_iff c 35).1 h)) (Ev.call (blank_is c) ?_)
      by_cases h2 : blkB c = true
      · refine Ev.pos h2 ?_
        rw [w64n i (by omega)]
        have h := ih0 (i + 1) acc (by omega) (by omega)
        simpa [wds, h1, h2, emit] using h
      · refine Ev.neg h2 (Ev.step (fun k => table_words.l1.eq_2 ..) (Ev.pos (by omega) (Ev.pos (by omega) (Ev.pos (by omega) ?_))))
        rw [hb]
        refine Ev.call (blank_is c) (Ev.neg h2 (Ev.neg (fun h => h1 ((toNat_iff c 35).1 h)) ?_))
        rw [w64n i (by omega)]
        have h := ih1 i (i + 1) acc (by omega) (by omega) ha
        rw [drop_snoc _ i i (Nat.le_refl _) hil, List.drop_of_length_le (l := s.data.toList.take i) (by rw [List.length_take]; omega), List.nil_append] at h
        have hc : s.data.toList[i] = c := by
          have := bt_list s i hil
          rw [hb] at this
          exact ((toNat_iff _ _).1 this).symm
        rw [hc] at h
        simpa [wds, h1, h2] using h
    refine ⟨h0, fun i j acc hj hij ha => ?_⟩
    have hjl : j < s.data.toList.length := by omega
    have hne := seg_ne s.data.toList i j hij (by omega)
    have stop := h0 j (acc ++ [wd ((s.data.toList.take j).drop i) i]) (by omega) (by rw [List.length_append]; simp; omega)
    have next := ih1 i (j + 1) acc (by omega) (by omega) ha
    rw [drop_snoc _ i j (by omega) hjl] at next
    rw [drop_cons _ e j (by omega) he] at stop ⊢
    have hb := bt_list s j hjl
    generalize s.data.toList[j]'hjl = c at hb stop next ⊢
    have stopS : (c = 35 ∨ blkB c = true) → (acc ++ [wd ((s.data.toList.take j).drop i) i]) ++ wds [] 0 (c :: (s.data.toList.take e).drop (j + 1)) j = acc ++ wds ((s.data.toList.take j).drop i) i (c :: (s.data.toList.take e).drop (j + 1)) j := by
      intro h
      rw [wds_stop ((s.data.toList.take j).drop i) i c _ _ h, List.append_assoc]
      simp [emit, hne]
    refine Ev.step (fun k => table_words.l1.eq_2 ..) (Ev.pos (by omega) (Ev.pos (by omega) (Ev.pos (by omega) ?_)))
    rw [hb]
    refine Ev.call (blank_is c) ?_
    rw [Int.toNat_natCast, Int.toNat_natCast, ext_list]
    by_cases h2 : blkB c = true
    · rw [stopS (Or.inr h2)] at stop
      exact Ev.pos h2 (Ev.pos (by omega) (Ev.pos (by omega) (Ev.pos (by omega) (Ev.pos (by omega) stop))))
    refine Ev.neg h2 ?_
    by_cases h1 : c = 35
    · rw [stopS (Or.inl h1)] at stop
      exact Ev.pos (by rw [h1]; rfl) (Ev.pos (by omega) (Ev.pos (by omega) (Ev.pos (by omega) (Ev.pos (by omega) stop))))
    · refine Ev.neg (fun h => h1 ((toNat_iff c 35).1 h)) ?_
      rw [w64n j (by omega)]
      simpa [wds, h1, h2, hne] using next
end
/-! a line and what is behind it -/
def lineAt (L : List UInt8) (p : Nat) : List UInt8 := (L.drop p).takeWhile (· ≠ 10)
theorem line_len (L : List UInt8) (p : Nat) (hp : p ≤ L.length) : p + (lineAt L p).length ≤ L.length := by
  have := List.IsPrefix.length_le (List.takeWhile_prefix (l := L.drop p) (fun c : UInt8 => decide (c ≠ 10)))
  rw [List.length_drop] at this
  unfold lineAt
  omega
theorem index_line : ∀ l : List UInt8, (Lib.indexByte l 10 = -1 ∧ l.takeWhile (· ≠ 10) = l ∧ linesOf l = [l]) ∨ (Lib.indexByte l 10 = ((l.takeWhile (· ≠ 10)).length : Int) ∧ (l.takeWhile (· ≠ 10)).length < l.length ∧ linesOf l = l.takeWhile (· ≠ 10) :: linesOf (l.drop ((l.takeWhile (· ≠ 10)).length + 1))) := by
  intro l
  induction l with
  | nil => exact Or.inl ⟨rfl, rfl, rfl⟩
  | cons c r ih =>
    by_cases hc : c = 10
    · subst hc
      exact Or.inr ⟨by simp [Lib.indexByte], by simp, by simp [linesOf]⟩
    · have htw : (c :: r).takeWhile (fun x => decide (x ≠ 10)) = c :: r.takeWhile (fun x => decide (x ≠ 10)) := by simp [List.takeWhile_cons, hc]
      have hib : Lib.indexByte (c :: r) 10 = if Lib.indexByte r 10 == -1 then -1 else Lib.indexByte r 10 + 1 := by
        simp only [Lib.indexByte]
        rw [if_neg (by simpa using hc)]
      rcases ih with ⟨h1, h2, h3⟩ | ⟨h1, h2, h3⟩
      · refine Or.inl ⟨by rw [hib, h1]; rfl, by rw [htw, h2], ?_⟩
        rw [linesOf, if_neg hc, h3]
      · refine Or.inr ⟨?_, by rw [htw]; simp only [List.length_cons]; omega, ?_⟩
        · rw [hib, h1, if_neg (by simp), htw]
          simp only [List.length_cons]
          omega
        · rw [linesOf, if_neg hc, h3, htw]
          simp only [List.length_cons]
          rw [List.drop_succ_cons]
def remL (L : List UInt8) (p : Nat) : List (List UInt8) := if p ≤ L.length then linesOf (L.drop p) else []
theorem rem_step (L : List UInt8) (p : Nat) (hp : p ≤ L.length) : remL L p = lineAt L p :: remL L (p + (lineAt L p).length + 1) := by
  unfold remL
  rw [if_pos hp]
  have hd : (L.drop p).length = L.length - p := List.length_drop
  rcases index_line (L.drop p) with ⟨-, h2, h3⟩ | ⟨-, h2, h3⟩
  · have e : (lineAt L p).length = L.length - p := by unfold lineAt; rw [h2, hd]
    rw [h3, if_neg (by omega)]
    unfold lineAt
    rw [h2]
  · have e : (lineAt L p).length < L.length - p := by unfold lineAt; omega
    rw [h3, if_pos (by omega), List.drop_drop]
    rfl
theorem take_line (L : List UInt8) (p : Nat) (hp : p ≤ L.length) : (L.take (p + (lineAt L p).length)).drop p = lineAt L p := by
  rw [List.drop_take, show p + (lineAt L p).length - p = (lineAt L p).length by omega]
  unfold lineAt
  exact (List.prefix_iff_eq_take.1 (List.takeWhile_prefix (fun c : UInt8 => decide (c ≠ 10)))).symm
theorem words_ev (s : ByteArray) (hs : s.data.toList.length ≤ 1048576) (p : Nat) (hp : p ≤ s.data.toList.length) :
    Ev (fun k => table_words.f k s (p : Int)) (wds [] 0 (lineAt s.data.toList p) p, ((p + (lineAt s.data.toList p).length : Nat) : Int)) := by
  have hsz : s.size = s.data.toList.length := by simp
  have hl := line_len s.data.toList p hp
  have fin : Ev (fun k => table_words.j0 k s (p : Int) ((p + (lineAt s.data.toList p).length : Nat) : Int)) (wds [] 0 (lineAt s.data.toList p) p, ((p + (lineAt s.data.toList p).length : Nat) : Int)) := by
    have h := (words_both s (p + (lineAt s.data.toList p).length) hl hs (lineAt s.data.toList p).length).1 p [] rfl (by simp)
    rw [take_line _ p hp, List.nil_append] at h
    exact Ev.step (fun k => table_words.j0.eq_2 ..) h
  have hx : strings_IndexByte.f (s.extract (p : Int).toNat s.size) 10 = some (Lib.indexByte (s.data.toList.drop p) 10) := by
    unfold strings_IndexByte.f
    rw [if_pos rfl, Int.toNat_natCast, ext_list, List.take_of_length_le (by omega)]
  unfold table_words.f
  refine Ev.pos (by omega) (Ev.pos (by omega) (Ev.call hx ?_))
  rcases index_line (s.data.toList.drop p) with ⟨h1, h2, -⟩ | ⟨h1, h2, -⟩
  · refine Ev.neg (by rw [h1]; omega) ?_
    have e : p + (lineAt s.data.toList p).length = s.data.toList.length := by unfold lineAt; rw [h2, List.length_drop]; omega
    rw [e] at fin ⊢
    rw [hsz]
    exact fin
  · refine Ev.pos (by omega) ?_
    have e : wrap64 ((p : Int) + Lib.indexByte (s.data.toList.drop p) 10) = ((p + (lineAt s.data.toList p).length : Nat) : Int) := by
      rw [h1]
      unfold lineAt at hl ⊢
      unfold wrap64
      omega
    rw [e]
    exact fin
/-! the words' places and lengths -/
theorem wds_mem (l : List UInt8) : ∀ (cur : List UInt8) (st p : Nat), st ≤ p → st + cur.length ≤ p → ∀ x ∈ wds cur st l p, x.f0.size ≤ cur.length + l.length ∧ 0 < x.f0.size ∧ (if cur = [] then (p : Int) ≤ x.f1 else (st : Int) ≤ x.f1) ∧ x.f1 < (p + l.length : Nat) := by
  induction l with
  | nil =>
    intro cur st p hst hc x hx
    by_cases h : cur = []
    · rw [h] at hx; simp [wds, emit] at hx
    · simp only [wds, emit, if_neg h, List.mem_singleton] at hx
      subst hx
      have : 0 < cur.length := List.length_pos_iff.2 h
      refine ⟨by simp [wd, ByteArray.size], by simpa [wd, ByteArray.size] using this, by rw [if_neg h]; simp [wd], by simp [wd]; omega⟩
  | cons c r ih =>
    intro cur st p hst hc x hx
    have em : x ∈ emit cur st → x.f0.size ≤ cur.length + (c :: r).length ∧ 0 < x.f0.size ∧ (if cur = [] then (p : Int) ≤ x.f1 else (st : Int) ≤ x.f1) ∧ x.f1 < (p + (c :: r).length : Nat) := by
      intro hx
      by_cases h : cur = []
      · rw [h] at hx; simp [emit] at hx
      · simp only [emit, if_neg h, List.mem_singleton] at hx
        subst hx
        have : 0 < cur.length := List.length_pos_iff.2 h
        refine ⟨by simp [wd, ByteArray.size], by simpa [wd, ByteArray.size] using this, by rw [if_neg h]; simp [wd], by simp [wd]; omega⟩
    by_cases h1 : c = 35
    · simp only [wds, if_pos h1] at hx
      exact em hx
    by_cases h2 : blkB c = true
    · simp only [wds, if_neg h1, if_pos h2, List.mem_append] at hx
      rcases hx with hx | hx
      · exact em hx
      · obtain ⟨a1, a2, a3, a4⟩ := ih [] 0 (p + 1) (by omega) (by simp) x hx
        simp only [if_true, List.length_nil, List.length_cons] at a1 a3 a4 ⊢
        exact ⟨by omega, a2, by first | omega | (split <;> omega), by omega⟩
    · simp only [wds, if_neg h1, if_neg h2] at hx
      by_cases h : cur = []
      · rw [if_pos h] at hx
        obtain ⟨a1, a2, a3, a4⟩ := ih (cur ++ [c]) p (p + 1) (by omega) (by rw [h]; simp) x hx
        rw [if_neg (by simp)] at a3
        rw [if_pos h]
        simp only [List.length_append, List.length_cons, List.length_nil] at a1 a4 ⊢
        exact ⟨by omega, a2, by omega, by omega⟩
      · rw [if_neg h] at hx
        obtain ⟨a1, a2, a3, a4⟩ := ih (cur ++ [c]) st (p + 1) (by omega) (by rw [List.length_append]; simp; omega) x hx
        rw [if_neg (by simp)] at a3
        rw [if_neg h]
        simp only [List.length_append, List.length_cons, List.length_nil] at a1 a4 ⊢
        exact ⟨by omega, a2, by omega, by omega⟩
theorem wds_len (l : List UInt8) : ∀ (cur : List UInt8) (st p : Nat), (wds cur st l p).length ≤ l.length + (if cur = [] then 0 else 1) := by
  induction l with
  | nil => intro cur st p; simp only [wds, emit]; split <;> simp
  | cons c r ih =>
    intro cur st p
    have e : (emit cur st).length ≤ (if cur = [] then 0 else 1) := by unfold emit; split <;> simp
    simp only [wds, List.length_cons]
    split
    · omega
    split
    · have := ih [] 0 (p + 1)
      rw [if_pos rfl] at this
      rw [List.length_append]; omega
    · have := ih (cur ++ [c]) (if cur = [] then p else st) (p + 1)
      have e2 : ¬ (cur ++ [c] = []) := by simp
      rw [if_neg e2] at this
      have e3 : (if cur = [] then 0 else 1) ≥ 0 := Nat.zero_le _
      omega

/-! a day's word -/
theorem numGo_range (l : List UInt8) : ∀ v r : Int, 0 ≤ v → v ≤ 4096 → numGo v l = some r → 0 ≤ r ∧ r ≤ 4096 := by
  induction l with
  | nil => intro v r h0 h1 h; simp only [numGo, Option.some.injEq] at h; omega
  | cons c t ih =>
    intro v r h0 h1 h
    simp only [numGo] at h
    split at h
    · exact ih _ r (by omega) (by omega) h
    · cases h
theorem number_l0 (s : ByteArray) (hs : s.data.toList.length ≤ 140737488351232) : ∀ (d i : Nat) (v : Int), i + d = s.data.toList.length → 0 ≤ v → v ≤ 4096 →
    Ev (fun k => table_number.l0 k s v (s.size : Int) (i : Int)) (match numGo v (s.data.toList.drop i) with | some r => (r, true) | none => (0, false)) := by
  have hsz : s.size = s.data.toList.length := by simp
  intro d
  induction d with
  | zero =>
    intro i v hi h0 h1
    rw [List.drop_of_length_le (by omega)]
    exact Ev.step (fun k => table_number.l0.eq_2 ..) (Ev.neg (by omega) (Ev.ret rfl))
  | succ d ih =>
    intro i v hi h0 h1
    have hil : i < s.data.toList.length := by omega
    rw [List.drop_eq_getElem_cons hil]
    have hb := bt_list s i hil
    generalize s.data.toList[i]'hil = c at hb ⊢
    have hc : c.toNat < 256 := c.toNat_lt
    refine Ev.step (fun k => table_number.l0.eq_2 ..) (Ev.pos (by omega) (Ev.pos (by omega) (Ev.pos (by omega) ?_)))
    rw [hb]
    simp only [numGo]
    by_cases h2 : (c.toNat : Int) < 48
    · rw [if_neg (by omega)]
      exact Ev.pos h2 (Ev.ret rfl)
    refine Ev.neg h2 ?_
    by_cases h3 : (c.toNat : Int) > 57
    · rw [if_neg (by omega)]
      exact Ev.pos h3 (Ev.ret rfl)
    refine Ev.neg h3 ?_
    rw [if_pos (by omega), w64n i (by omega)]
    have e : mn (wrap64 ((wrap64 (10 * v)) + (((c.toNat : Int) - 48) % 256))) 4096 = min (10 * v + ((c.toNat : Int) - 48)) 4096 := by
      have e1 : wrap64 ((wrap64 (10 * v)) + (((c.toNat : Int) - 48) % 256)) = 10 * v + ((c.toNat : Int) - 48) := by unfold wrap64; omega
      rw [e1]
      unfold mn
      split <;> omega
    rw [e]
    exact ih (i + 1) _ (by omega) (by omega) (by omega)
theorem number_ev (s : ByteArray) (hs : s.data.toList.length ≤ 140737488351232) : Ev (fun k => table_number.f k s) (numOf s.data.toList) := by
  have hsz : s.size = s.data.toList.length := by simp
  have h := number_l0 s hs s.data.toList.length 0 0 (by omega) (by omega) (by omega)
  rw [List.drop_zero] at h
  unfold table_number.f numOf
  by_cases h1 : 1 < s.data.toList.length
  · refine Ev.pos (by omega) (Ev.pos (by omega) ?_)
    have hb := bt_list s 0 (by omega)
    have hh : s.data.toList.head? = some (s.data.toList[0]'(by omega)) := by
      rw [List.head?_eq_getElem?, List.getElem?_eq_getElem (by omega)]
    rw [hh]
    rw [show ((0 : Nat) : Int) = 0 from rfl] at hb
    rw [hb]
    by_cases h2 : s.data.toList[0]'(by omega) = 48
    · rw [if_pos ⟨h1, by rw [h2]⟩, h2]
      exact Ev.step (fun k => table_number.j0.eq_2 ..) (Ev.pos rfl (Ev.ret rfl))
    · rw [if_neg (fun h => h2 (Option.some.inj h.2))]
      rw [show (((s.data.toList[0]'(by omega)).toNat : Int) == 48) = false from beq_eq_false_iff_ne.2 (fun h => h2 ((toNat_iff _ 48).1 h))]
      exact Ev.step (fun k => table_number.j0.eq_2 ..) (Ev.neg (by decide) h)
  · rw [if_neg (fun h => h1 h.1)]
    refine Ev.neg (by omega) ?_
    exact Ev.step (fun k => table_number.j0.eq_2 ..) (Ev.neg (by decide) h)
theorem numOf_range (l : List UInt8) (d : Int) (h : numOf l = (d, true)) : 0 ≤ d ∧ d ≤ 4096 := by
  unfold numOf at h
  split at h
  · exact absurd (Prod.mk.inj h).2 (by decide)
  · split at h
    · rename_i v hv
      obtain rfl := (Prod.mk.inj h).1
      exact numGo_range l 0 v (by omega) (by omega) hv
    · exact absurd (Prod.mk.inj h).2 (by decide)
/-! a row's cells -/
theorem rd115 (ws : List S115) (i : Nat) (h : i < ws.length) : rd_T115 ws (i : Int) = ws[i] := by
  unfold rd_T115
  rw [Int.toNat_natCast, List.getD_eq_getElem?_getD, List.getElem?_eq_getElem h]; rfl
theorem ba_list (a : ByteArray) (l : List UInt8) : a.toList = l ↔ a.data.toList = l := by rw [ByteArray.toList_eq]
theorem cells_l0 (n : Nat) (e : Int) (ws : List S115) (hw : ws.length ≤ 8000000000000) (hz : ∀ x ∈ ws, x.f0.size ≤ 140737488351232) : ∀ (d i : Nat) (acc : List S52), i + d = ws.length → acc.length ≤ i →
    Ev (fun k => table_cells.l0 k (n : Int) e acc ws (ws.length : Int) (i : Int)) (cellsGo n e acc (ws.drop i)) := by
  intro d
  induction d with
  | zero =>
    intro i acc hi ha
    rw [List.drop_of_length_le (by omega)]
    refine Ev.step (fun k => table_cells.l0.eq_2 ..) (Ev.neg (by omega) ?_)
    simp only [cellsGo]
    by_cases h : acc.length < n
    · rw [if_pos h]; exact Ev.pos (by omega) (Ev.ret rfl)
    · rw [if_neg h]; exact Ev.neg (by omega) (Ev.ret rfl)
  | succ d ih =>
    intro i acc hi ha
    have hil : i < ws.length := by omega
    rw [List.drop_eq_getElem_cons hil]
    have hr := rd115 ws i hil
    have hsx := hz _ (List.getElem_mem hil)
    generalize ws[i]'hil = x at hr hsx ⊢
    refine Ev.step (fun k => table_cells.l0.eq_2 ..) (Ev.pos (by omega) (Ev.pos (by omega) (Ev.pos (by omega) ?_)))
    rw [hr]
    simp only [cellsGo]
    by_cases h1 : acc.length = n
    · rw [if_pos h1]; exact Ev.pos (by omega) (Ev.ret rfl)
    rw [if_neg h1]
    refine Ev.neg (by omega) ?_
    by_cases h2 : x.f0.data.toList = [45]
    · rw [if_pos h2]
      refine Ev.pos ((ba_list _ _).2 h2) (Ev.pos (by omega) ?_)
      rw [w64n i (by omega)]
      exact ih (i + 1) _ (by omega) (by rw [List.length_append]; simp; omega)
    rw [if_neg h2]
    refine Ev.neg (fun h => h2 ((ba_list _ _).1 h)) ?_
    cases hn : numP x.f0 with
    | some v =>
      have hp : num_Parse.f x.f0 0 = some (v, 0) := by unfold num_Parse.f; rw [if_pos ⟨rfl, hsx⟩, hn]
      refine Ev.call hp (Ev.pos rfl (Ev.pos (by omega) ?_))
      rw [w64n i (by omega)]
      exact ih (i + 1) _ (by omega) (by rw [List.length_append]; simp; omega)
    | none =>
      have hp : num_Parse.f x.f0 0 = some (0, 11) := by unfold num_Parse.f; rw [if_pos ⟨rfl, hsx⟩, hn]
      exact Ev.call hp (Ev.neg (by decide) (Ev.ret rfl))
theorem cells_ev (n : Nat) (e : Int) (ws : List S115) (hw : ws.length ≤ 8000000000000) (hz : ∀ x ∈ ws, x.f0.size ≤ 140737488351232) : Ev (fun k => table_cells.f k ws (n : Int) e) (cellsGo n e [] ws) := by
  have h := cells_l0 n e ws hw hz ws.length 0 [] (by omega) (by simp)
  exact h
theorem headGo_len : ∀ (ws : List S115) (ns : List ByteArray), ns.length ≤ 64 → (headGo ns ws).1.length ≤ 64 := by
  intro ws
  induction ws with
  | nil => intro ns h; exact h
  | cons x t ih =>
    intro ns h
    simp only [headGo]
    split
    · simp
    · split
      · exact ih _ (by rw [List.length_append]; simp; omega)
      · simp
theorem head_is (x : S115) (t : List S115) (h : (x :: t).length ≤ 140737488351232) : table_head.f (x :: t) = some (headF (x :: t)) := by
  unfold table_head.f headF
  rw [if_pos ⟨h, by simp⟩]
  have e : rd_T115 (x :: t) 0 = x := rfl
  rw [e]
  congr 1
  dsimp only
  by_cases h2 : x.f0.data.toList = [100, 97, 121]
  · rw [if_pos ((ba_list _ _).2 h2), if_pos h2]; rfl
  · rw [if_neg (fun h => h2 ((ba_list _ _).1 h)), if_neg h2]
/-! the lines -/
theorem rows_more (s : ByteArray) (x7 x8 d : Int) (row : List S52) (ns : List ByteArray) (hn : ns.length ≤ 64) (r : List ByteArray × List (List S52) × Int × Int) : ∀ (m : Nat) (rs : List (List S52)), rs.length ≤ 5000 → d.toNat - rs.length = m → 0 ≤ d → d ≤ 4096 →
    Ev (fun k => table_Parse.l0 k s true x7 x8 ns (rs ++ List.replicate m (List.replicate ns.length z52) ++ [row])) r → Ev (fun k => table_Parse.l1 k s true x7 x8 d row ns rs) r := by
  intro m
  induction m with
  | zero =>
    intro rs hrs hm h0 h1 h
    refine Ev.step (fun k => table_Parse.l1.eq_2 ..) (Ev.neg (by omega) (Ev.pos (by omega) ?_))
    simpa using h
  | succ m ih =>
    intro rs hrs hm h0 h1 h
    refine Ev.step (fun k => table_Parse.l1.eq_2 ..) (Ev.pos (by omega) (Ev.pos (by omega) (Ev.pos (by omega) (Ev.pos (by omega) ?_))))
    rw [Int.toNat_natCast]
    refine ih _ (by rw [List.length_append]; simp; omega) (by rw [List.length_append]; simp; omega) h0 h1 ?_
    rw [List.append_assoc rs, ← List.replicate_one, List.replicate_append_replicate] 
    rw [show 1 + m = m + 1 by omega]
    exact h
theorem parse_l0 (s : ByteArray) (hs : s.data.toList.length ≤ 1048576) : ∀ (d p : Nat) (st : PS), p + d = s.data.toList.length + 1 → st.ns.length ≤ 64 → st.rs.length ≤ 4096 →
    Ev (fun k => table_Parse.l0 k s st.hd ((st.rs.length : Int) - 1) (p : Int) st.ns st.rs) (finL s.data.toList.length (runL st (remL s.data.toList p) p)) := by
  have hsz : s.size = s.data.toList.length := by simp
  intro d
  induction d using Nat.strongRecOn with
  | ind d ih =>
    intro p st hp hn hr
    by_cases hpl : p ≤ s.data.toList.length
    rotate_left
    · have e : remL s.data.toList p = [] := by unfold remL; rw [if_neg hpl]
      rw [e, runL]
      refine Ev.step (fun k => table_Parse.l0.eq_2 ..) (Ev.neg (by omega) ?_)
      by_cases h : st.hd = true
      · have e2 : finL s.data.toList.length (.inl st) = (st.ns, st.rs, 0, 0) := by simp only [finL]; rw [if_pos h]
        rw [e2]
        exact Ev.pos h (Ev.ret rfl)
      · have e2 : finL s.data.toList.length (.inl st) = ([], [], (s.size : Int), 51) := by simp only [finL]; rw [if_neg h, hsz]
        rw [e2]
        exact Ev.neg h (Ev.ret rfl)
    have hln := line_len s.data.toList p hpl
    have hwl := wds_len (lineAt s.data.toList p) [] 0 p
    have hwm := wds_mem (lineAt s.data.toList p) [] 0 p (by omega) (by simp)
    rw [if_pos rfl] at hwl
    rw [rem_step _ _ hpl, runL]
    refine Ev.step (fun k => table_Parse.l0.eq_2 ..) (Ev.pos (by omega) (Ev.bind (words_ev s hs p hpl) ?_))
    rw [w64n _ (by omega)]
    generalize hws : wds [] 0 (lineAt s.data.toList p) p = ws at hwl hwm ⊢
    have recq := ih (d - ((lineAt s.data.toList p).length + 1)) (by omega) (p + (lineAt s.data.toList p).length + 1)
    cases ws with
    | nil =>
      refine Ev.pos rfl ?_
      simp only [lineStep]
      exact recq st (by omega) hn hr
    | cons x t =>
      refine Ev.neg (by simp; omega) ?_
      have hx0 : rd_T115 (x :: t) 0 = x := rfl
      have hxs : x.f0.data.toList.length ≤ 140737488351232 := by
        have h1 := (hwm x List.mem_cons_self).1
        have h2 : x.f0.size = x.f0.data.toList.length := by simp
        simp only [List.length_nil] at h1
        omega
      simp only [lineStep]
      by_cases hh : st.hd = true
      · rw [if_neg (by rw [hh]; decide), hh]
        refine Ev.pos rfl (Ev.pos (by simp) ?_)
        rw [hx0]
        refine Ev.bind (number_ev x.f0 hxs) ?_
        obtain ⟨⟨dd, ok⟩, hnum⟩ : ∃ q, numOf x.f0.data.toList = q := ⟨_, rfl⟩
        rw [hnum]
        have err : (ok = false ∨ (dd < 4096 ∧ dd < (st.rs.length : Int))) → ∀ n : Nat, Ev (fun k => table_Parse.j1 k s true ((p + (lineAt s.data.toList p).length + 1 : Nat) : Int) (x :: t) (n : Int) dd true st.ns st.rs) ([], [], x.f1, 51) :=
          fun _ n => Ev.step (fun k => table_Parse.j1.eq_2 ..) (Ev.pos rfl (Ev.pos (by simp) (Ev.ret (by rw [hx0]))))
        have good : ok = true → ¬ (dd < 4096 ∧ dd < (st.rs.length : Int)) → Ev (fun k => table_Parse.j1 k s true ((p + (lineAt s.data.toList p).length + 1 : Nat) : Int) (x :: t) ((p + (lineAt s.data.toList p).length : Nat) : Int) dd false st.ns st.rs)
            (finL s.data.toList.length (match (if dd = 4096 then Sum.inr (x.f1, 6) else match cellsGo st.ns.length ((p + (lineAt s.data.toList p).length : Nat) : Int) [] t with
              | (row, p, er) => if er = 0 then Sum.inl ⟨true, st.ns, st.rs ++ List.replicate (dd.toNat - st.rs.length) (List.replicate st.ns.length z52) ++ [row]⟩ else Sum.inr (p, er) : PS ⊕ (Int × Int)) with
              | .inl s' => runL s' (remL s.data.toList (p + (lineAt s.data.toList p).length + 1)) (p + (lineAt s.data.toList p).length + 1)
              | .inr q => .inr q)) := by
          intro hok hno
          have hrg := numOf_range _ dd (by rw [hnum, hok])
          refine Ev.step (fun k => table_Parse.j1.eq_2 ..) (Ev.neg (by decide) ?_)
          by_cases h4 : dd = 4096
          · rw [if_pos h4]
            exact Ev.pos h4 (Ev.pos (by simp) (Ev.ret (by rw [hx0]; rfl)))
          rw [if_neg h4]
          refine Ev.neg h4 (Ev.pos (by simp; omega) ?_)
          have hce := cells_ev st.ns.length ((p + (lineAt s.data.toList p).length : Nat) : Int) t (by simp at hwl; omega) (fun y hy => by have := (hwm y (List.mem_cons_of_mem _ hy)).1; simp only [List.length_nil] at this; omega)
          refine Ev.bind hce ?_
          obtain ⟨⟨row, q, er⟩, hc⟩ : ∃ q, cellsGo st.ns.length ((p + (lineAt s.data.toList p).length : Nat) : Int) [] t = q := ⟨_, rfl⟩
          rw [hc]
          by_cases he : er = 0
          · simp only [if_pos he]
            refine rows_more s dd _ dd row st.ns hn _ (dd.toNat - st.rs.length) st.rs (by omega) rfl hrg.1 hrg.2 ?_
            have h := recq ⟨true, st.ns, st.rs ++ List.replicate (dd.toNat - st.rs.length) (List.replicate st.ns.length z52) ++ [row]⟩ (by omega) hn (by simp; omega)
            have e : ((st.rs ++ List.replicate (dd.toNat - st.rs.length) (List.replicate st.ns.length z52) ++ [row]).length : Int) - 1 = dd := by simp; omega
            simp only [e] at h
            exact h
          · simp only [if_neg he]
            exact Ev.ret rfl
        cases ok with
        | false =>
          rw [if_pos (Or.inl rfl)]
          exact Ev.neg (by simp) (err (Or.inl rfl) _)
        | true =>
          refine Ev.pos rfl ?_
          by_cases h4 : dd < 4096
          · refine Ev.pos h4 ?_
            by_cases hlt : dd < (st.rs.length : Int)
            · rw [if_pos (Or.inr ⟨h4, hlt⟩), decide_eq_true (show dd ≤ (st.rs.length : Int) - 1 by omega)]
              exact err (Or.inr ⟨h4, hlt⟩) _
            · rw [if_neg (by rintro (h | h); · cases h
                             · exact hlt h.2), decide_eq_false (show ¬ dd ≤ (st.rs.length : Int) - 1 by omega)]
              exact good rfl (fun h => hlt h.2)
          · rw [if_neg (by rintro (h | h); · cases h
                           · exact h4 h.1)]
            exact Ev.neg h4 (good rfl (fun h => h4 h.1))
      · have hh' := Bool.eq_false_iff.2 hh
        rw [if_pos hh', hh']
        refine Ev.neg (by decide) ?_
        have hhd := head_is x t (by simp at hwl ⊢; omega)
        refine Ev.call hhd ?_
        obtain ⟨⟨ns, q, er⟩, hc⟩ : ∃ q, headF (x :: t) = q := ⟨_, rfl⟩
        rw [hc]
        by_cases he : er = 0
        · simp only [if_pos he]
          have hnl : ns.length ≤ 64 := by
            have h1 : (headF (x :: t)).1.length ≤ 64 := by
              unfold headF
              dsimp only
              split
              · exact headGo_len t [] (by simp)
              · simp
            rw [hc] at h1; exact h1
          exact recq ⟨true, ns, st.rs⟩ (by omega) hnl hr
        · simp only [if_neg he]
          exact Ev.ret rfl
theorem parse_ev (s : ByteArray) : Ev (fun k => table_Parse.f k s) (parseT s.data.toList) := by
  have hsz : s.size = s.data.toList.length := by simp
  unfold table_Parse.f parseT
  by_cases h : 1048576 < s.data.toList.length
  · rw [if_pos h]
    exact Ev.pos (by omega) (Ev.ret rfl)
  · rw [if_neg h]
    refine Ev.neg (by omega) ?_
    have e : remL s.data.toList 0 = linesOf s.data.toList := by unfold remL; rw [if_pos (Nat.zero_le _), List.drop_zero]
    have h := parse_l0 s (by omega) (s.data.toList.length + 1) 0 ps0 (by omega) (by simp [ps0]) (by simp [ps0])
    rw [e] at h
    exact h

end Go.Proofs.YtppojbafagneeaaDoor.Pure
