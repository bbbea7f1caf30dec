/- Own text: the reference's Text at no places is the number's digits. -/
import Derived.Test.YtppojbafagneeaaDoorQTabt
import Derived.Test.YtppojbafagneeaaDoorTabText
import Derived.Test.YtppojbafagneeaaDoorTabLawV
import Derived.Lib.ItoaNum
import Derived.Lib.Repeat
import Derived.Laws.BitsLemmas
namespace Go.Proofs.YtppojbafagneeaaDoor.Pure
open Go.RowKit Go.ChangeShapes Go.WideShapes Go.Proofs.YtppojbafagneeaaDoor.PTab Go.Proofs.YtppojbafagneeaaDoorW.PrintWords Go.Proofs.YtppojbafagneeaaDoorW.PrintLast Go.Proofs.YtppojbafagneeaaDoorW.PrintMore
set_option linter.unusedVariables false
set_option linter.unusedSimpArgs false
/-! Strings as lists of bytes -/
def Bs (l : List UInt8) : ByteArray := ⟨l.toArray⟩
theorem Bs_size (l : List UInt8) : (Bs l).size = l.length := by show l.toArray.size = l.length; simp
theorem Bs_data (l : List UInt8) : (Bs l).data.toList = l := by show l.toArray.toList = l; simp
theorem Bs_list (l : List UInt8) : (Bs l).toList = l := by rw [ByteArray.toList_eq]; exact Bs_data l
theorem Bs_of (s : ByteArray) : s = Bs s.data.toList := by cases s; simp [Bs]
theorem ba_ext {a b : ByteArray} (h : a.data.toList = b.data.toList) : a = b := by
  rw [Bs_of a, Bs_of b, h]
theorem Bs_app (a b : List UInt8) : Bs a ++ Bs b = Bs (a ++ b) := ba_ext (by rw [ByteArray.data_append, Array.toList_append, Bs_data, Bs_data, Bs_data])
theorem Bs_ext (l : List UInt8) (i j : Nat) : (Bs l).extract i j = Bs ((l.drop i).take (j - i)) := ba_ext (by
  rw [ByteArray.data_extract, Array.toList_extract, Bs_data, Bs_data, List.extract_eq_take_drop])

/-! The range, and what a call answers by its true answer -/
def In (n : Int) : Prop := -9223372036854775808 ≤ n ∧ n ≤ 9223372036854775807
instance (n : Int) : Decidable (In n) := by unfold In; infer_instance
/-- What a call answers whose true answer is n. -/
def fit (n : Int) : Int × Int := if In n then (n, 0) else (0, 1)
theorem fit_in {n : Int} (h : In n) : fit n = (n, 0) := by rw [fit, if_pos h]
theorem fit_out {n : Int} (h : ¬In n) : fit n = (0, 1) := by rw [fit, if_neg h]

/-! Lists of decimal digits, the lowest first -/
def val : List Int → Int
  | [] => 0
  | d :: t => d + 10 * val t
def Dg (l : List Int) : Prop := ∀ x ∈ l, 0 ≤ x ∧ x ≤ 9
/-- Digits, without a 0 at the end. -/
def Norm (l : List Int) : Prop := Dg l ∧ ∀ h : l ≠ [], l.getLast h ≠ 0
theorem Dg.nil : Dg [] := fun x h => by simp at h
theorem Dg.cons {d : Int} {t : List Int} (h : 0 ≤ d ∧ d ≤ 9) (ht : Dg t) : Dg (d :: t) := fun x hx => by
  rcases List.mem_cons.1 hx with rfl | hx
  · exact h
  · exact ht x hx
theorem Dg.append {a b : List Int} (ha : Dg a) (hb : Dg b) : Dg (a ++ b) := fun x hx => by
  rcases List.mem_append.1 hx with hx | hx
  · exact ha x hx
  · exact hb x hx
theorem Dg.drop {l : List Int} (h : Dg l) (n : Nat) : Dg (l.drop n) := fun x hx => h x (List.mem_of_mem_drop hx)
theorem Dg.take {l : List Int} (h : Dg l) (n : Nat) : Dg (l.take n) := fun x hx => h x (List.mem_of_mem_take hx)
theorem Dg.at {l : List Int} (h : Dg l) (i : Int) : 0 ≤ rd l i ∧ rd l i ≤ 9 := by
  unfold rd
  rw [List.getD_eq_getElem?_getD]
  cases e : l[i.toNat]? with
  | none => simp
  | some x => exact h x (List.mem_of_getElem? e)
theorem Norm.dg {l : List Int} (h : Norm l) : Dg l := h.1
theorem Norm.nil : Norm [] := ⟨Dg.nil, fun h => (h rfl).elim⟩
theorem rd_nat (l : List Int) (i : Nat) : rd l (i : Int) = l.getD i 0 := by simp [rd]
theorem rd_out {l : List Int} {i : Int} (h : (l.length : Int) ≤ i) : rd l i = 0 := by
  unfold rd
  rw [List.getD_eq_getElem?_getD, List.getElem?_eq_none (by omega)]; rfl
theorem val_nonneg {l : List Int} (h : Dg l) : 0 ≤ val l := by
  induction l with
  | nil => simp [val]
  | cons d t ih =>
    have h1 := h d (by simp)
    have h2 := ih (fun x hx => h x (by simp [hx]))
    simp only [val]; omega
theorem val_lt {l : List Int} (h : Dg l) : val l < 10 ^ l.length := by
  induction l with
  | nil => simp [val]
  | cons d t ih =>
    have h1 := h d (by simp)
    have h2 := ih (fun x hx => h x (by simp [hx]))
    rw [List.length_cons, Int.pow_succ]
    simp only [val]
    generalize (10 : Int) ^ t.length = p at *
    omega
theorem val_append (a b : List Int) : val (a ++ b) = val a + 10 ^ a.length * val b := by
  induction a with
  | nil => simp [val]
  | cons d t ih =>
    simp only [List.cons_append, val, List.length_cons, Int.pow_succ, ih]
    rw [Int.mul_add, Int.mul_right_comm, Int.mul_comm ((10 : Int) ^ t.length * val b)]
    omega
theorem val_drop (l : List Int) (i : Nat) : val (l.drop i) = rd l (i : Int) + 10 * val (l.drop (i + 1)) := by
  by_cases h : i < l.length
  · rw [List.drop_eq_getElem_cons h, rd_nat, List.getD_eq_getElem?_getD, List.getElem?_eq_getElem h]; rfl
  · rw [List.drop_eq_nil_of_le (by omega), List.drop_eq_nil_of_le (by omega), rd_out (by omega)]; rfl
theorem pow10_pos (n : Nat) : (0 : Int) < 10 ^ n := Int.pow_pos (by decide)
theorem pow10_mono {m n : Nat} (h : m ≤ n) : (10 : Int) ^ m ≤ 10 ^ n := by
  have := Nat.pow_le_pow_right (show 10 > 0 by decide) h
  exact_mod_cast this
theorem Norm.lo {l : List Int} (h : Norm l) (hl : l ≠ []) : 10 ^ (l.length - 1) ≤ val l := by
  have h1 := List.dropLast_concat_getLast hl
  have hd := h.1 _ (List.getLast_mem hl)
  have hn := h.2 hl
  have e := val_append l.dropLast [l.getLast hl]
  rw [h1, List.length_dropLast] at e
  have h2 := val_nonneg (l := l.dropLast) (fun x hx => h.1 x ((List.dropLast_sublist l).subset hx))
  rw [e]
  simp only [val]
  have h3 := pow10_pos (l.length - 1)
  have h4 := Int.mul_le_mul_of_nonneg_left (show (1 : Int) ≤ l.getLast hl + 10 * 0 by omega) (Int.le_of_lt h3)
  omega
theorem Norm.length_le {l : List Int} {n : Nat} (h : Norm l) (hv : val l < 10 ^ n) : l.length ≤ n := by
  by_cases hl : l = []
  · simp [hl]
  · have h1 := h.lo hl
    have h2 : l.length - 1 < n := by
      apply Classical.byContradiction
      intro hc
      have := pow10_mono (show n ≤ l.length - 1 by omega)
      omega
    omega
theorem Norm.zero {l : List Int} (h : Norm l) (hv : val l = 0) : l = [] := by
  apply Classical.byContradiction
  intro hl
  have h1 := h.lo hl
  have h2 := pow10_pos (l.length - 1)
  omega
theorem Norm.pos_iff {l : List Int} (h : Norm l) : (l.length : Int) > 0 ↔ 0 < val l := by
  constructor
  · intro hl
    have h1 : l ≠ [] := by intro e; rw [e] at hl; simp at hl
    have := h.lo h1
    have := pow10_pos (l.length - 1)
    omega
  · intro hv
    cases l with
    | nil => simp [val] at hv
    | cons d t => simp
theorem Norm.lt_of_length {a b : List Int} (ha : Norm a) (hb : Norm b) (h : a.length < b.length) : val a < val b := by
  have h1 := val_lt ha.1
  have h2 := hb.lo (by intro e; rw [e] at h; simp at h)
  have h3 := pow10_mono (show a.length ≤ b.length - 1 by omega)
  omega
/-- The first number of a list decides its parity. -/
theorem val_rd0 (l : List Int) : val l = rd l 0 + 10 * val (l.drop 1) := by
  have := val_drop l 0
  simpa using this

/-! payoffref01: the school's ways, by what the digits come to -/
theorem ref_at (l : List Int) (i : Int) (h : 0 ≤ i) : payoffref01_at.f l i = some (rd l i) := by
  unfold payoffref01_at.f
  by_cases h1 : i < (l.length : Int)
  · rw [if_pos h1, if_pos h]
  · rw [if_neg h1, rd_out (by omega)]
theorem ref_from_l0 : ∀ (d : Nat) (v : Int) (neg : Bool) (out : List Int), -9223372036854775808 ≤ v → v ≤ 9223372036854775807 → Dg out → out.length + d ≤ 1000 → (v.natAbs : Int) < 10 ^ d → (v = 0 → ∀ h : out ≠ [], out.getLast h ≠ 0) →
    ∃ c, Ev (fun k => payoffref01_From.l0 k v neg out) (neg, c) ∧ Norm c ∧ val c = val out + 10 ^ out.length * (v.natAbs : Int) ∧ c.length ≤ out.length + d := by
  intro d
  induction d with
  | zero =>
    intro v neg out h0 h1 hd hl hp hn
    have : v = 0 := by simp at hp; omega
    subst this
    refine ⟨out, ?_, ⟨hd, hn rfl⟩, by simp, by omega⟩
    exact Ev.step (fun k => payoffref01_From.l0.eq_2 _ _ _ _) (Ev.pos rfl (Ev.ret rfl))
  | succ d ih =>
    intro v neg out h0 h1 hd hl hp hn
    by_cases hv : v = 0
    · subst hv
      refine ⟨out, ?_, ⟨hd, hn rfl⟩, by simp, by omega⟩
      exact Ev.step (fun k => payoffref01_From.l0.eq_2 _ _ _ _) (Ev.pos rfl (Ev.ret rfl))
    have hq : (Int.tdiv v 10).natAbs = v.natAbs / 10 := Int.natAbs_tdiv v 10
    have hr : (Int.tmod v 10).natAbs = v.natAbs % 10 := Int.natAbs_tmod v 10
    have hqb : -9223372036854775808 ≤ Int.tdiv v 10 ∧ Int.tdiv v 10 ≤ 9223372036854775807 := by omega
    have key : ∀ e : Int, e = (v.natAbs % 10 : Nat) → ∃ c, Ev (fun k => payoffref01_From.l0 k (Int.tdiv v 10) neg (out ++ [e])) (neg, c) ∧ Norm c ∧ val c = val out + 10 ^ out.length * (v.natAbs : Int) ∧ c.length ≤ out.length + (d + 1) := by
      intro e he
      obtain ⟨c, g1, g2, g3, g4⟩ := ih (Int.tdiv v 10) neg (out ++ [e]) hqb.1 hqb.2 (hd.append (Dg.cons (by omega) Dg.nil)) (by simp; omega) (by
        rw [Int.pow_succ] at hp
        generalize (10 : Int) ^ d = p at *
        omega) (by
        intro hz h
        rw [List.getLast_append_of_ne_nil _ (by simp)]
        simp
        omega)
      refine ⟨c, g1, g2, ?_, by simp at g4; omega⟩
      rw [g3, val_append, hq]
      simp only [List.length_append, List.length_cons, List.length_nil, val, Int.pow_succ, Int.pow_zero, Nat.zero_add]
      have hsplit : (v.natAbs : Int) = (v.natAbs % 10 : Nat) + 10 * (v.natAbs / 10 : Nat) := by omega
      rw [← he] at hsplit
      generalize (10 : Int) ^ out.length = p at *
      grind
    refine Exists.imp (fun c h => ?_) (key _ rfl)
    refine ⟨Ev.step (fun k => payoffref01_From.l0.eq_2 _ _ _ _) (Ev.neg hv ?_), h.2⟩
    by_cases hs : Int.tmod v 10 < 0
    · refine Ev.pos hs (Ev.pos (by omega) ?_)
      rw [w64 hqb, w64 (by omega)]
      have : -(Int.tmod v 10) = ((v.natAbs % 10 : Nat) : Int) := by omega
      rw [this]; exact h.1
    · refine Ev.neg hs (Ev.pos (by omega) ?_)
      rw [w64 hqb]
      have : Int.tmod v 10 = ((v.natAbs % 10 : Nat) : Int) := by omega
      rw [this]; exact h.1
theorem ref_from (v : Int) (h : In v) : ∃ c, Ev (fun k => payoffref01_From.f k v) (decide (v < 0), c) ∧ Norm c ∧ val c = v.natAbs ∧ c.length ≤ 19 := by
  unfold In at h
  obtain ⟨c, h1, h2, h3, h4⟩ := ref_from_l0 19 v (decide (v < 0)) [] h.1 h.2 Dg.nil (by simp) (by simp; omega) (fun _ h => (h rfl).elim)
  exact ⟨c, h1, h2, by simpa [val] using h3, by simpa using h4⟩

theorem Ev.ret' {α : Type} {x : Option α} {r : α} (h : x = some r) : Ev (fun _ => x) r := ⟨0, fun _ _ => h⟩
/-! NumTexts: both texts -/
def chr (d : Int) : UInt8 := UInt8.ofNat (48 + d).toNat
def digS (c : List Int) : Nat → List UInt8
  | 0 => []
  | i + 1 => chr (rd c i) :: digS c i
def refS (c : List Int) (p : Nat) : Nat → List UInt8
  | 0 => []
  | i + 1 => chr (rd c i) :: (if i = p ∧ 0 < p then 46 :: refS c p i else refS c p i)
theorem digS_len (c : List Int) : ∀ n, (digS c n).length = n := by
  intro n
  induction n with
  | zero => rfl
  | succ n ih => simp [digS, ih]
theorem refS_len (c : List Int) (p : Nat) : ∀ n, (refS c p n).length ≤ 2 * n := by
  intro n
  induction n with
  | zero => simp [refS]
  | succ n ih =>
    simp only [refS]
    split <;> simp <;> omega
theorem refS_small (c : List Int) (p : Nat) : ∀ n, n ≤ p → refS c p n = digS c n := by
  intro n
  induction n with
  | zero => intro _; rfl
  | succ n ih =>
    intro h
    rw [refS, digS, if_neg (by omega), ih (by omega)]
theorem refS_none (c : List Int) : ∀ n, refS c 0 n = digS c n := by
  intro n
  induction n with
  | zero => rfl
  | succ n ih => rw [refS, digS, if_neg (by omega), ih]
theorem refS_big (c : List Int) (p : Nat) (hp : 0 < p) : ∀ d, refS c p (p + 1 + d) = (digS c (p + 1 + d)).take (1 + d) ++ 46 :: digS c p := by
  intro d
  induction d with
  | zero =>
    show refS c p (p + 1) = (digS c (p + 1)).take 1 ++ 46 :: digS c p
    rw [refS, digS, if_pos ⟨rfl, hp⟩, refS_small c p p (Nat.le_refl _)]
    simp
  | succ d ih =>
    rw [show p + 1 + (d + 1) = (p + 1 + d) + 1 by omega, refS, digS, if_neg (by omega), ih, show 1 + (d + 1) = (1 + d) + 1 by omega, List.take_succ_cons, List.cons_append]
theorem digS_drop (c : List Int) (p : Nat) : ∀ d, (digS c (p + d)).drop d = digS c p := by
  intro d
  induction d with
  | zero => simp
  | succ d ih => rw [show p + (d + 1) = (p + d) + 1 by omega, digS, List.drop_succ_cons, ih]
theorem digS_high (c : List Int) : ∀ d, digS c (c.length + d) = List.replicate d 48 ++ digS c c.length := by
  intro d
  induction d with
  | zero => simp
  | succ d ih =>
    rw [show c.length + (d + 1) = (c.length + d) + 1 by omega, digS, ih, rd_out (by omega), List.replicate_succ, List.cons_append]
    rfl
theorem digS_cons (x : Int) (c : List Int) : ∀ n, digS (x :: c) (n + 1) = digS c n ++ [chr x] := by
  intro n
  induction n with
  | zero => simp [digS, rd]
  | succ n ih =>
    rw [digS, ih, digS]
    have : rd (x :: c) ((n + 1 : Nat) : Int) = rd c (n : Int) := by simp [rd]
    rw [this, List.cons_append]
theorem Norm.tail {x : Int} {c : List Int} (h : Norm (x :: c)) : Norm c :=
  ⟨fun y hy => h.1 y (List.mem_cons_of_mem _ hy), fun hc => by have := h.2 (by simp); rwa [List.getLast_cons hc] at this⟩
theorem dec_norm : ∀ c : List Int, Norm c → c ≠ [] → Lib.decDigits (val c).toNat = digS c c.length := by
  intro c
  induction c with
  | nil => intro _ h; exact absurd rfl h
  | cons x t ih =>
    intro hn _
    have hx := hn.1 x (by simp)
    have hv := val_nonneg hn.tail.1
    rw [List.length_cons, digS_cons]
    by_cases ht : t = []
    · subst ht
      have : (val [x]).toNat = x.toNat := by simp [val]
      rw [this, Lib.decDigits_one (by omega)]
      show [UInt8.ofNat (48 + x.toNat)] = [chr x]
      rw [chr, show (48 + x).toNat = 48 + x.toNat by omega]
    · have hlo := hn.tail.lo ht
      have hp := pow10_pos (t.length - 1)
      have e : (val (x :: t)).toNat = x.toNat + 10 * (val t).toNat := by simp only [val]; omega
      rw [e, Lib.decDigits, dif_neg (by omega), show (x.toNat + 10 * (val t).toNat) / 10 = (val t).toNat by omega, show (x.toNat + 10 * (val t).toNat) % 10 = x.toNat by omega, ih hn.tail ht]
      rw [chr, show (48 + x).toNat = 48 + x.toNat by omega]
theorem rep_zero : ∀ n, Lib.repeatL [48] n = List.replicate n (48 : UInt8) := by
  intro n
  induction n with
  | zero => rfl
  | succ n ih => rw [Lib.repeatL, ih, List.replicate_succ]; rfl
/-- The decimal digits, with zeroes ahead, up to so many. -/
theorem pad_dec (c : List Int) (hn : Norm c) (p : Nat) :
    List.replicate (p + 1 - (Lib.decDigits (val c).toNat).length) 48 ++ Lib.decDigits (val c).toNat = digS c (max c.length (p + 1)) := by
  by_cases hc : c = []
  · subst hc
    rw [show (val []).toNat = 0 from rfl, Lib.decDigits_one (by omega)]
    have h := digS_high [] (p + 1)
    rw [List.length_nil, Nat.zero_add] at h
    rw [List.length_nil, Nat.zero_max, h]
    show _ = List.replicate (p + 1) 48 ++ []
    rw [List.append_nil, List.length_singleton, Nat.add_sub_cancel, List.replicate_succ']
    rfl
  · rw [dec_norm c hn hc, digS_len]
    have := digS_high c (p + 1 - c.length)
    rw [← this, show c.length + (p + 1 - c.length) = max c.length (p + 1) by omega]
theorem dec_plain (c : List Int) (hn : Norm c) : Lib.decDigits (val c).toNat = digS c (max c.length 1) := by
  have := pad_dec c hn 0
  rw [show 0 + 1 - (Lib.decDigits (val c).toNat).length = 0 by have := Lib.nDigits_pos (val c).toNat; rw [Lib.decDigits_length]; omega] at this
  simpa using this
/-- What a text is. -/
def textOf (c : List Int) (neg : Bool) (p : Nat) : List UInt8 := if neg = true then 45 :: refS c p (max c.length (p + 1)) else refS c p (max c.length (p + 1))
theorem chr_of (d : Int) (h : 0 ≤ d ∧ d ≤ 9) : strOfNums [(wrap64 (48 + d)) % 256] = Bs [chr d] := by
  rw [w64 (by omega)]
  unfold strOfNums Bs chr
  simp only [List.map_cons, List.map_nil]
  rw [show (48 + d) % 256 = 48 + d by omega]

theorem ref_text_l0 (c : List Int) (hd : Dg c) (hl : c.length ≤ 19) (p : Nat) (hp : p ≤ 18) (neg : Bool) : ∀ d i, i + d = max c.length (p + 1) →
    Ev (fun k => payoffref01_Text.l0 k (p : Int) (Bs (refS c p i)) (i : Int) neg c) (Bs (textOf c neg p), 0) := by
  intro d
  induction d with
  | zero =>
    intro i hi
    have hlen := refS_len c p i
    refine Ev.step (fun k => payoffref01_Text.l0.eq_2 ..) (Ev.neg (by omega) ?_)
    rw [show decide ((i : Int) ≤ (p : Int)) = false from decide_eq_false (by omega)]
    refine Ev.step (fun k => payoffref01_Text.j2.eq_2 ..) (Ev.neg (by decide) ?_)
    obtain rfl : i = max c.length (p + 1) := by omega
    unfold textOf
    cases neg with
    | true =>
      refine Ev.pos rfl (Ev.pos (by rw [Bs_size]; omega) (Ev.ret ?_))
      rw [if_pos rfl]
      show (Bs [45] ++ Bs _, (0 : Int)) = _
      rw [Bs_app]; rfl
    | false => exact Ev.neg (by decide) (Ev.ret (by rw [if_neg (by decide)]))
  | succ d ih =>
    intro i hi
    have hlen := refS_len c p i
    have hw3 : wrap64 ((i : Int) + 1) = ((i + 1 : Nat) : Int) := by rw [w64 (by omega)]; omega
    have hr := hd.at (i : Int)
    have nxt := ih (i + 1) (by omega)
    have key : Ev (fun k => payoffref01_Text.j2 k (p : Int) (Bs (refS c p i)) (i : Int) true neg c) (Bs (textOf c neg p), 0) := by
      refine Ev.step (fun k => payoffref01_Text.j2.eq_2 ..) (Ev.pos rfl ?_)
      by_cases h1 : i = p
      · by_cases h2 : 0 < p
        · refine Ev.pos (by omega) (Ev.pos (by omega) (Ev.pos (by rw [Bs_size]; omega) (Ev.call (ref_at c i (by omega)) (Ev.call rfl ?_))))
          rw [chr_of _ hr, hw3]
          have e : Bs [chr (rd c (i : Int))] ++ ((⟨#[46]⟩ : ByteArray) ++ Bs (refS c p i)) = Bs (refS c p (i + 1)) := by
            show Bs _ ++ (Bs [46] ++ Bs _) = _
            rw [Bs_app, Bs_app, refS, if_pos ⟨h1, h2⟩]; rfl
          rw [e]
          refine Ev.pos ?_ nxt
          show (Bs _).size + (Bs [46] ++ Bs _).size ≤ _
          rw [Bs_app, Bs_size, Bs_size]; simp; omega
        · refine Ev.pos (by omega) (Ev.neg (by omega) (Ev.call (ref_at c i (by omega)) (Ev.call rfl ?_)))
          rw [chr_of _ hr, hw3, Bs_app, show [chr (rd c (i : Int))] ++ refS c p i = refS c p (i + 1) by rw [refS, if_neg (by omega)]; rfl]
          exact Ev.pos (by rw [Bs_size, Bs_size]; simp; omega) nxt
      · refine Ev.neg (by omega) (Ev.call (ref_at c i (by omega)) (Ev.call rfl ?_))
        rw [chr_of _ hr, hw3, Bs_app, show [chr (rd c (i : Int))] ++ refS c p i = refS c p (i + 1) by rw [refS, if_neg (by omega)]; rfl]
        exact Ev.pos (by rw [Bs_size, Bs_size]; simp; omega) nxt
    refine Ev.step (fun k => payoffref01_Text.l0.eq_2 ..) ?_
    by_cases h : (i : Int) < (c.length : Int)
    · exact Ev.pos h key
    · refine Ev.neg h ?_
      rw [show decide ((i : Int) ≤ (p : Int)) = true from decide_eq_true (by omega)]
      exact key
theorem ref_text (v : Int) (hv : In v) (c : List Int) (hc : Ev (fun k => payoffref01_From.f k v) (decide (v < 0), c)) (hn : Norm c) (hl : c.length ≤ 19) (p : Nat) (hp : p ≤ 18) :
    Ev (fun k => payoffref01_Text.f k v (p : Int)) (Bs (textOf c (decide (v < 0)) p), 0) := by
  unfold payoffref01_Text.f
  refine Ev.neg (by omega) ?_
  rw [decide_eq_false (by omega)]
  refine Ev.step (fun k => payoffref01_Text.j0.eq_2 ..) (Ev.neg (by decide) (Ev.bind hc ?_))
  exact ref_text_l0 c hn.1 hl p hp (decide (v < 0)) (max c.length (p + 1)) 0 (by omega)

theorem rtext0 (v : Int) (hv : In v) : Ev (fun k => payoffref01_Text.f k v 0) (dec v, 0) := by
  obtain ⟨c, hc, hn, hval, hl⟩ := ref_from v hv
  have h := ref_text v hv c hc hn hl 0 (by omega)
  have e : Bs (textOf c (decide (v < 0)) 0) = dec v := by
    have hd := dec_plain c hn
    rw [hval] at hd
    unfold textOf dec Lib.itoa
    rw [refS_none]
    show Bs _ = Bs _
    congr 1
    by_cases h0 : v < 0
    · rw [if_pos (decide_eq_true h0), if_pos h0, ← hd]; simp
    · rw [if_neg (by simp [h0]), if_neg h0, ← hd, show ((v.natAbs : Int)).toNat = v.toNat by omega]
  rw [e] at h
  exact h
end Go.Proofs.YtppojbafagneeaaDoor.Pure
