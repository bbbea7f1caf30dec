/- Own text: NumTexts: every number's text is the document's; no condition but that the library's powers of ten stand. -/
import Derived.Test.YtogbeegkhgkdaaaDoorQTextNumTexts
import Derived.Lib.ItoaNum
import Derived.Lib.Repeat
import Derived.SizedLaws
import Derived.Laws.BitsLemmas
namespace Go.Proofs.YtogbeegkhgkdaaaDoor.Pure
open Go.RowKit Go.ChangeShapes Go.WideShapes Go.Proofs.YtogbeegkhgkdaaaDoor.PText Go.Proofs.YtogbeegkhgkdaaaDoorW.PrintWords Go.Proofs.YtogbeegkhgkdaaaDoorW.PrintLast Go.Proofs.YtogbeegkhgkdaaaDoorW.PrintMore
set_option linter.unusedVariables false
set_option linter.unusedSimpArgs false
/-! Rounds: an answer that stands from some number of rounds on -/
theorem Ev.pos {α : Type} {c : Prop} [Decidable c] {a b : Nat → Option α} {r : α} (h : c) (k : Ev a r) : Ev (fun n => if c then a n else b n) r := by
  simpa only [if_pos h] using k
theorem Ev.neg {α : Type} {c : Prop} [Decidable c] {a b : Nat → Option α} {r : α} (h : ¬c) (k : Ev b r) : Ev (fun n => if c then a n else b n) r := by
  simpa only [if_neg h] using k
/-- A call without rounds. -/
theorem Ev.call {α β : Type} {x : Option α} {f : Nat → α → Option β} {a : α} {r : β} (h : x = some a) (k : Ev (fun n => f n a) r) : Ev (fun n => x.bind (f n)) r := by
  subst h; simpa only [Option.bind_some] using k
theorem Ev.ret {α : Type} {r s : α} (h : s = r) : Ev (fun _ => some s) r := ⟨0, fun _ _ => by rw [h]⟩
theorem w64 {n : Int} (h : -9223372036854775808 ≤ n ∧ n ≤ 9223372036854775807) : wrap64 n = n := by unfold wrap64; omega
theorem wu64 {n : Int} (h : 0 ≤ n ∧ n ≤ 18446744073709551615) : IntKind.u64.wrap n = n := by
  simp only [IntKind.wrap, IntKind.bits, IntKind.signed]; simp; omega
theorem wf64 {a : Int} (h : (Lit.int .i64 a).wf = true) : -9223372036854775808 ≤ a ∧ a ≤ 9223372036854775807 := by
  simp only [Lit.wf, IntKind.min, IntKind.max, IntKind.signed, IntKind.bits, Bool.and_eq_true, decide_eq_true_eq, if_true] at h
  omega
theorem wfu64 {a : Int} (h : (Lit.int .u64 a).wf = true) : 0 ≤ a ∧ a ≤ 18446744073709551615 := by
  simp only [Lit.wf, IntKind.min, IntKind.max, IntKind.signed, IntKind.bits, Bool.and_eq_true, decide_eq_true_eq] at h
  simp at h
  omega
theorem wf8 {a : Int} (h : (Lit.int .u8 a).wf = true) : 0 ≤ a ∧ a ≤ 255 := by
  simp only [Lit.wf, IntKind.min, IntKind.max, IntKind.signed, IntKind.bits, Bool.and_eq_true, decide_eq_true_eq] at h
  simp at h
  omega

/-! Strings as lists of bytes -/
def Bs (l : List UInt8) : ByteArray := ⟨l.toArray⟩
theorem Bs_size (l : List UInt8) : (Bs l).size = l.length := by show l.toArray.size = l.length; simp
theorem Bs_data (l : List UInt8) : (Bs l).data.toList = l := by show l.toArray.toList = l; simp
theorem Bs_list (l : List UInt8) : (Bs l).toList = l := by rw [ByteArray.toList_eq]; exact Bs_data l
theorem Bs_of (s : ByteArray) : s = Bs s.data.toList := by cases s; simp [Bs]
theorem ba_ext {a b : ByteArray} (h : a.data.toList = b.data.toList) : a = b := by
  rw [Bs_of a, Bs_of b, h]
theorem Bs_app (a b : List UInt8) : Bs a ++ Bs b = Bs (a ++ b) := ba_ext (by rw [ByteArray.data_append, Array.toList_append, Bs_data, Bs_data, Bs_data])
theorem Bs_ext (l : List UInt8) (i j : Nat) : (Bs l).extract i j = Bs ((l.drop i).take (j - i)) := ba_ext (by
  rw [ByteArray.data_extract, Array.toList_extract, Bs_data, Bs_data, List.extract_eq_take_drop])

/-! The range, and what a call answers by its true answer -/
def In (n : Int) : Prop := -9223372036854775808 ≤ n ∧ n ≤ 9223372036854775807
instance (n : Int) : Decidable (In n) := by unfold In; infer_instance
/-- What a call answers whose true answer is n. -/
def fit (n : Int) : Int × Int := if In n then (n, 0) else (0, 1)
theorem fit_in {n : Int} (h : In n) : fit n = (n, 0) := by rw [fit, if_pos h]
theorem fit_out {n : Int} (h : ¬In n) : fit n = (0, 1) := by rw [fit, if_neg h]

/-! Lists of decimal digits, the lowest first -/
def val : List Int → Int
  | [] => 0
  | d :: t => d + 10 * val t
def Dg (l : List Int) : Prop := ∀ x ∈ l, 0 ≤ x ∧ x ≤ 9
/-- Digits, without a 0 at the end. -/
def Norm (l : List Int) : Prop := Dg l ∧ ∀ h : l ≠ [], l.getLast h ≠ 0
theorem Dg.nil : Dg [] := fun x h => by simp at h
theorem Dg.cons {d : Int} {t : List Int} (h : 0 ≤ d ∧ d ≤ 9) (ht : Dg t) : Dg (d :: t) := fun x hx => by
  rcases List.mem_cons.1 hx with rfl | hx
  · exact h
  · exact ht x hx
theorem Dg.append {a b : List Int} (ha : Dg a) (hb : Dg b) : Dg (a ++ b) := fun x hx => by
  rcases List.mem_append.1 hx with hx | hx
  · exact ha x hx
  · exact hb x hx
theorem Dg.drop {l : List Int} (h : Dg l) (n : Nat) : Dg (l.drop n) := fun x hx => h x (List.mem_of_mem_drop hx)
theorem Dg.take {l : List Int} (h : Dg l) (n : Nat) : Dg (l.take n) := fun x hx => h x (List.mem_of_mem_take hx)
theorem Dg.at {l : List Int} (h : Dg l) (i : Int) : 0 ≤ rd l i ∧ rd l i ≤ 9 := by
  unfold rd
  rw [List.getD_eq_getElem?_getD]
  cases e : l[i.toNat]? with
  | none => simp
  | some x => exact h x (List.mem_of_getElem? e)
theorem Norm.dg {l : List Int} (h : Norm l) : Dg l := h.1
theorem Norm.nil : Norm [] := ⟨Dg.nil, fun h => (h rfl).elim⟩
theorem rd_nat (l : List Int) (i : Nat) : rd l (i : Int) = l.getD i 0 := by simp [rd]
theorem rd_out {l : List Int} {i : Int} (h : (l.length : Int) ≤ i) : rd l i = 0 := by
  unfold rd
  rw [List.getD_eq_getElem?_getD, List.getElem?_eq_none (by omega)]; rfl
theorem val_nonneg {l : List Int} (h : Dg l) : 0 ≤ val l := by
  induction l with
  | nil => simp [val]
  | cons d t ih =>
    have h1 := h d (by simp)
    have h2 := ih (fun x hx => h x (by simp [hx]))
    simp only [val]; omega
theorem val_lt {l : List Int} (h : Dg l) : val l < 10 ^ l.length := by
  induction l with
  | nil => simp [val]
  | cons d t ih =>
    have h1 := h d (by simp)
    have h2 := ih (fun x hx => h x (by simp [hx]))
    rw [List.length_cons, Int.pow_succ]
    simp only [val]
    generalize (10 : Int) ^ t.length = p at *
    omega
theorem val_append (a b : List Int) : val (a ++ b) = val a + 10 ^ a.length * val b := by
  induction a with
  | nil => simp [val]
  | cons d t ih =>
    simp only [List.cons_append, val, List.length_cons, Int.pow_succ, ih]
    rw [Int.mul_add, Int.mul_right_comm, Int.mul_comm ((10 : Int) ^ t.length * val b)]
    omega
theorem val_drop (l : List Int) (i : Nat) : val (l.drop i) = rd l (i : Int) + 10 * val (l.drop (i + 1)) := by
  by_cases h : i < l.length
  · rw [List.drop_eq_getElem_cons h, rd_nat, List.getD_eq_getElem?_getD, List.getElem?_eq_getElem h]; rfl
  · rw [List.drop_eq_nil_of_le (by omega), List.drop_eq_nil_of_le (by omega), rd_out (by omega)]; rfl
theorem pow10_pos (n : Nat) : (0 : Int) < 10 ^ n := Int.pow_pos (by decide)
theorem pow10_mono {m n : Nat} (h : m ≤ n) : (10 : Int) ^ m ≤ 10 ^ n := by
  have := Nat.pow_le_pow_right (show 10 > 0 by decide) h
  exact_mod_cast this
theorem Norm.lo {l : List Int} (h : Norm l) (hl : l ≠ []) : 10 ^ (l.length - 1) ≤ val l := by
  have h1 := List.dropLast_concat_getLast hl
  have hd := h.1 _ (List.getLast_mem hl)
  have hn := h.2 hl
  have e := val_append l.dropLast [l.getLast hl]
  rw [h1, List.length_dropLast] at e
  have h2 := val_nonneg (l := l.dropLast) (fun x hx => h.1 x ((List.dropLast_sublist l).subset hx))
  rw [e]
  simp only [val]
  have h3 := pow10_pos (l.length - 1)
  have h4 := Int.mul_le_mul_of_nonneg_left (show (1 : Int) ≤ l.getLast hl + 10 * 0 by omega) (Int.le_of_lt h3)
  omega
theorem Norm.length_le {l : List Int} {n : Nat} (h : Norm l) (hv : val l < 10 ^ n) : l.length ≤ n := by
  by_cases hl : l = []
  · simp [hl]
  · have h1 := h.lo hl
    have h2 : l.length - 1 < n := by
      apply Classical.byContradiction
      intro hc
      have := pow10_mono (show n ≤ l.length - 1 by omega)
      omega
    omega
theorem Norm.zero {l : List Int} (h : Norm l) (hv : val l = 0) : l = [] := by
  apply Classical.byContradiction
  intro hl
  have h1 := h.lo hl
  have h2 := pow10_pos (l.length - 1)
  omega
theorem Norm.pos_iff {l : List Int} (h : Norm l) : (l.length : Int) > 0 ↔ 0 < val l := by
  constructor
  · intro hl
    have h1 : l ≠ [] := by intro e; rw [e] at hl; simp at hl
    have := h.lo h1
    have := pow10_pos (l.length - 1)
    omega
  · intro hv
    cases l with
    | nil => simp [val] at hv
    | cons d t => simp
theorem Norm.lt_of_length {a b : List Int} (ha : Norm a) (hb : Norm b) (h : a.length < b.length) : val a < val b := by
  have h1 := val_lt ha.1
  have h2 := hb.lo (by intro e; rw [e] at h; simp at h)
  have h3 := pow10_mono (show a.length ≤ b.length - 1 by omega)
  omega
/-- The first number of a list decides its parity. -/
theorem val_rd0 (l : List Int) : val l = rd l 0 + 10 * val (l.drop 1) := by
  have := val_drop l 0
  simpa using this

/-! payoffref01: the school's ways, by what the digits come to -/
theorem ref_at (l : List Int) (i : Int) (h : 0 ≤ i) : payoffref01_at.f l i = some (rd l i) := by
  unfold payoffref01_at.f
  by_cases h1 : i < (l.length : Int)
  · rw [if_pos h1, if_pos h]
  · rw [if_neg h1, rd_out (by omega)]
theorem ref_from_l0 : ∀ (d : Nat) (v : Int) (neg : Bool) (out : List Int), -9223372036854775808 ≤ v → v ≤ 9223372036854775807 → Dg out → out.length + d ≤ 1000 → (v.natAbs : Int) < 10 ^ d → (v = 0 → ∀ h : out ≠ [], out.getLast h ≠ 0) →
    ∃ c, Ev (fun k => payoffref01_From.l0 k v neg out) (neg, c) ∧ Norm c ∧ val c = val out + 10 ^ out.length * (v.natAbs : Int) ∧ c.length ≤ out.length + d := by
  intro d
  induction d with
  | zero =>
    intro v neg out h0 h1 hd hl hp hn
    have : v = 0 := by simp at hp; omega
    subst this
    refine ⟨out, ?_, ⟨hd, hn rfl⟩, by simp, by omega⟩
    exact Ev.step (fun k => payoffref01_From.l0.eq_2 _ _ _ _) (Ev.pos rfl (Ev.ret rfl))
  | succ d ih =>
    intro v neg out h0 h1 hd hl hp hn
    by_cases hv : v = 0
    · subst hv
      refine ⟨out, ?_, ⟨hd, hn rfl⟩, by simp, by omega⟩
      exact Ev.step (fun k => payoffref01_From.l0.eq_2 _ _ _ _) (Ev.pos rfl (Ev.ret rfl))
    have hq : (Int.tdiv v 10).natAbs = v.natAbs / 10 := Int.natAbs_tdiv v 10
    have hr : (Int.tmod v 10).natAbs = v.natAbs % 10 := Int.natAbs_tmod v 10
    have hqb : -9223372036854775808 ≤ Int.tdiv v 10 ∧ Int.tdiv v 10 ≤ 9223372036854775807 := by omega
    have key : ∀ e : Int, e = (v.natAbs % 10 : Nat) → ∃ c, Ev (fun k => payoffref01_From.l0 k (Int.tdiv v 10) neg (out ++ [e])) (neg, c) ∧ Norm c ∧ val c = val out + 10 ^ out.length * (v.natAbs : Int) ∧ c.length ≤ out.length + (d + 1) := by
      intro e he
      obtain ⟨c, g1, g2, g3, g4⟩ := ih (Int.tdiv v 10) neg (out ++ [e]) hqb.1 hqb.2 (hd.append (Dg.cons (by omega) Dg.nil)) (by simp; omega) (by
        rw [Int.pow_succ] at hp
        generalize (10 : Int) ^ d = p at *
        omega) (by
        intro hz h
        rw [List.getLast_append_of_ne_nil _ (by simp)]
        simp
        omega)
      refine ⟨c, g1, g2, ?_, by simp at g4; omega⟩
      rw [g3, val_append, hq]
      simp only [List.length_append, List.length_cons, List.length_nil, val, Int.pow_succ, Int.pow_zero, Nat.zero_add]
      have hsplit : (v.natAbs : Int) = (v.natAbs % 10 : Nat) + 10 * (v.natAbs / 10 : Nat) := by omega
      rw [← he] at hsplit
      generalize (10 : Int) ^ out.length = p at *
      grind
    refine Exists.imp (fun c h => ?_) (key _ rfl)
    refine ⟨Ev.step (fun k => payoffref01_From.l0.eq_2 _ _ _ _) (Ev.neg hv ?_), h.2⟩
    by_cases hs : Int.tmod v 10 < 0
    · refine Ev.pos hs (Ev.pos (by omega) ?_)
      rw [w64 hqb, w64 (by omega)]
      have : -(Int.tmod v 10) = ((v.natAbs % 10 : Nat) : Int) := by omega
      rw [this]; exact h.1
    · refine Ev.neg hs (Ev.pos (by omega) ?_)
      rw [w64 hqb]
      have : Int.tmod v 10 = ((v.natAbs % 10 : Nat) : Int) := by omega
      rw [this]; exact h.1
theorem ref_from (v : Int) (h : In v) : ∃ c, Ev (fun k => payoffref01_From.f k v) (decide (v < 0), c) ∧ Norm c ∧ val c = v.natAbs ∧ c.length ≤ 19 := by
  unfold In at h
  obtain ⟨c, h1, h2, h3, h4⟩ := ref_from_l0 19 v (decide (v < 0)) [] h.1 h.2 Dg.nil (by simp) (by simp; omega) (fun _ h => (h rfl).elim)
  exact ⟨c, h1, h2, by simpa [val] using h3, by simpa using h4⟩

theorem Ev.ret' {α : Type} {x : Option α} {r : α} (h : x = some r) : Ev (fun _ => x) r := ⟨0, fun _ _ => h⟩
/-! NumTexts: both texts -/
def chr (d : Int) : UInt8 := UInt8.ofNat (48 + d).toNat
def digS (c : List Int) : Nat → List UInt8
  | 0 => []
  | i + 1 => chr (rd c i) :: digS c i
def refS (c : List Int) (p : Nat) : Nat → List UInt8
  | 0 => []
  | i + 1 => chr (rd c i) :: (if i = p ∧ 0 < p then 46 :: refS c p i else refS c p i)
theorem digS_len (c : List Int) : ∀ n, (digS c n).length = n := by
  intro n
  induction n with
  | zero => rfl
  | succ n ih => simp [digS, ih]
theorem refS_len (c : List Int) (p : Nat) : ∀ n, (refS c p n).length ≤ 2 * n := by
  intro n
  induction n with
  | zero => simp [refS]
  | succ n ih =>
    simp only [refS]
    split <;> simp <;> omega
theorem refS_small (c : List Int) (p : Nat) : ∀ n, n ≤ p → refS c p n = digS c n := by
  intro n
  induction n with
  | zero => intro _; rfl
  | succ n ih =>
    intro h
    rw [refS, digS, if_neg (by omega), ih (by omega)]
theorem refS_none (c : List Int) : ∀ n, refS c 0 n = digS c n := by
  intro n
  induction n with
  | zero => rfl
  | succ n ih => rw [refS, digS, if_neg (by omega), ih]
theorem refS_big (c : List Int) (p : Nat) (hp : 0 < p) : ∀ d, refS c p (p + 1 + d) = (digS c (p + 1 + d)).take (1 + d) ++ 46 :: digS c p := by
  intro d
  induction d with
  | zero =>
    show refS c p (p + 1) = (digS c (p + 1)).take 1 ++ 46 :: digS c p
    rw [refS, digS, if_pos ⟨rfl, hp⟩, refS_small c p p (Nat.le_refl _)]
    simp
  | succ d ih =>
    rw [show p + 1 + (d + 1) = (p + 1 + d) + 1 by omega, refS, digS, if_neg (by omega), ih, show 1 + (d + 1) = (1 + d) + 1 by omega, List.take_succ_cons, List.cons_append]
theorem digS_drop (c : List Int) (p : Nat) : ∀ d, (digS c (p + d)).drop d = digS c p := by
  intro d
  induction d with
  | zero => simp
  | succ d ih => rw [show p + (d + 1) = (p + d) + 1 by omega, digS, List.drop_succ_cons, ih]
theorem digS_high (c : List Int) : ∀ d, digS c (c.length + d) = List.replicate d 48 ++ digS c c.length := by
  intro d
  induction d with
  | zero => simp
  | succ d ih =>
    rw [show c.length + (d + 1) = (c.length + d) + 1 by omega, digS, ih, rd_out (by omega), List.replicate_succ, List.cons_append]
    rfl
theorem digS_cons (x : Int) (c : List Int) : ∀ n, digS (x :: c) (n + 1) = digS c n ++ [chr x] := by
  intro n
  induction n with
  | zero => simp [digS, rd]
  | succ n ih =>
    rw [digS, ih, digS]
    have : rd (x :: c) ((n + 1 : Nat) : Int) = rd c (n : Int) := by simp [rd]
    rw [this, List.cons_append]
theorem Norm.tail {x : Int} {c : List Int} (h : Norm (x :: c)) : Norm c :=
  ⟨fun y hy => h.1 y (List.mem_cons_of_mem _ hy), fun hc => by have := h.2 (by simp); rwa [List.getLast_cons hc] at this⟩
theorem dec_norm : ∀ c : List Int, Norm c → c ≠ [] → Lib.decDigits (val c).toNat = digS c c.length := by
  intro c
  induction c with
  | nil => intro _ h; exact absurd rfl h
  | cons x t ih =>
    intro hn _
    have hx := hn.1 x (by simp)
    have hv := val_nonneg hn.tail.1
    rw [List.length_cons, digS_cons]
    by_cases ht : t = []
    · subst ht
      have : (val [x]).toNat = x.toNat := by simp [val]
      rw [this, Lib.decDigits_one (by omega)]
      show [UInt8.ofNat (48 + x.toNat)] = [chr x]
      rw [chr, show (48 + x).toNat = 48 + x.toNat by omega]
    · have hlo := hn.tail.lo ht
      have hp := pow10_pos (t.length - 1)
      have e : (val (x :: t)).toNat = x.toNat + 10 * (val t).toNat := by simp only [val]; omega
      rw [e, Lib.decDigits, dif_neg (by omega), show (x.toNat + 10 * (val t).toNat) / 10 = (val t).toNat by omega, show (x.toNat + 10 * (val t).toNat) % 10 = x.toNat by omega, ih hn.tail ht]
      rw [chr, show (48 + x).toNat = 48 + x.toNat by omega]
theorem rep_zero : ∀ n, Lib.repeatL [48] n = List.replicate n (48 : UInt8) := by
  intro n
  induction n with
  | zero => rfl
  | succ n ih => rw [Lib.repeatL, ih, List.replicate_succ]; rfl
/-- The decimal digits, with zeroes ahead, up to so many. -/
theorem pad_dec (c : List Int) (hn : Norm c) (p : Nat) :
    List.replicate (p + 1 - (Lib.decDigits (val c).toNat).length) 48 ++ Lib.decDigits (val c).toNat = digS c (max c.length (p + 1)) := by
  by_cases hc : c = []
  · subst hc
    rw [show (val []).toNat = 0 from rfl, Lib.decDigits_one (by omega)]
    have h := digS_high [] (p + 1)
    rw [List.length_nil, Nat.zero_add] at h
    rw [List.length_nil, Nat.zero_max, h]
    show _ = List.replicate (p + 1) 48 ++ []
    rw [List.append_nil, List.length_singleton, Nat.add_sub_cancel, List.replicate_succ']
    rfl
  · rw [dec_norm c hn hc, digS_len]
    have := digS_high c (p + 1 - c.length)
    rw [← this, show c.length + (p + 1 - c.length) = max c.length (p + 1) by omega]
theorem dec_plain (c : List Int) (hn : Norm c) : Lib.decDigits (val c).toNat = digS c (max c.length 1) := by
  have := pad_dec c hn 0
  rw [show 0 + 1 - (Lib.decDigits (val c).toNat).length = 0 by have := Lib.nDigits_pos (val c).toNat; rw [Lib.decDigits_length]; omega] at this
  simpa using this
/-- What a text is. -/
def textOf (c : List Int) (neg : Bool) (p : Nat) : List UInt8 := if neg = true then 45 :: refS c p (max c.length (p + 1)) else refS c p (max c.length (p + 1))
theorem chr_of (d : Int) (h : 0 ≤ d ∧ d ≤ 9) : strOfNums [(wrap64 (48 + d)) % 256] = Bs [chr d] := by
  rw [w64 (by omega)]
  unfold strOfNums Bs chr
  simp only [List.map_cons, List.map_nil]
  rw [show (48 + d) % 256 = 48 + d by omega]
theorem ref_text_l0 (c : List Int) (hd : Dg c) (hl : c.length ≤ 19) (p : Nat) (hp : p ≤ 18) (neg : Bool) : ∀ d i, i + d = max c.length (p + 1) →
    Ev (fun k => payoffref01_Text.l0 k (p : Int) (Bs (refS c p i)) (i : Int) neg c) (Bs (textOf c neg p), 0) := by
  intro d
  induction d with
  | zero =>
    intro i hi
    have hlen := refS_len c p i
    refine Ev.step (fun k => payoffref01_Text.l0.eq_2 ..) (Ev.neg (by omega) ?_)
    rw [show decide ((i : Int) ≤ (p : Int)) = false from decide_eq_false (by omega)]
    refine Ev.step (fun k => payoffref01_Text.j2.eq_2 ..) (Ev.neg (by decide) ?_)
    obtain rfl : i = max c.length (p + 1) := by omega
    unfold textOf
    cases neg with
    | true =>
      refine Ev.pos rfl (Ev.pos (by rw [Bs_size]; omega) (Ev.ret ?_))
      rw [if_pos rfl]
      show (Bs [45] ++ Bs _, (0 : Int)) = _
      rw [Bs_app]; rfl
    | false => exact Ev.neg (by decide) (Ev.ret (by rw [if_neg (by decide)]))
  | succ d ih =>
    intro i hi
    have hlen := refS_len c p i
    have hw3 : wrap64 ((i : Int) + 1) = ((i + 1 : Nat) : Int) := by rw [w64 (by omega)]; omega
    have hr := hd.at (i : Int)
    have nxt := ih (i + 1) (by omega)
    have key : Ev (fun k => payoffref01_Text.j2 k (p : Int) (Bs (refS c p i)) (i : Int) true neg c) (Bs (textOf c neg p), 0) := by
      refine Ev.step (fun k => payoffref01_Text.j2.eq_2 ..) (Ev.pos rfl ?_)
      by_cases h1 : i = p
      · by_cases h2 : 0 < p
        · refine Ev.pos (by omega) (Ev.pos (by omega) (Ev.pos (by rw [Bs_size]; omega) (Ev.call (ref_at c i (by omega)) (Ev.call rfl ?_))))
          rw [chr_of _ hr, hw3]
          have e : Bs [chr (rd c (i : Int))] ++ ((⟨#[46]⟩ : ByteArray) ++ Bs (refS c p i)) = Bs (refS c p (i + 1)) := by
            show Bs _ ++ (Bs [46] ++ Bs _) = _
            rw [Bs_app, Bs_app, refS, if_pos ⟨h1, h2⟩]; rfl
          rw [e]
          refine Ev.pos ?_ nxt
          show (Bs _).size + (Bs [46] ++ Bs _).size ≤ _
          rw [Bs_app, Bs_size, Bs_size]; simp; omega
        · refine Ev.pos (by omega) (Ev.neg (by omega) (Ev.call (ref_at c i (by omega)) (Ev.call rfl ?_)))
          rw [chr_of _ hr, hw3, Bs_app, show [chr (rd c (i : Int))] ++ refS c p i = refS c p (i + 1) by rw [refS, if_neg (by omega)]; rfl]
          exact Ev.pos (by rw [Bs_size, Bs_size]; simp; omega) nxt
      · refine Ev.neg (by omega) (Ev.call (ref_at c i (by omega)) (Ev.call rfl ?_))
        rw [chr_of _ hr, hw3, Bs_app, show [chr (rd c (i : Int))] ++ refS c p i = refS c p (i + 1) by rw [refS, if_neg (by omega)]; rfl]
        exact Ev.pos (by rw [Bs_size, Bs_size]; simp; omega) nxt
    refine Ev.step (fun k => payoffref01_Text.l0.eq_2 ..) ?_
    by_cases h : (i : Int) < (c.length : Int)
    · exact Ev.pos h key
    · refine Ev.neg h ?_
      rw [show decide ((i : Int) ≤ (p : Int)) = true from decide_eq_true (by omega)]
      exact key
theorem ref_text (v : Int) (hv : In v) (c : List Int) (hc : Ev (fun k => payoffref01_From.f k v) (decide (v < 0), c)) (hn : Norm c) (hl : c.length ≤ 19) (p : Nat) (hp : p ≤ 18) :
    Ev (fun k => payoffref01_Text.f k v (p : Int)) (Bs (textOf c (decide (v < 0)) p), 0) := by
  unfold payoffref01_Text.f
  refine Ev.neg (by omega) ?_
  rw [decide_eq_false (by omega)]
  refine Ev.step (fun k => payoffref01_Text.j0.eq_2 ..) (Ev.neg (by decide) (Ev.bind hc ?_))
  exact ref_text_l0 c hn.1 hl p hp (decide (v < 0)) (max c.length (p + 1)) 0 (by omega)
theorem mx_nat (p n : Nat) (hp : p ≤ 18) (hn : n ≤ 30) : mx 0 (wrap64 (wrap64 ((p : Int) + 1) - (n : Int))) = ((p + 1 - n : Nat) : Int) := by
  rw [show wrap64 ((p : Int) + 1) = (p : Int) + 1 from w64 (by omega), w64 (by omega)]
  unfold mx
  split <;> omega
/-- The zeroes, the digits, the point between. -/
theorem num_point (D : List UInt8) (c : List Int) (p : Nat) (hp : p ≤ 18) (h0 : 0 < p) (hl : c.length ≤ 19) (hD : D.length ≤ 20) (hpad : List.replicate (p + 1 - D.length) 48 ++ D = digS c (max c.length (p + 1))) (sg : List UInt8) (hs : sg.length ≤ 1) (q : Nat) (hq : q ≤ 1) :
    ((strings_Repeat.f (⟨#[48]⟩ : ByteArray) (mx 0 (wrap64 ((wrap64 ((p : Int) + 1)) - ((Bs D).size : Int))))).bind fun t126 => (if t126.size + (Bs D).size ≤ 9223372036854775807 then (if 0 ≤ (wrap64 (((t126 ++ Bs D).size : Int) - (p : Int))) then (if (wrap64 (((t126 ++ Bs D).size : Int) - (p : Int))) ≤ ((t126 ++ Bs D).size : Int) then (if ((t126 ++ Bs D).extract 0 ((wrap64 (((t126 ++ Bs D).size : Int) - (p : Int))) : Int).toNat).size + 1 ≤ 9223372036854775807 then (if (((t126 ++ Bs D).extract 0 ((wrap64 (((t126 ++ Bs D).size : Int) - (p : Int))) : Int).toNat) ++ (⟨#[46]⟩ : ByteArray)).size + ((t126 ++ Bs D).extract ((wrap64 (((t126 ++ Bs D).size : Int) - (p : Int))) : Int).toNat (t126 ++ Bs D).size).size ≤ 9223372036854775807 then (if q + ((((t126 ++ Bs D).extract 0 ((wrap64 (((t126 ++ Bs D).size : Int) - (p : Int))) : Int).toNat) ++ (⟨#[46]⟩ : ByteArray)) ++ ((t126 ++ Bs D).extract ((wrap64 (((t126 ++ Bs D).size : Int) - (p : Int))) : Int).toNat (t126 ++ Bs D).size)).size ≤ 9223372036854775807 then (some (Bs sg ++ ((((t126 ++ Bs D).extract 0 ((wrap64 (((t126 ++ Bs D).size : Int) - (p : Int))) : Int).toNat) ++ (⟨#[46]⟩ : ByteArray)) ++ ((t126 ++ Bs D).extract ((wrap64 (((t126 ++ Bs D).size : Int) - (p : Int))) : Int).toNat (t126 ++ Bs D).size)), (0 : Int))) else (none)) else (none)) else (none)) else (none)) else (none)) else (none))) =
    some (Bs (sg ++ refS c p (max c.length (p + 1))), 0) := by
  rw [Bs_size, mx_nat p D.length hp (by omega)]
  have hr : strings_Repeat.f (⟨#[48]⟩ : ByteArray) ((p + 1 - D.length : Nat) : Int) = some (Bs (List.replicate (p + 1 - D.length) 48)) := by
    unfold strings_Repeat.f
    rw [Int.toNat_natCast, if_pos ⟨by omega, by omega, by show 1 * _ ≤ _; omega⟩]
    show some (Bs (Lib.repeatL [48] _)) = _
    rw [rep_zero]
  rw [hr, Option.bind_some]
  obtain ⟨S, hS⟩ : ∃ S, S = digS c (max c.length (p + 1)) := ⟨_, rfl⟩
  have hlen : S.length = max c.length (p + 1) := by rw [hS, digS_len]
  rw [Bs_app, hpad, ← hS]
  have hw : wrap64 (((Bs S).size : Int) - (p : Int)) = ((S.length - p : Nat) : Int) := by rw [Bs_size, w64 (by omega)]; omega
  rw [hw, Int.toNat_natCast]
  have e1 : (Bs S).extract 0 (S.length - p) = Bs (S.take (S.length - p)) := by rw [Bs_ext, List.drop_zero, Nat.sub_zero]
  have e2 : (Bs S).extract (S.length - p) (Bs S).size = Bs (S.drop (S.length - p)) := by rw [Bs_ext, Bs_size, List.take_of_length_le (by rw [List.length_drop]; omega)]
  rw [e1, e2]
  show (if (Bs _).size + D.length ≤ _ then _ else _) = _
  have e3 : Bs (S.take (S.length - p)) ++ (⟨#[46]⟩ : ByteArray) = Bs (S.take (S.length - p) ++ [46]) := by show Bs _ ++ Bs [46] = _; rw [Bs_app]
  rw [e3, Bs_app, Bs_app, Bs_size, Bs_size, Bs_size, Bs_size, Bs_size, Bs_size]
  simp only [List.length_append, List.length_take, List.length_drop, List.length_replicate, List.length_cons, List.length_nil]
  rw [if_pos (by omega), if_pos (by omega), if_pos (by omega), if_pos (by omega), if_pos (by omega), if_pos (by omega)]
  obtain ⟨d, hd⟩ : ∃ d, max c.length (p + 1) = p + 1 + d := ⟨max c.length (p + 1) - (p + 1), by omega⟩
  rw [hd, refS_big c p h0 d]
  have h1 : S.length - p = 1 + d := by omega
  have h2 : S.drop (1 + d) = digS c p := by rw [hS, hd, show p + 1 + d = p + (1 + d) by omega]; exact digS_drop c p (1 + d)
  rw [h1, h2, hS, hd, List.append_assoc]
  rfl
theorem num_text (v : Int) (hv : In v) (c : List Int) (hn : Norm c) (hl : c.length ≤ 19) (hc : val c = v.natAbs) (p : Nat) (hp : p ≤ 18) :
    Ev (fun k => num_Text.f k v (p : Int)) (Bs (textOf c (decide (v < 0)) p), 0) := by
  unfold num_Text.f
  refine Ev.neg (by omega) ?_
  rw [decide_eq_false (by omega)]
  have hI : strconv_Itoa_10.f v = some (Bs (Lib.itoa v)) := by unfold strconv_Itoa_10.f; rw [if_pos (show -9223372036854775808 ≤ v ∧ v ≤ 9223372036854775807 from hv)]; rfl
  have hD : (Lib.decDigits (val c).toNat).length ≤ 20 := by
    have h1 := dec_plain c hn
    rw [h1, digS_len]; omega
  have hpad := pad_dec c hn p
  have hpl := dec_plain c hn
  obtain ⟨D, hDD⟩ : ∃ D, D = Lib.decDigits (val c).toNat := ⟨_, rfl⟩
  rw [← hDD] at hD hpad hpl
  refine Ev.step (fun k => num_Text.j0.eq_2 ..) (Ev.neg (by decide) (Ev.call hI ?_))
  by_cases hneg : v < 0
  · have hit : Lib.itoa v = 45 :: D := by unfold Lib.itoa; rw [if_pos hneg, hDD, hc, Int.toNat_natCast]
    rw [hit]
    refine Ev.pos hneg (Ev.pos (by rw [Bs_size, List.length_cons]; omega) ?_)
    have hu : (Bs (45 :: D)).extract 1 (Bs (45 :: D)).size = Bs D := by rw [Bs_ext, Bs_size]; simp
    rw [hu]
    rw [show textOf c (decide (v < 0)) p = 45 :: refS c p (max c.length (p + 1)) by unfold textOf; rw [decide_eq_true hneg]; rfl]
    by_cases h0 : 0 < p
    · refine Ev.pos (by omega) (Ev.ret' ?_)
      exact num_point D c p hp h0 hl hD hpad [45] (by simp) 1 (by omega)
    · refine Ev.neg (by omega) (Ev.pos (by rw [Bs_size]; omega) (Ev.ret ?_))
      obtain rfl : p = 0 := by omega
      rw [refS_none, hpl]
      show (Bs [45] ++ Bs _, (0 : Int)) = _
      rw [Bs_app]; rfl
  · have hit : Lib.itoa v = D := by unfold Lib.itoa; rw [if_neg hneg, hDD, hc]; congr 1; omega
    rw [hit]
    refine Ev.neg hneg ?_
    rw [show textOf c (decide (v < 0)) p = refS c p (max c.length (p + 1)) by unfold textOf; rw [decide_eq_false hneg]; rfl]
    by_cases h0 : 0 < p
    · refine Ev.pos (by omega) (Ev.ret' ?_)
      exact num_point D c p hp h0 hl hD hpad [] (by simp) 0 (by omega)
    · refine Ev.neg (by omega) (Ev.pos (by rw [Bs_size]; omega) (Ev.ret ?_))
      obtain rfl : p = 0 := by omega
      rw [refS_none, hpl]
      show (Bs [] ++ Bs _, (0 : Int)) = _
      rw [Bs_app]; rfl
theorem numtexts (a0 a1 : Int) (h0 : In a0) (h1 : In a1) : Ev (fun k => payofflaw01_NumTexts.f k a0 a1) true := by
  unfold payofflaw01_NumTexts.f
  by_cases hp : 0 ≤ a1 ∧ a1 ≤ 18
  · obtain ⟨p, rfl⟩ : ∃ p : Nat, a1 = p := ⟨a1.toNat, by omega⟩
    obtain ⟨c, g1, g2, g3, g4⟩ := ref_from a0 h0
    exact Ev.bind (num_text a0 h0 c g2 g4 g3 p (by omega)) (Ev.bind (ref_text a0 h0 c g1 g2 g4 p (by omega)) (Ev.pos rfl (Ev.ret rfl)))
  · have e1 : Ev (fun k => num_Text.f k a0 a1) ((⟨#[]⟩ : ByteArray), 1) := by
      unfold num_Text.f
      by_cases h : a1 < 0
      · exact Ev.pos h (Ev.step (fun k => num_Text.j0.eq_2 ..) (Ev.pos rfl (Ev.ret rfl)))
      · refine Ev.neg h ?_
        rw [decide_eq_true (by omega)]
        exact Ev.step (fun k => num_Text.j0.eq_2 ..) (Ev.pos rfl (Ev.ret rfl))
    have e2 : Ev (fun k => payoffref01_Text.f k a0 a1) ((⟨#[]⟩ : ByteArray), 1) := by
      unfold payoffref01_Text.f
      by_cases h : a1 < 0
      · exact Ev.pos h (Ev.step (fun k => payoffref01_Text.j0.eq_2 ..) (Ev.pos rfl (Ev.ret rfl)))
      · refine Ev.neg h ?_
        rw [decide_eq_true (by omega)]
        exact Ev.step (fun k => payoffref01_Text.j0.eq_2 ..) (Ev.pos rfl (Ev.ret rfl))
    exact Ev.bind e1 (Ev.bind e2 (Ev.pos rfl (Ev.ret rfl)))

theorem NumTexts_walk (a0 a1 : Int) (w : World) (w0 : (Lit.int .i64 a0).wf = true) (w1 : (Lit.int .i64 a1).wf = true) (hL : Gl w) :
    Calls Tryd.prog 3 #[.int .i64 a0, .int .i64 a1] w fun e w' => e = .returned (.bool true) ∧ Below w.heap.size w w' := by
  obtain ⟨k, h⟩ := (numtexts a0 a1 (wf64 w0) (wf64 w1)).rounds
  exact payofflaw01_NumTexts.calls k a0 a1 true w h hL
end Go.Proofs.YtogbeegkhgkdaaaDoor.Pure
