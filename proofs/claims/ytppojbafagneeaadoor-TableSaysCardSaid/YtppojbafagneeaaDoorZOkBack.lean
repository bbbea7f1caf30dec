/- Own text, for this claim: plain()'s table is printed, read back and printed again: back tells true of it. -/
import Derived.Test.YtppojbafagneeaaDoorZQOkb
namespace Go.Proofs.YtppojbafagneeaaDoor.Pure
open Go.RowKit Go.Maps Go.ChangeShapes Go.WideShapes Go.Proofs.YtppojbafagneeaaDoor.PTab Go.Proofs.YtppojbafagneeaaDoorW.PrintWords Go.Proofs.YtppojbafagneeaaDoorW.PrintLast Go.Proofs.YtppojbafagneeaaDoorW.PrintMore
set_option linter.unusedVariables false
set_option linter.unusedSimpArgs false
theorem okC_iff (c : S52) : okC c = true ↔ (c.f0 = false → c.f1 = 0) := by
 unfold okC
 cases c.f0 <;> simp
theorem okRow_all (row : List S52) : ∀ d j : Nat, j + d = row.length → (okRow row d j = true ↔ ∀ i, j ≤ i → i < row.length → okC (rd_T52 row (i : Int)) = true) := by
 intro d
 induction d with
 | zero => intro j hj; simp only [okRow, true_iff]; intro i h1 h2; omega
 | succ d ih =>
  intro j hj
  rw [okRow, Bool.and_eq_true, ih (j + 1) (by omega)]
  constructor
  ·rintro ⟨h1, h2⟩ i h3 h4
   by_cases e : i = j
   ·rw [e]; exact h1
   ·exact h2 i (by omega) h4
  ·intro h
   exact ⟨h j (Nat.le_refl _) (by omega), fun i h1 h2 => h i (by omega) h2⟩
theorem okCells_all (rows : List (List S52)) : ∀ d i : Nat, i + d = rows.length → (okCells rows d i = true ↔ ∀ j, i ≤ j → j < rows.length → okRow (rd_L4 rows (j : Int)) (rd_L4 rows (j : Int)).length 0 = true) := by
 intro d
 induction d with
 | zero => intro i hi; simp only [okCells, true_iff]; intro j h1 h2; omega
 | succ d ih =>
  intro i hi
  rw [okCells, Bool.and_eq_true, ih (i + 1) (by omega)]
  constructor
  ·rintro ⟨h1, h2⟩ j h3 h4
   by_cases e : j = i
   ·rw [e]; exact h1
   ·exact h2 j (by omega) h4
  ·intro h
   exact ⟨h i (Nat.le_refl _) (by omega), fun j h1 h2 => h j (by omega) h2⟩
theorem okRows_all (n : Nat) (rows : List (List S52)) : ∀ d i : Nat, i + d = rows.length → (okRows n rows d i = true ↔ ∀ j, i ≤ j → j < rows.length → (rd_L4 rows (j : Int)).length = n) := by
 intro d
 induction d with
 | zero => intro i hi; simp only [okRows, true_iff]; intro j h1 h2; omega
 | succ d ih =>
  intro i hi
  rw [okRows, Bool.and_eq_true, ih (i + 1) (by omega)]
  constructor
  ·rintro ⟨h1, h2⟩ j h3 h4
   by_cases e : j = i
   ·rw [e]; exact yN h1
   ·exact h2 j (by omega) h4
  ·intro h
   exact ⟨yL (h i (Nat.le_refl _) (by omega)), fun j h1 h2 => h j (by omega) h2⟩
theorem rdL_get (l : List (List S52)) (j : Nat) (h : j < l.length) : rd_L4 l (j : Int) = l[j] := by
 unfold rd_L4
 rw [Int.toNat_natCast, List.getD_eq_getElem?_getD, List.getElem?_eq_getElem h]; rfl
theorem rdT_get (r : List S52) (j : Nat) (h : j < r.length) : rd_T52 r (j : Int) = r[j] := by
 unfold rd_T52
 rw [Int.toNat_natCast, List.getD_eq_getElem?_getD, List.getElem?_eq_getElem h]; rfl
theorem valid_iff (l0 : List ByteArray) (l1 : List (List S52)) : validT l0 l1 = 0 ↔ l0.length ≤ 64 ∧ l1.length ≤ 4096 ∧ (∀ n ∈ l0, capB n = true) ∧ l0.Nodup ∧ ∀ r ∈ l1, r.length = l0.length ∧ ∀ c ∈ r, (c.f0 = false → c.f1 = 0) := by
 rw [validT_zero, good_iff, capsl_iff l0 l0.length 0 (by omega), okRows_all _ _ _ 0 (by omega), okCells_all _ _ 0 (by omega)]
 constructor
 ·rintro ⟨h1, h2, h3, ⟨h4, h5⟩, h6⟩
  refine ⟨h2, h3, fun n hn => ?_, h4, fun r hr => ?_⟩
  ·obtain ⟨j, hj, rfl⟩ := List.getElem_of_mem hn
   have := h5 j (Nat.zero_le _) hj
   rw [nth_get l0 j hj] at this; exact this
  ·obtain ⟨j, hj, rfl⟩ := List.getElem_of_mem hr
   have a := h1 j (Nat.zero_le _) hj
   have b := h6 j (Nat.zero_le _) hj
   rw [rdL_get l1 j hj] at a b
   refine ⟨a, fun c hc => ?_⟩
   obtain ⟨i, hi, rfl⟩ := List.getElem_of_mem hc
   have := (okRow_all _ _ 0 (by omega)).1 b i (Nat.zero_le _) hi
   rw [rdT_get _ i hi] at this
   exact (okC_iff _).1 this
 ·rintro ⟨h2, h3, h5, h4, h6⟩
  refine ⟨fun j _ hj => ?_, h2, h3, ⟨h4, fun j _ hj => ?_⟩, fun j _ hj => ?_⟩
  ·rw [rdL_get l1 j hj]; exact (h6 _ (List.getElem_mem hj)).1
  ·rw [nth_get l0 j hj]; exact h5 _ (List.getElem_mem hj)
  ·rw [rdL_get l1 j hj]
   refine (okRow_all _ _ 0 (by omega)).2 (fun i _ hi => ?_)
   rw [rdT_get _ i hi]
   exact (okC_iff _).2 ((h6 _ (List.getElem_mem hj)).2 _ (List.getElem_mem hi))
def pN : List ByteArray := [⟨#[82, 65, 84, 69]⟩, ⟨#[83, 95, 49]⟩]
def pR : List (List S52) := [[⟨true, 5⟩, ⟨true, -7⟩], [⟨false, 0⟩, ⟨true, 0⟩], [⟨false, 0⟩, ⟨false, 0⟩]]
def pT : ByteArray := ⟨#[100, 97, 121, 32, 82, 65, 84, 69, 32, 83, 95, 49, 10, 48, 32, 53, 32, 45, 55, 10, 49, 32, 45, 32, 48, 10, 50, 32, 45, 32, 45, 10]⟩
theorem pR_all {P : S52 → Prop} (h : P ⟨true, 5⟩ ∧ P ⟨true, -7⟩ ∧ P ⟨false, 0⟩ ∧ P ⟨true, 0⟩) : ∀ r ∈ pR, r.length = 2 ∧ ∀ c ∈ r, P c := by
 obtain ⟨h1, h2, h3, h4⟩ := h
 intro r hr
 simp only [pR, List.mem_cons, List.not_mem_nil, or_false] at hr
 rcases hr with rfl | rfl | rfl <;> refine ⟨rfl, fun c hc => ?_⟩ <;> simp only [List.mem_cons, List.not_mem_nil, or_false] at hc <;> rcases hc with rfl | rfl <;> assumption
theorem valid_p : validT pN pR = 0 := by
 rw [valid_iff]
 refine ⟨by decide, by decide, by decide +kernel, by decide +kernel, pR_all ⟨?_, ?_, ?_, ?_⟩⟩ <;> decide
theorem small_p : SmallT pN pR := by
 refine ⟨by decide, by decide, by decide, fun r hr => ?_⟩
 have := pR_all (P := fun c => -9223372036854775808 ≤ c.f1 ∧ c.f1 ≤ 9223372036854775807) ⟨by decide, by decide, by decide, by decide⟩ r hr
 exact ⟨by omega, this.2⟩
theorem prt_p : prt pN pR = pT.data.toList := by kernel_rfl
theorem print_p : table_Print.f pN pR = some (pT, 0) := by
 unfold table_Print.f printT
 rw [if_pos small_p, if_pos valid_p, prt_p, if_neg (by decide)]
theorem same_p : payofflaw05_same.f 99 pN pR pN pR = some true := by kernel_rfl
theorem validf_p : table_Valid.f 99 pN pR = some 0 := by kernel_rfl
theorem parse_p' : ok_Parse.f 99 pT = some (pN, pR, 0, 0) := by kernel_rfl
theorem own_p : payofflaw05_ownR.f pN pR = some (pN, pR) := by unfold payofflaw05_ownR.f; rw [if_pos small_p]
theorem back_p : payofflaw05_back.f 100 pN pR = some true := by
 unfold payofflaw05_back.f
 rw [own_p, Option.bind_some, print_p, Option.bind_some, if_pos rfl, if_neg (show ¬ pT.toList = [] from fun h => by rw [ByteArray.toList_eq] at h; exact absurd h (by decide)), payofflaw05_back.j0, if_neg (by decide), parse_p', Option.bind_some, if_pos rfl, if_pos rfl, same_p, Option.bind_some, if_pos rfl, validf_p, Option.bind_some, if_pos rfl, print_p, Option.bind_some, if_pos rfl]
 rw [beq_self_eq_true]
end Go.Proofs.YtppojbafagneeaaDoor.Pure
