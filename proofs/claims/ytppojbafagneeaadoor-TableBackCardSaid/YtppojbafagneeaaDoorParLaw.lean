/- Own text: a table printed, read back, and printed once more is the same: what the laws' helpers answer. -/
import Derived.Test.YtppojbafagneeaaDoorParBack
import Derived.Test.YtppojbafagneeaaDoorQBack
namespace Go.Proofs.YtppojbafagneeaaDoor.Pure
open Go.RowKit Go.Maps Go.ChangeShapes Go.WideShapes Go.Proofs.YtppojbafagneeaaDoor.PTab Go.Proofs.YtppojbafagneeaaDoorW.PrintWords Go.Proofs.YtppojbafagneeaaDoorW.PrintLast Go.Proofs.YtppojbafagneeaaDoorW.PrintMore
set_option linter.unusedVariables false
set_option linter.unusedSimpArgs false
/-! the laws' own functions -/
theorem sameNames_ev (l : List ByteArray) (hl : l.length ≤ 9223372036854775806) : Ev (fun k => payofflaw05_sameNames.f k l l) true := by
  unfold payofflaw05_sameNames.f
  refine Ev.pos rfl ?_
  have key : ∀ d i : Nat, i + d = l.length → Ev (fun k => payofflaw05_sameNames.l0 k l l (i : Int)) true := by
    intro d
    induction d with
    | zero => intro i hi; exact Ev.step (fun k => payofflaw05_sameNames.l0.eq_2 ..) (Ev.neg (by omega) (Ev.ret rfl))
    | succ d ih =>
      intro i hi
      refine Ev.step (fun k => payofflaw05_sameNames.l0.eq_2 ..) (Ev.pos (by omega) (Ev.pos (by omega) (Ev.pos (by omega) (Ev.pos rfl ?_))))
      rw [w64n i (by omega)]
      exact ih (i + 1) (by omega)
  exact key l.length 0 (by omega)
theorem sameRow_ev (l : List S52) (hl : l.length ≤ 9223372036854775806) : Ev (fun k => payofflaw05_sameRow.f k l l) true := by
  unfold payofflaw05_sameRow.f
  refine Ev.pos rfl ?_
  have key : ∀ d i : Nat, i + d = l.length → Ev (fun k => payofflaw05_sameRow.l0 k l l (i : Int)) true := by
    intro d
    induction d with
    | zero => intro i hi; exact Ev.step (fun k => payofflaw05_sameRow.l0.eq_2 ..) (Ev.neg (by omega) (Ev.ret rfl))
    | succ d ih =>
      intro i hi
      refine Ev.step (fun k => payofflaw05_sameRow.l0.eq_2 ..) (Ev.pos (by omega) (Ev.pos (by omega) (Ev.pos (by omega) (Ev.neg (by simp) ?_))))
      rw [w64n i (by omega)]
      exact ih (i + 1) (by omega)
  exact key l.length 0 (by omega)
theorem sameRows_ev (l : List (List S52)) (hl : l.length ≤ 9223372036854775806) (hr : ∀ r ∈ l, r.length ≤ 9223372036854775806) : Ev (fun k => payofflaw05_sameRows.f k l l) true := by
  unfold payofflaw05_sameRows.f
  refine Ev.pos rfl ?_
  have key : ∀ d i : Nat, i + d = l.length → Ev (fun k => payofflaw05_sameRows.l0 k l l (i : Int)) true := by
    intro d
    induction d with
    | zero => intro i hi; exact Ev.step (fun k => payofflaw05_sameRows.l0.eq_2 ..) (Ev.neg (by omega) (Ev.ret rfl))
    | succ d ih =>
      intro i hi
      have hb := sameRow_ev (rd_L4 l (i : Int)) (by rw [rdL_get l i (by omega)]; exact hr _ (List.getElem_mem _))
      refine Ev.step (fun k => payofflaw05_sameRows.l0.eq_2 ..) (Ev.pos (by omega) (Ev.pos (by omega) (Ev.pos (by omega) (Ev.bind hb (Ev.pos rfl ?_)))))
      rw [w64n i (by omega)]
      exact ih (i + 1) (by omega)
  exact key l.length 0 (by omega)
theorem same_ev (l0 : List ByteArray) (l1 : List (List S52)) (h0 : l0.length ≤ 9223372036854775806) (h1 : l1.length ≤ 9223372036854775806) (hr : ∀ r ∈ l1, r.length ≤ 9223372036854775806) : Ev (fun k => payofflaw05_same.f k l0 l1 l0 l1) true := by
  unfold payofflaw05_same.f
  exact Ev.bind (sameNames_ev l0 h0) (Ev.pos rfl (Ev.bind (sameRows_ev l1 h1 hr) (Ev.ret rfl)))
def In64C (l1 : List (List S52)) : Prop := ∀ r ∈ l1, ∀ c ∈ r, -9223372036854775808 ≤ c.f1 ∧ c.f1 ≤ 9223372036854775807
theorem small_of_valid {l0 : List ByteArray} {l1 : List (List S52)} (hv : validT l0 l1 = 0) (hc : In64C l1) : SmallT l0 l1 := by
  obtain ⟨a0, a1, a2, a3⟩ := valid_lens hv
  exact ⟨by omega, fun n hn => by have := a2 n hn; omega, by omega, fun r hr => ⟨by rw [a3 r hr]; omega, hc r hr⟩⟩
theorem print_ok {l0 : List ByteArray} {l1 : List (List S52)} (hv : validT l0 l1 = 0) (hl : ¬ 1048576 < (prt l0 l1).length) : printT l0 l1 = (⟨(prt l0 l1).toArray⟩, 0) := by
  unfold printT; rw [if_pos hv, if_neg hl]
theorem print_long {l0 : List ByteArray} {l1 : List (List S52)} (hv : validT l0 l1 = 0) (hl : 1048576 < (prt l0 l1).length) : printT l0 l1 = (⟨#[]⟩, 6) := by
  unfold printT; rw [if_pos hv, if_pos hl]
theorem print_f {l0 : List ByteArray} {l1 : List (List S52)} (h : SmallT l0 l1) : table_Print.f l0 l1 = some (printT l0 l1) := by
  unfold table_Print.f; rw [if_pos h]
theorem own_f {l0 : List ByteArray} {l1 : List (List S52)} (h : SmallT l0 l1) : payofflaw05_ownR.f l0 l1 = some (l0, l1) := by
  unfold payofflaw05_ownR.f; rw [if_pos h]
theorem prt_ne (l0 : List ByteArray) (l1 : List (List S52)) : prt l0 l1 ≠ [] := by
  unfold prt; simp
theorem back_ev (l0 : List ByteArray) (l1 : List (List S52)) (hv : validT l0 l1 = 0) (hc : In64C l1) (hl : ¬ 1048576 < (prt l0 l1).length) : Ev (fun k => payofflaw05_back.f k l0 l1) true := by
  have hs := small_of_valid hv hc
  obtain ⟨a0, a1, a2, a3⟩ := valid_lens hv
  have hp := print_f hs
  rw [print_ok hv hl] at hp
  have hsz : ((⟨(prt l0 l1).toArray⟩ : ByteArray).size : Int) = ((prt l0 l1).length : Int) := by show ((prt l0 l1).toArray.size : Int) = _; simp
  unfold payofflaw05_back.f
  refine Ev.call (own_f hs) (Ev.call hp (Ev.pos rfl (Ev.neg (fun h => prt_ne l0 l1 ((ba_list _ _).1 h)) ?_)))
  rw [decide_eq_false (by rw [hsz]; omega)]
  have hpe := parse_ev (⟨(prt l0 l1).toArray⟩ : ByteArray)
  rw [show (⟨(prt l0 l1).toArray⟩ : ByteArray).data.toList = prt l0 l1 from rfl, parse_prt l0 l1 hv hc hl] at hpe
  have hve := validT_ev l0 l1 hs
  rw [hv] at hve
  refine Ev.step (fun k => payofflaw05_back.j0.eq_2 ..) (Ev.neg (by decide) (Ev.bind hpe (Ev.pos rfl (Ev.pos rfl (Ev.bind (same_ev l0 l1 (by omega) (by omega) (fun r hr => by rw [a3 r hr]; omega)) (Ev.pos rfl (Ev.bind hve (Ev.pos rfl (Ev.call hp (Ev.pos rfl (Ev.ret (by simp))))))))))))
def plainN : List ByteArray := [(⟨#[82, 65, 84, 69]⟩ : ByteArray), (⟨#[83, 95, 49]⟩ : ByteArray)]
def plainR : List (List S52) := [[⟨true, 5⟩, ⟨true, -7⟩], [⟨false, 0⟩, ⟨true, 0⟩], [⟨false, 0⟩, ⟨false, 0⟩]]
theorem plain_is : payofflaw05_plain.f = some (plainN, plainR) := rfl
theorem plain_small : In64C plainR := by
  unfold In64C plainR
  simp
theorem plain_valid : validT plainN plainR = 0 := by
  rw [valid_iff]
  refine ⟨by decide, by decide, ?_, ?_, ?_⟩
  · intro n hn
    simp only [plainN, List.mem_cons, List.not_mem_nil, or_false] at hn
    rcases hn with rfl | rfl <;> decide +kernel
  · simp only [plainN, List.nodup_cons, List.mem_singleton, List.not_mem_nil, not_false_eq_true, List.nodup_nil, and_true]
    intro h
    exact absurd (congrArg ByteArray.size h) (by decide)
  · intro r hr
    simp only [plainR, List.mem_cons, List.not_mem_nil, or_false] at hr
    rcases hr with rfl | rfl | rfl <;> simp [plainN]
theorem plain_back : Ev (fun k => payofflaw05_back.f k plainN plainR) true := by
  refine back_ev _ _ plain_valid plain_small ?_
  have h := prt_len plainN plainR (by decide) (by decide) (by intro n hn; simp only [plainN, List.mem_cons, List.not_mem_nil, or_false] at hn; rcases hn with rfl | rfl <;> decide) (by intro r hr; simp only [plainR, List.mem_cons, List.not_mem_nil, or_false] at hr; rcases hr with rfl | rfl | rfl <;> decide) plain_small
  have e : plainR.length = 3 := rfl
  omega

end Go.Proofs.YtppojbafagneeaaDoor.Pure
