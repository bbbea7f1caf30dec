/- Own text, for this claim: what Valid and Print answer, as functions; own's table as it is read; num.Text at no places: in the printed callers' form. -/
import Derived.Test.YtppojbafagneeaaDoorZParCap
import Derived.Test.YtppojbafagneeaaDoorZTabPrint
import Derived.Test.YtppojbafagneeaaDoorZParGl
import Derived.Test.YtppojbafagneeaaDoorZQTabo
namespace Go.Proofs.YtppojbafagneeaaDoor.Pure
open Go.RowKit Go.Maps Go.ChangeShapes Go.WideShapes Go.Proofs.YtppojbafagneeaaDoor.PTab Go.Proofs.YtppojbafagneeaaDoorW.PrintWords Go.Proofs.YtppojbafagneeaaDoorW.PrintLast Go.Proofs.YtppojbafagneeaaDoorW.PrintMore
set_option linter.unusedVariables false
set_option linter.unusedSimpArgs false
theorem names_len_le (l : List ByteArray) (h : ∀ n ∈ l, n.size ≤ 31) : (namesL l).length ≤ 32 * l.length := by
 induction l with
 | nil => exact Nat.le_refl _
 | cons n t ih =>
  have h1 := ih (fun x hx => h x (List.mem_cons_of_mem _ hx))
  have h2 := h n List.mem_cons_self
  have h3 := data_len n
  simp only [namesL, List.length_append, List.length_cons]
  omega
theorem cells_len_le (r : List S52) (h : ∀ c ∈ r, -9223372036854775808 ≤ c.f1 ∧ c.f1 ≤ 9223372036854775807) : (cellsL r).length ≤ 22 * r.length := by
 induction r with
 | nil => exact Nat.le_refl _
 | cons c t ih =>
  have h1 := ih (fun x hx => h x (List.mem_cons_of_mem _ hx))
  have h2 := h c List.mem_cons_self
  have h3 := data_len (wordB c)
  have h4 : (wordB c).size ≤ 21 := by
   unfold wordB
   split
   ·exact dec_size c.f1 h2.1 h2.2
   ·decide
  simp only [cellsL, List.length_append, List.length_cons]
  omega
theorem rows_len_le (l : List (List S52)) (hr : ∀ r ∈ l, r.length ≤ 64) (h : ∀ r ∈ l, ∀ c ∈ r, -9223372036854775808 ≤ c.f1 ∧ c.f1 ≤ 9223372036854775807) : ∀ d : Nat, d + l.length ≤ 1000000 → (rowsL l d).length ≤ 1430 * l.length := by
 induction l with
 | nil => intro d _; exact Nat.le_refl _
 | cons r t ih =>
  intro d hd
  simp only [List.length_cons] at hd
  have h1 := ih (fun x hx => hr x (List.mem_cons_of_mem _ hx)) (fun x hx => h x (List.mem_cons_of_mem _ hx)) (d + 1) (by omega)
  have h2 := cells_len_le r (h r List.mem_cons_self)
  have h3 := hr r List.mem_cons_self
  have h4 := data_len (dec (d : Int))
  have h5 := dec_size (d : Int) (by omega) (by omega)
  simp only [rowsL, List.length_append, List.length_cons]
  omega
theorem ok_rows {n : Nat} {l1 : List (List S52)} : ∀ d i : Nat, i + d = l1.length → okRows n l1 d i = true → ∀ j, i ≤ j → j < l1.length → (rd_L4 l1 (j : Int)).length = n := by
 intro d
 induction d with
 | zero => intro i hi _ j h1 h2; omega
 | succ d ih =>
  intro i hi h j h1 h2
  rw [okRows, Bool.and_eq_true] at h
  by_cases e : j = i
  ·subst e; exact yN h.1
  ·exact ih (i + 1) (by omega) h.2 j (by omega) h2
theorem cap_small {s : ByteArray} (h : capB s = true) : s.size ≤ 31 := by
 unfold capB at h
 simp only [Bool.and_eq_true, decide_eq_true_eq] at h
 exact h.1.1.2
theorem own_ev (n0 n1 : Bool) (l0 : List ByteArray) (l1 : List (List S52)) (hn1 : n1 = true → l1 = []) (hl0 : l0.length ≤ 8796093022204) (hl1 : l1.length < 5864062014804) (hB : ∀ r ∈ l1, r.length ≤ 8796093022204) :
  Ev (fun k => payofflaw05_own.f k n0 n1 l0 l1) (withN n0 l0, l1.map withC) := by
 have h0 : payofflaw05_ownNames.f n0 l0 = some (withN n0 l0) := by
  unfold payofflaw05_ownNames.f withN
  cases n0 with
  | true => rfl
  | false =>
   rw [if_neg (by decide), if_pos (by omega)]
   show (if ([] ++ ([] : List ByteArray)).length + l0.length < _ then _ else _) = _
   rw [if_pos (by simp; omega)]
   show (if ([] ++ l0).length + 2 < _ then some (([] ++ l0) ++ _) else none) = _
   rw [List.nil_append, if_pos (by omega)]
   rfl
 unfold payofflaw05_own.f
 refine Ev.call h0 ?_
 by_cases h1 : n1 = true
 ·rw [hn1 h1]
  exact Ev.pos h1 (Ev.ret rfl)
 refine Ev.neg h1 (Ev.pos hl1 ?_)
 have key : ∀ d i : Nat, i + d = l1.length → Ev (fun k => payofflaw05_own.l0 k (i : Int) l0 l1 (withN n0 l0) ((l1.take i).map withC)) (withN n0 l0, l1.map withC) := by
  intro d
  induction d with
  | zero =>
   intro i hi
   obtain rfl : i = l1.length := by omega
   rw [List.take_length]
   exact Ev.step (fun k => payofflaw05_own.l0.eq_2 ..) (Ev.neg (by omega) (Ev.ret rfl))
  | succ d ih =>
   intro i hi
   have hlt : i < l1.length := by omega
   have hrl : (rd_L4 l1 (i : Int)).length ≤ 8796093022204 := by
    unfold rd_L4
    rw [Int.toNat_natCast, List.getD_eq_getElem?_getD, List.getElem?_eq_getElem hlt]
    exact hB _ (List.getElem_mem hlt)
   refine Ev.step (fun k => payofflaw05_own.l0.eq_2 ..) (Ev.pos (by omega) (Ev.pos (by omega) (Ev.pos (by omega) (Ev.call rfl (Ev.pos ?_ (Ev.call rfl (Ev.call rfl (Ev.pos ?_ (Ev.pos ?_ ?_)))))))))
   ·simp; omega
   ·simp; omega
   ·rw [List.length_map, List.length_take]; omega
   ·rw [w64n i (by omega)]
    have e : (l1.take i).map withC ++ [(List.replicate 0 z52 ++ rd_L4 l1 (i : Int)) ++ [(⟨true, -77177⟩ : S52), (⟨true, -77177⟩ : S52)]] = (l1.take (i + 1)).map withC := by
     rw [List.take_add_one, List.getElem?_eq_getElem hlt, Option.toList_some, List.map_append]
     unfold rd_L4
     rw [Int.toNat_natCast, List.getD_eq_getElem?_getD, List.getElem?_eq_getElem hlt]
     rfl
    rw [e]
    exact ih (i + 1) (by omega)
 exact key l1.length 0 (by omega)
theorem nil_of {α : Type} {d : Kd α} {w : World} {A : Option Addr} {l : List α} (h : d.C w A l.length l) (hn : A.isNone = true) : l = [] := by
 apply List.length_eq_zero_iff.1
 apply Classical.byContradiction
 intro hl
 obtain ⟨ad, e, -⟩ := h.2.2 (by omega)
 rw [e] at hn
 cases hn
open Classical in
noncomputable def validT (l0 : List ByteArray) (l1 : List (List S52)) : Int :=
 if okRows l0.length l1 l1.length 0 = false then 3 else if 64 < l0.length ∨ 4096 < l1.length then 6 else if ¬ Good l0 0 then 52 else if okCells l1 l1.length 0 = false then 51 else 0
def SmallT (l0 : List ByteArray) (l1 : List (List S52)) : Prop := l0.length ≤ 8796093022204 ∧ (∀ n ∈ l0, n.size ≤ 140737488351232) ∧ l1.length < 5864062014804 ∧ (∀ r ∈ l1, r.length ≤ 8796093022204 ∧ ∀ c ∈ r, -9223372036854775808 ≤ c.f1 ∧ c.f1 ≤ 9223372036854775807)
theorem validT_ev (l0 : List ByteArray) (l1 : List (List S52)) (h : SmallT l0 l1) : Ev (fun k => table_Valid.f k l0 l1) (validT l0 l1) := by
 obtain ⟨hl0, hs, hl, hB⟩ := h
 have hB' : ∀ r ∈ l1, r.length ≤ 9223372036854775806 := fun r hr => by have := (hB r hr).1; omega
 have hcol : table_columns.f l0 = some (Maps.size (colD l0 0 (.map [])) : Int) := by unfold table_columns.f; rw [if_pos ⟨by omega, hs⟩]
 obtain ⟨-, -, hle, hiff⟩ := colD_facts l0
 unfold validT
 cases h1 : okRows l0.length l1 l1.length 0 with
 | false => rw [if_pos rfl]; exact pv_l0 l0 l1 (by omega) 3 l1.length 0 (by omega) (fun h => by rw [h1] at h; cases h) (fun _ => rfl)
 | true =>
  rw [if_neg (by decide)]
  have both : ∀ r : Int, Ev (fun k => if (l0.length : Int) > 64 then table_Valid.j1 k true l0 l1 else table_Valid.j1 k (decide ((l1.length : Int) > 4096)) l0 l1) r → Ev (fun k => table_Valid.f k l0 l1) r :=
   fun r a => pv_l0 l0 l1 (by omega) r l1.length 0 (by omega) (fun _ => a) (fun h => by rw [h1] at h; cases h)
  by_cases h2 : (l0.length : Int) > 64
  ·rw [if_pos (Or.inl (by omega))]
   exact both 6 (Ev.pos h2 (Ev.step (fun k => table_Valid.j1.eq_2 ..) (Ev.pos rfl (Ev.ret rfl))))
  by_cases h3 : (l1.length : Int) > 4096
  ·rw [if_pos (Or.inr (by omega))]
   exact both 6 (Ev.neg h2 (by rw [yL h3]; exact Ev.step (fun k => table_Valid.j1.eq_2 ..) (Ev.pos rfl (Ev.ret rfl))))
  rw [if_neg (by omega)]
  have go : ∀ r : Int, (Good l0 0 → okCells l1 l1.length 0 = true → r = 0) → (Good l0 0 → okCells l1 l1.length 0 = false → r = 51) → (¬ Good l0 0 → r = 52) → Ev (fun k => table_Valid.f k l0 l1) r := by
   intro r g1 g2 g3
   refine both r (Ev.neg h2 ?_)
   rw [yM h3]
   refine Ev.step (fun k => table_Valid.j1.eq_2 ..) (Ev.neg (by decide) (Ev.call hcol ?_))
   by_cases hn : l0.Nodup
   ·refine Ev.pos (by rw [hiff.2 hn]) (Ev.bind (caps_ev l0 (by omega)) ?_)
    cases hc : capsl l0 l0.length 0 with
    | false =>
     rw [g3 (fun h => by have := ((good_iff l0).1 h).2; rw [hc] at this; cases this)]
     exact Ev.step (fun k => table_Valid.j2.eq_2 ..) (Ev.pos rfl (Ev.ret rfl))
    | true =>
     have hg : Good l0 0 := (good_iff l0).2 ⟨hn, hc⟩
     exact Ev.step (fun k => table_Valid.j2.eq_2 ..) (Ev.neg (by decide) (pv_l1 l1 (by omega) hB' r l1.length 0 (by omega) (g1 hg) (g2 hg)))
   ·rw [g3 (fun h => hn ((good_iff l0).1 h).1)]
    exact Ev.neg (fun e => hn (hiff.1 (by omega))) (Ev.step (fun k => table_Valid.j2.eq_2 ..) (Ev.pos rfl (Ev.ret rfl)))
  by_cases hg : Good l0 0
  ·rw [if_neg (fun h => h hg)]
   cases hc : okCells l1 l1.length 0 with
   | true => rw [if_neg (by decide)]; exact go 0 (fun _ _ => rfl) (fun _ h => by rw [hc] at h; cases h) (fun h => absurd hg h)
   | false => rw [if_pos rfl]; exact go 51 (fun _ h => by rw [hc] at h; cases h) (fun _ _ => rfl) (fun h => absurd hg h)
  ·rw [if_pos hg]; exact go 52 (fun h => absurd h hg) (fun h => absurd h hg) (fun _ => rfl)
theorem validT_zero (l0 : List ByteArray) (l1 : List (List S52)) : validT l0 l1 = 0 ↔ (okRows l0.length l1 l1.length 0 = true ∧ l0.length ≤ 64 ∧ l1.length ≤ 4096 ∧ Good l0 0 ∧ okCells l1 l1.length 0 = true) := by
 unfold validT
 cases h1 : okRows l0.length l1 l1.length 0 with
 | false => simp
 | true =>
  rw [if_neg (by decide)]
  by_cases h2 : 64 < l0.length ∨ 4096 < l1.length
  ·rw [if_pos h2]; constructor
   ·intro h; exact absurd h (by decide)
   ·intro h; omega
  rw [if_neg h2]
  by_cases hg : Good l0 0
  ·rw [if_neg (fun h => h hg)]
   cases hc : okCells l1 l1.length 0 with
   | true => rw [if_neg (by decide)]; exact ⟨fun _ => ⟨rfl, by omega, by omega, hg, rfl⟩, fun _ => rfl⟩
   | false => rw [if_pos rfl]; exact ⟨fun h => absurd h (by decide), fun h => by cases h.2.2.2.2⟩
  ·rw [if_pos hg]; exact ⟨fun h => absurd h (by decide), fun h => absurd h.2.2.2.1 hg⟩
theorem valid_lens {l0 : List ByteArray} {l1 : List (List S52)} (h : validT l0 l1 = 0) : l0.length ≤ 64 ∧ l1.length ≤ 4096 ∧ (∀ n ∈ l0, n.size ≤ 31) ∧ (∀ r ∈ l1, r.length = l0.length) := by
 obtain ⟨k1, k2, k3, k4, -⟩ := (validT_zero l0 l1).1 h
 refine ⟨k2, k3, fun n hn => ?_, fun r hr => ?_⟩
 ·obtain ⟨j, hj, rfl⟩ := List.getElem_of_mem hn
  have := cap_small (k4 j (Nat.zero_le _) hj).1
  rw [nth_get l0 j hj] at this; exact this
 ·obtain ⟨j, hj, rfl⟩ := List.getElem_of_mem hr
  have := ok_rows l1.length 0 (by omega) k1 j (Nat.zero_le _) hj
  unfold rd_L4 at this
  rw [Int.toNat_natCast, List.getD_eq_getElem?_getD, List.getElem?_eq_getElem hj] at this
  exact this
theorem prt_len (l0 : List ByteArray) (l1 : List (List S52)) (h0 : l0.length ≤ 64) (h1 : l1.length ≤ 4096) (hn : ∀ n ∈ l0, n.size ≤ 31) (hr : ∀ r ∈ l1, r.length ≤ 64) (hc : ∀ r ∈ l1, ∀ c ∈ r, -9223372036854775808 ≤ c.f1 ∧ c.f1 ≤ 9223372036854775807) : (prt l0 l1).length ≤ 32 * 64 + 4 + 1430 * l1.length := by
 have a := names_len_le l0 hn
 have b := rows_len_le l1 hr hc 0 (by omega)
 unfold prt
 simp only [List.length_append, List.length_cons, List.length_nil]
 omega
noncomputable def printT (l0 : List ByteArray) (l1 : List (List S52)) : ByteArray × Int :=
 if validT l0 l1 = 0 then (if 1048576 < (prt l0 l1).length then (⟨#[]⟩, 6) else (⟨(prt l0 l1).toArray⟩, 0)) else (⟨#[]⟩, validT l0 l1)
theorem printT_is (l0 : List ByteArray) (l1 : List (List S52)) (h : SmallT l0 l1) : ∃ k, PrintIs k l0 l1 (printT l0 l1).1 (printT l0 l1).2 := by
 obtain ⟨k, hk⟩ := (validT_ev l0 l1 h).rounds
 refine ⟨k, ⟨validT l0 l1, hk, fun hv => ?_, fun hv => ?_⟩⟩
 ·unfold printT; rw [if_neg hv]; exact ⟨rfl, rfl⟩
 ·obtain ⟨a0, a1, a2, a3⟩ := valid_lens hv
  have hcc : ∀ r ∈ l1, ∀ c ∈ r, -9223372036854775808 ≤ c.f1 ∧ c.f1 ≤ 9223372036854775807 := fun r hr => (h.2.2.2 r hr).2
  have hp := prt_len l0 l1 a0 a1 a2 (fun r hr => by rw [a3 r hr]; exact a0) hcc
  refine ⟨by omega, a1, hcc, fun hb => ?_, fun hb => ?_⟩
  ·unfold printT; rw [if_pos hv, if_pos hb]; exact ⟨rfl, rfl⟩
  ·unfold printT; rw [if_pos hv, if_neg hb]; exact ⟨rfl, rfl⟩
end Go.Proofs.YtppojbafagneeaaDoor.Pure
namespace Go.Proofs.YtppojbafagneeaaDoor.PTab
open Go.RowKit Go.Proofs.YtppojbafagneeaaDoor.Pure Go.Proofs.YtppojbafagneeaaDoorW.PrintWords Go.Proofs.YtppojbafagneeaaDoorW.PrintLast Go.Proofs.YtppojbafagneeaaDoorW.PrintMore
set_option linter.unusedVariables false
set_option linter.unusedSimpArgs false
open Classical in
noncomputable def table_Print.f (l0 : List ByteArray) (l1 : List (List S52)) : Option (ByteArray × Int) := if SmallT l0 l1 then some (printT l0 l1) else none
theorem table_Print.calls (A0_0 : Option Addr) (c0_0 : Nat) (l0_0 : List ByteArray) (A0_1 : Option Addr) (c0_1 : Nat) (l0_1 : List (List (S52))) (r1 : ByteArray) (r2 : Int) (w : World) (hr0_0 : Kd.C Kd.string w A0_0 l0_0.length l0_0) (hc0_0 : l0_0.length ≤ c0_0) (hr0_1 : Kd.C (Kd.slice 52 k52) w A0_1 l0_1.length l0_1) (hc0_1 : l0_1.length ≤ c0_1) (h : table_Print.f l0_0 l0_1 = some (r1, r2)) (hG : GP w) :
  Calls Tryd.prog 23 #[.agg #[.slice A0_0 l0_0.length c0_0, .slice A0_1 l0_1.length c0_1]] w fun e w' => e = .returned (.tuple #[.string r1, .int .i64 r2]) ∧ Below w.heap.size w w' := by
 unfold table_Print.f at h
 split at h
 ·rename_i hs
  obtain ⟨k, hk⟩ := printT_is l0_0 l0_1 hs
  rw [Option.some.inj h] at hk
  exact print_any k A0_0 c0_0 l0_0 A0_1 c0_1 l0_1 r1 r2 w hr0_0 hc0_0 hr0_1 hc0_1 hk hG
 ·cases h
def Rd {α : Type} (d : Kd α) (w : World) (v : Value) (xs : List α) : Prop := ∃ A c, v = .slice A xs.length c ∧ xs.length ≤ c ∧ d.C w A xs.length xs
theorem Rd_slice {α : Type} {d : Kd α} {w : World} {v : Value} {xs : List α} (h : Rd d w v xs) : ∃ A c, v = .slice A xs.length c := by
 obtain ⟨A, c, e, -, -⟩ := h; exact ⟨A, c, e⟩
theorem Rd_reads {α : Type} {d : Kd α} {w : World} {A : Option Addr} {n c : Nat} {xs : List α} (h : Rd d w (.slice A n c) xs) : n = xs.length ∧ n ≤ c ∧ d.C w A xs.length xs := by
 obtain ⟨A', c', e, h1, h2⟩ := h
 injection e with e1 e2 e3
 subst e1 e2 e3
 exact ⟨rfl, h1, h2⟩
theorem Rd_below {α : Type} {d : Kd α} {w w1 : World} {v : Value} {xs : List α} (h : Rd d w v xs) (hb : Below w.heap.size w w1) : Rd d w1 v xs := by
 obtain ⟨A, c, e, h1, h2⟩ := h
 exact ⟨A, c, e, h1, Kd.C_below h2 hb⟩
theorem Rd_alloc {α : Type} {d : Kd α} {w : World} {v : Value} {xs : List α} (h : Rd d w v xs) (o : Obj) : Rd d (w.alloc o) v xs := Rd_below h (yE (Below.refl _ _) o)
theorem Rd_drew {α : Type} {d : Kd α} {w : World} {v : Value} {xs : List α} (h : Rd d w v xs) : Rd d w.drew v xs := Rd_below h (below_drew (Below.refl _ _))
theorem Rd_drewN {α : Type} {d : Kd α} {w : World} {v : Value} {xs : List α} (h : Rd d w v xs) (m : Nat) : Rd d (w.drewN m) v xs := Rd_below h (yF (Below.refl _ _) m)
open Classical in
noncomputable def payofflaw05_ownR.f (l0 : List ByteArray) (l1 : List (List S52)) : Option (List ByteArray × List (List S52)) := if SmallT l0 l1 then some (l0, l1) else none
theorem payofflaw05_ownR.calls (A0_0 : Option Addr) (c0_0 : Nat) (l0_0 : List ByteArray) (A0_1 : Option Addr) (c0_1 : Nat) (l0_1 : List (List (S52))) (r1 : List ByteArray) (r2 : List (List (S52))) (w : World) (hr0_0 : Kd.C Kd.string w A0_0 l0_0.length l0_0) (hc0_0 : l0_0.length ≤ c0_0) (hr0_1 : Kd.C (Kd.slice 52 k52) w A0_1 l0_1.length l0_1) (hc0_1 : l0_1.length ≤ c0_1) (h : payofflaw05_ownR.f l0_0 l0_1 = some (r1, r2)) (hG : Gl w) :
  Calls Tryd.prog 16 #[.agg #[.slice A0_0 l0_0.length c0_0, .slice A0_1 l0_1.length c0_1]] w fun e w' => ∃ v0_ v1_ : Value, e = .returned (.agg #[v0_, v1_]) ∧ Rd Kd.string w' v0_ r1 ∧ Rd (Kd.slice 52 k52) w' v1_ r2 ∧ Below w.heap.size w w' := by
 unfold payofflaw05_ownR.f at h
 split at h
 ·rename_i hs
  obtain ⟨rfl, rfl⟩ := Prod.mk.inj (Option.some.inj h)
  have hn0 : A0_0.isNone = true → l0_0 = [] := nil_of hr0_0
  have hn1 : A0_1.isNone = true → l0_1 = [] := nil_of hr0_1
  obtain ⟨k, hk⟩ := (own_ev A0_0.isNone A0_1.isNone l0_0 l0_1 hn1 hs.1 hs.2.2.1 (fun r hr => (hs.2.2.2 r hr).1)).rounds
  refine (payofflaw05_own.calls k A0_0 c0_0 l0_0 A0_1 c0_1 l0_1 _ _ w hr0_0 hc0_0 hr0_1 hc0_1 hk hG).mono ?_
  rintro e w' ⟨A, c, v1, rfl, ho0, ho1, hb⟩
  refine ⟨_, _, rfl, ?_, ?_, hb⟩
  ·obtain ⟨-, h2, h3⟩ := Kd.R_reads' ho0
   have hl : (withN A0_0.isNone l0_0).length - 2 = l0_0.length ∧ (withN A0_0.isNone l0_0).take l0_0.length = l0_0 := by
    cases hnn : A0_0.isNone with
    | true => rw [hn0 hnn]; exact ⟨rfl, rfl⟩
    | false => simp [withN]
   have hle : l0_0.length ≤ (withN A0_0.isNone l0_0).length := by omega
   have hT := C_take h3 (m := l0_0.length) hle
   rw [hl.2] at hT
   exact ⟨A, c, by rw [hl.1], by omega, hT⟩
  ·obtain ⟨A1, c1, rfl, h2, h3⟩ := Kd.S_reads ho1
   have hS := cut2_read h3
   rw [short_with, List.length_map] at hS
   rw [List.length_map] at h2 ⊢
   exact ⟨A1, c1, rfl, h2, hS⟩
 ·cases h
end Go.Proofs.YtppojbafagneeaaDoor.PTab
