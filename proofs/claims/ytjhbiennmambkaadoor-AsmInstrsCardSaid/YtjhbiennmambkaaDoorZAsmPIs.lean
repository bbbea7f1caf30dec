/- Own text, for this claim: both PrintInstr: what they answer, by the lists' elements. -/
import Derived.Test.YtjhbiennmambkaaDoorZAsmRIn
namespace Go.Proofs.YtjhbiennmambkaaDoor.Pure
open Go.RowKit Go.Proofs.YtjhbiennmambkaaDoorW.PrintWords Go.Proofs.YtjhbiennmambkaaDoorW.PrintLast Go.Proofs.YtjhbiennmambkaaDoorW.PrintMore Go.Proofs.YtjhbiennmambkaaDoor.PAsmInstrs Go.Proofs.YtjhbiennmambkaaDoor.PAsm
set_option linter.unusedVariables false
set_option linter.unusedSimpArgs false
set_option maxHeartbeats 8000000 in
set_option maxRecDepth 100000 in
theorem rpi_err (A0 A1 A2 A7 : Option Addr) (c0 c1 c2 c7 n7 : Nat) (l0 l1 : List ByteArray) (l2 : List Int) (a3 a4 a5 a6 : Int) (op a b c : Int) (hc : (c != 0) = true) (w : World)
  (hI : ∀ W, Below w.heap.size w W → Calls Tryd.prog 16 #[.agg #[.slice A0 l0.length c0, .slice A1 l1.length c1, .slice A2 l2.length c2, .int .i64 a3, .int .i64 a4, .int .i64 a5, .int .i64 a6, .slice A7 n7 c7], .agg #[.int .i64 op, .int .i64 a, .int .i64 b]] W fun e w' => e = .returned (.tuple #[.slice none 0 0, .int .i64 c]) ∧ Below W.heap.size W w') :
  Calls Tryd.prog 7 #[.agg #[.slice A0 l0.length c0, .slice A1 l1.length c1, .slice A2 l2.length c2, .int .i64 a3, .int .i64 a4, .int .i64 a5, .int .i64 a6, .slice A7 n7 c7], .agg #[.int .i64 op, .int .i64 a, .int .i64 b]] w fun e w' => e = .returned (.tuple #[.string (⟨#[]⟩ : ByteArray), .int .i64 c]) ∧ Below w.heap.size w w' := by
 have hu26 := Tryd.underlying26
 have hu28 := Tryd.underlying28
 have HI := yA hI
 clear hI
 go_enter Tryd.func7, Tryd.ntmps7
 go_wp2_with (first | (go_at_call 16; refine (HI.out _ (((Below.refl _ _).alloc (Nat.le_refl _) _).alloc (by simp) _)).mono ?_; rintro e wj ⟨rfl, hb⟩; have HB := yA (yB (((Below.refl _ _).alloc (Nat.le_refl _) _).alloc (by simp) _) hb); clear hb))
 go_ret2
 exact ⟨rfl, HB.out⟩
set_option maxHeartbeats 8000000 in
set_option maxRecDepth 100000 in
theorem rpi_ok (A0 A1 A2 A7 : Option Addr) (c0 c1 c2 c7 n7 : Nat) (l0 l1 : List ByteArray) (l2 : List Int) (a3 a4 a5 a6 : Int) (op a b : Int) (x : ByteArray) (ws : List ByteArray) (hl : ws.length ≤ 2) (hj : (Lib.join ((x :: ws).map (·.data.toList)) [32]).length < 140737488355328) (w : World)
  (hI : ∀ W, Below w.heap.size w W → Calls Tryd.prog 16 #[.agg #[.slice A0 l0.length c0, .slice A1 l1.length c1, .slice A2 l2.length c2, .int .i64 a3, .int .i64 a4, .int .i64 a5, .int .i64 a6, .slice A7 n7 c7], .agg #[.int .i64 op, .int .i64 a, .int .i64 b]] W fun e w' => ∃ v, e = .returned (.tuple #[v, .int .i64 0]) ∧ Kd.R Kd.string 9 w' W.heap.size (fun _ => True) v (x :: ws) ∧ Below W.heap.size W w') :
  Calls Tryd.prog 7 #[.agg #[.slice A0 l0.length c0, .slice A1 l1.length c1, .slice A2 l2.length c2, .int .i64 a3, .int .i64 a4, .int .i64 a5, .int .i64 a6, .slice A7 n7 c7], .agg #[.int .i64 op, .int .i64 a, .int .i64 b]] w fun e w' => e = .returned (.tuple #[.string (joinW (x :: ws)), .int .i64 0]) ∧ Below w.heap.size w w' := by
 have hu26 := Tryd.underlying26
 have hu28 := Tryd.underlying28
 have HI := yA hI
 obtain ⟨k, hk⟩ := joined_ev x ws (by omega) hj
 have HK := yA (hk k (Nat.le_refl _))
 clear hI hk hl hj
 go_enter Tryd.func7, Tryd.ntmps7
 go_wp2_with (first | (go_at_call 16; refine (HI.out _ (((Below.refl _ _).alloc (Nat.le_refl _) _).alloc (by simp) _)).mono ?_; rintro e wj ⟨v, rfl, hr, hb⟩; have HB := yA (yB (((Below.refl _ _).alloc (Nat.le_refl _) _).alloc (by simp) _) hb); obtain ⟨A9, c9, rfl⟩ := Kd.R_slice hr; have HR := yA hr; clear hb hr) | (go_at_call 17; refine (payoffref13_Joined.calls k A9 c9 (x :: ws) _ _ (Kd.R_reads' HR.out).2.2 (Kd.R_reads' HR.out).2.1 HK.out).mono ?_; rintro e wk ⟨rfl, hb⟩; replace HB := yA (yB HB.out hb); clear hb))
 go_ret2
 exact ⟨rfl, HB.out⟩
def wsOf (l0 l1 : List ByteArray) (l2 : List Int) (op a b : Int) : List ByteArray :=
 if op = 1 then [dec (rd l2 a)] else if op = 3 then [rdOf ByteArray.empty l0 a, dec b] else if op = 28 then [rdOf ByteArray.empty l1 a] else if op = 18 then [modeW a.toNat] else if opn op = 0 then [] else [dec a]
def outB (l0 l1 : List ByteArray) (l2 : List Int) (op a : Int) : Prop := (op = 1 ∧ (l2.length : Int) ≤ a) ∨ (op = 3 ∧ (l0.length : Int) ≤ a) ∨ (op = 28 ∧ (l1.length : Int) ≤ a)
def PiIs (l0 l1 : List ByteArray) (l2 : List Int) (op a b : Int) (s : ByteArray) (e : Int) : Prop :=
 (valid op a b = 111 → s = ⟨#[]⟩ ∧ e = 111) ∧ (valid op a b = 0 → (outB l0 l1 l2 op a → s = ⟨#[]⟩ ∧ e = 2) ∧ (¬ outB l0 l1 l2 op a → s = joinW (nmW op :: wsOf l0 l1 l2 op a b) ∧ e = 0))
theorem valid_two (op a b : Int) : valid op a b = 0 ∨ valid op a b = 111 := by
 unfold valid
 split
 ·exact .inl rfl
 ·exact .inr rfl
theorem pi_is (l0 l1 : List ByteArray) (l2 : List Int) (op a b : Int) : ∃ s e, PiIs l0 l1 l2 op a b s e := by
 rcases valid_two op a b with h | h
 ·by_cases g : outB l0 l1 l2 op a
  ·exact ⟨⟨#[]⟩, 2, fun h2 => absurd (h.symm.trans h2) (by decide), fun _ => ⟨fun _ => ⟨rfl, rfl⟩, fun q => absurd g q⟩⟩
  ·exact ⟨_, 0, fun h2 => absurd (h.symm.trans h2) (by decide), fun _ => ⟨fun q => absurd q g, fun _ => ⟨rfl, rfl⟩⟩⟩
 ·exact ⟨⟨#[]⟩, 111, fun _ => ⟨rfl, rfl⟩, fun h2 => absurd (h2.symm.trans h) (by decide)⟩
theorem valid_facts {op a b : Int} (h : valid op a b = 0) : 0 ≤ op ∧ op < 29 ∧ 0 ≤ a ∧ a ≤ (kat op.toNat).a ∧ 0 ≤ b ∧ b ≤ (kat op.toNat).b := by
 unfold valid at h
 split at h
 ·rename_i g
  have := yN g.2.2
  exact ⟨g.1, g.2.1, this.1, this.2.1, this.2.2.1, this.2.2.2⟩
 ·cases h
theorem name_len : ∀ i : Nat, i < 29 → (kat i).nm.length ≤ 5 := by
 intro i hi
 have : ∀ i : Nat, i < 29 → decide ((kat i).nm.length ≤ 5) = true
  | 0, _ => by decide
  | 1, _ => by decide
  | 2, _ => by decide
  | 3, _ => by decide
  | 4, _ => by decide
  | 5, _ => by decide
  | 6, _ => by decide
  | 7, _ => by decide
  | 8, _ => by decide
  | 9, _ => by decide
  | 10, _ => by decide
  | 11, _ => by decide
  | 12, _ => by decide
  | 13, _ => by decide
  | 14, _ => by decide
  | 15, _ => by decide
  | 16, _ => by decide
  | 17, _ => by decide
  | 18, _ => by decide
  | 19, _ => by decide
  | 20, _ => by decide
  | 21, _ => by decide
  | 22, _ => by decide
  | 23, _ => by decide
  | 24, _ => by decide
  | 25, _ => by decide
  | 26, _ => by decide
  | 27, _ => by decide
  | 28, _ => by decide
  | n + 29, h => by omega
 exact yN (this i hi)
theorem opn_ge : ∀ i : Nat, i < 29 → 0 ≤ (kat i).n := by
 intro i hi
 have : ∀ i : Nat, i < 29 → decide (0 ≤ (kat i).n) = true
  | 0, _ => by decide
  | 1, _ => by decide
  | 2, _ => by decide
  | 3, _ => by decide
  | 4, _ => by decide
  | 5, _ => by decide
  | 6, _ => by decide
  | 7, _ => by decide
  | 8, _ => by decide
  | 9, _ => by decide
  | 10, _ => by decide
  | 11, _ => by decide
  | 12, _ => by decide
  | 13, _ => by decide
  | 14, _ => by decide
  | 15, _ => by decide
  | 16, _ => by decide
  | 17, _ => by decide
  | 18, _ => by decide
  | 19, _ => by decide
  | 20, _ => by decide
  | 21, _ => by decide
  | 22, _ => by decide
  | 23, _ => by decide
  | 24, _ => by decide
  | 25, _ => by decide
  | 26, _ => by decide
  | 27, _ => by decide
  | 28, _ => by decide
  | n + 29, h => by omega
 exact yN (this i hi)
theorem mode_len : ∀ i : Nat, i < 5 → (modeW i).size ≤ 9
 | 0, _ => by decide
 | 1, _ => by decide
 | 2, _ => by decide
 | 3, _ => by decide
 | 4, _ => by decide
 | n + 5, h => by omega
theorem join_len (x : ByteArray) (ws : List ByteArray) : (Lib.join ((x :: ws).map (·.data.toList)) [32]).length = x.size + (ws.map (fun y => y.size + 1)).sum := by
 have hx : x.data.toList.length = x.size := data_length x
 have key : (Lib.joinTail [32] (ws.map (·.data.toList))).length = (ws.map (fun y => y.size + 1)).sum := by
  induction ws with
  | nil => rfl
  | cons y r ih =>
   have htl : Lib.joinTail [32] ((y :: r).map (·.data.toList)) = [32] ++ y.data.toList ++ Lib.joinTail [32] (r.map (·.data.toList)) := by simp [Lib.joinTail]
   rw [htl]
   simp only [List.length_append, List.length_cons, List.length_nil, List.map_cons, List.sum_cons, ih]
   have : y.data.toList.length = y.size := data_length y
   omega
 rw [List.map_cons, Lib.join_cons, List.length_append, hx, key]
theorem rd_mem {l : List Int} {a : Nat} (h : a < l.length) : rd l (a : Int) ∈ l := by
 unfold rd
 rw [Int.toNat_natCast, List.getD_eq_getElem?_getD, List.getElem?_eq_getElem h]
 exact List.getElem_mem h
theorem rdOf_mem {l : List ByteArray} {a : Nat} (h : a < l.length) : rdOf ByteArray.empty l (a : Int) ∈ l := by
 unfold rdOf
 rw [Int.toNat_natCast, List.getD_eq_getElem?_getD, List.getElem?_eq_getElem h]
 exact List.getElem_mem h
structure LB (l0 l1 : List ByteArray) (l2 : List Int) (op a b : Int) : Prop where
 n0 : ∀ x ∈ l0, x.size ≤ 140737488351232
 n1 : ∀ x ∈ l1, x.size ≤ 140737488351232
 n2 : ∀ x ∈ l2, -9223372036854775808 ≤ x ∧ x ≤ 9223372036854775807
 wo : (Lit.int .i64 op).wf = true
 wa : -9223372036854775808 ≤ a ∧ a ≤ 9223372036854775807
 wb : -9223372036854775808 ≤ b ∧ b ≤ 9223372036854775807
 m0 : l0.length ≤ 9223372036854775807
 m1 : l1.length ≤ 9223372036854775807
 m2 : l2.length ≤ 9223372036854775807
theorem ws_len (l0 l1 : List ByteArray) (l2 : List Int) (op a b : Int) : (wsOf l0 l1 l2 op a b).length ≤ 2 := by
 unfold wsOf
 repeat' split
 all_goals simp
theorem ws_join {l0 l1 : List ByteArray} {l2 : List Int} {op a b : Int} (hL : LB l0 l1 l2 op a b) (hv : valid op a b = 0) (ho : ¬ outB l0 l1 l2 op a) : (Lib.join ((nmW op :: wsOf l0 l1 l2 op a b).map (·.data.toList)) [32]).length < 140737488355328 := by
 obtain ⟨v1, v2, v3, v4, v5, v6⟩ := valid_facts hv
 rw [join_len]
 have hnm : (nmW op).size ≤ 5 := name_len op.toNat (by omega)
 obtain ⟨i, rfl⟩ := Int.eq_ofNat_of_zero_le v3
 unfold wsOf
 by_cases h1 : op = 1
 ·have hi : i < l2.length := by
   rcases Nat.lt_or_ge i l2.length with g | g
   ·exact g
   ·exact absurd (.inl ⟨h1, by omega⟩) ho
  have hr := hL.n2 _ (rd_mem hi)
  have := dec_size _ hr.1 hr.2
  rw [if_pos h1]
  simp only [List.map_cons, List.map_nil, List.sum_cons, List.sum_nil]
  omega
 rw [if_neg h1]
 by_cases h3 : op = 3
 ·have hi : i < l0.length := by
   rcases Nat.lt_or_ge i l0.length with g | g
   ·exact g
   ·exact absurd (.inr (.inl ⟨h3, by omega⟩)) ho
  have hr := hL.n0 _ (rdOf_mem hi)
  have := dec_size _ hL.wb.1 hL.wb.2
  rw [if_pos h3]
  simp only [List.map_cons, List.map_nil, List.sum_cons, List.sum_nil]
  omega
 rw [if_neg h3]
 by_cases h28 : op = 28
 ·have hi : i < l1.length := by
   rcases Nat.lt_or_ge i l1.length with g | g
   ·exact g
   ·exact absurd (.inr (.inr ⟨h28, by omega⟩)) ho
  have hr := hL.n1 _ (rdOf_mem hi)
  rw [if_pos h28]
  simp only [List.map_cons, List.map_nil, List.sum_cons, List.sum_nil]
  omega
 rw [if_neg h28]
 by_cases h18 : op = 18
 ·subst h18
  have v4 : (i : Int) ≤ 4 := v4
  have := mode_len i (by omega)
  rw [if_pos rfl, Int.toNat_natCast]
  simp only [List.map_cons, List.map_nil, List.sum_cons, List.sum_nil]
  omega
 rw [if_neg h18]
 by_cases h0 : opn op = 0
 ·rw [if_pos h0]
  simp only [List.map_nil, List.sum_nil]
  omega
 ·rw [if_neg h0]
  have := dec_size _ hL.wa.1 hL.wa.2
  simp only [List.map_cons, List.map_nil, List.sum_cons, List.sum_nil]
  omega
end Go.Proofs.YtjhbiennmambkaaDoor.Pure
