/- Own text, for this claim: LexScans: Scan answers as the reference's does, at each text, whatever was done with what it answered before; no condition but that the listed package variables stand. -/
import Derived.Test.YtkfdninngcakpaaDoorZRefPure4
import Derived.Test.YtkfdninngcakpaaDoorZQLexScans
namespace Go.Proofs.YtkfdninngcakpaaDoor.Pure
open Go.RowKit Go.Proofs.YtkfdninngcakpaaDoor.PLex Go.Proofs.YtkfdninngcakpaaDoorW.PrintWords Go.Proofs.YtkfdninngcakpaaDoorW.PrintLast Go.Proofs.YtkfdninngcakpaaDoorW.PrintMore
set_option linter.unusedVariables false
set_option linter.unusedSimpArgs false
theorem both_ev (x : ByteArray) : ∃ R : List S32 × Int × Int, Ev (fun k => lex_Scan.f k x) R ∧ Ev (fun k => payoffref06_Scan.f k x) R ∧ R.1.length ≤ 65536 := by
 by_cases hx : x.size ≤ 65536
 ·obtain ⟨R, hR⟩ := sc_total x x.size 0 [] (Nat.zero_le _) (by omega)
  exact ⟨R, scan_ev x hx R hR, rscan_ev x hx R hR, Nat.le_trans (sc_len hR (Nat.le_refl _) (Nat.zero_le _)) hx⟩
 ·refine ⟨([], 0, 6), ?_, ?_, Nat.zero_le _⟩
  ·unfold lex_Scan.f; exact Ev.pos (by omega) (Ev.ret rfl)
  ·unfold payoffref06_Scan.f; exact Ev.pos (by omega) (Ev.ret rfl)
theorem rd_app_l {xs ys : List S32} {j : Nat} (h : j < xs.length) : rd_T32 (xs ++ ys) (j : Int) = rd_T32 xs (j : Int) := by
 unfold rd_T32
 rw [Int.toNat_natCast, List.getD_eq_getElem?_getD, List.getD_eq_getElem?_getD, List.getElem?_append_left h]
theorem rd_app_r {xs ys : List S32} {j : Nat} (h : xs.length ≤ j) : rd_T32 (xs ++ ys) (j : Int) = rd_T32 ys ((j - xs.length : Nat) : Int) := by
 unfold rd_T32
 rw [Int.toNat_natCast, Int.toNat_natCast, List.getD_eq_getElem?_getD, List.getD_eq_getElem?_getD, List.getElem?_append_right h]
theorem scans_l2 (x3 x15 x21 m : List S32) (e : Int) (hn : x3.length ≤ 1000000000) (hm : m.length ≤ 100) (h3 : ∀ j : Nat, j < x3.length → (rd_T32 x3 (j : Int)).f0 = 99) (h8 : ∀ j : Nat, j < m.length → (rd_T32 m (j : Int)).f0 = 98)
  (hs : Ev (fun k => payofflaw06_sameTokens.f k x21 x15) true) : ∀ d j : Nat, j + d = (x3 ++ m).length → Ev (fun k => payofflaw06_LexScans.l2 k x3 x15 e (x3 ++ m) x21 e (j : Int)) true := by
 intro d
 induction d with
 | zero =>
  intro j hj
  exact Ev.step (fun k => payofflaw06_LexScans.l2.eq_2 ..) (Ev.neg (by omega) (Ev.pos rfl (Ev.bind hs (Ev.ret rfl))))
 | succ d ih =>
  intro j hj
  have hl : (x3 ++ m).length = x3.length + m.length := List.length_append
  have nxt := ih (j + 1) (by omega)
  rw [← w64s j (by omega)] at nxt
  refine Ev.step (fun k => payofflaw06_LexScans.l2.eq_2 ..) (Ev.pos (by omega) ?_)
  by_cases hj3 : j < x3.length
  ·exact Ev.pos (by omega) (Ev.pos (by omega) (Ev.pos (h3 j hj3) (Ev.pos (by rw [rd_app_l hj3]; exact h3 j hj3) (Ev.neg (by omega) nxt))))
  ·exact Ev.neg (by omega) (Ev.pos (by omega) (Ev.pos (by omega) (Ev.pos (by rw [rd_app_r (by omega)]; exact h8 _ (by omega)) nxt)))
theorem scans_l1 (a0 : ByteArray) (x3 x6 x12 : List S32) (R : List S32 × Int × Int) (hR : Ev (fun k => lex_Scan.f k a0) R) (h1 : R.1.length ≤ 65536) (hn : x3.length ≤ 65536) (h6 : x6.length ≤ 65536) (h3 : ∀ j : Nat, j < x3.length → (rd_T32 x3 (j : Int)).f0 = 99) :
  ∀ d c : Nat, c + d = 70 → ∀ m : List S32, m.length = c → (∀ j : Nat, j < m.length → (rd_T32 m (j : Int)).f0 = 98) → Ev (fun k => payofflaw06_LexScans.l1 k a0 x3 x6 x6 R.1 R.1 R.2.2 (x3 ++ m) (c : Int)) true := by
 intro d
 induction d with
 | zero =>
  intro c hc m hm h8
  refine Ev.step (fun k => payofflaw06_LexScans.l1.eq_2 ..) (Ev.neg (by omega) (Ev.bind (sameT R.1 (by omega)) (Ev.pos rfl (Ev.bind (sameT x6 (by omega)) ?_))))
  refine Ev.step (fun k => payofflaw06_LexScans.j3.eq_2 ..) (Ev.neg (by decide) (Ev.bind hR ?_))
  exact scans_l2 x3 R.1 R.1 m R.2.2 (by omega) (by omega) h3 h8 (sameT R.1 (by omega)) (x3 ++ m).length 0 (by omega)
 | succ d ih =>
  intro c hc m hm h8
  refine Ev.step (fun k => payofflaw06_LexScans.l1.eq_2 ..) (Ev.pos (by omega) (Ev.pos (by rw [List.length_append]; omega) ?_))
  rw [w64s c (by omega), List.append_assoc]
  refine ih (c + 1) (by omega) _ (by rw [List.length_append]; simp; omega) (fun j hj => ?_)
  by_cases h : j < m.length
  ·rw [rd_app_l h]; exact h8 j h
  ·rw [rd_app_r (by omega)]
   rw [List.length_append] at hj
   have : j - m.length = 0 := by simp at hj; omega
   rw [this]; rfl
theorem scans_l0 (a0 : ByteArray) (x6 : List S32) (R : List S32 × Int × Int) (hR : Ev (fun k => lex_Scan.f k a0) R) (h1 : R.1.length ≤ 65536) (h6 : x6.length ≤ 65536) :
  ∀ d i : Nat, ∀ x3 : List S32, i + d = x3.length → x3.length ≤ 65536 → (∀ j : Nat, j < i → (rd_T32 x3 (j : Int)).f0 = 99) → Ev (fun k => payofflaw06_LexScans.l0 k a0 x3 x6 x6 R.1 R.1 R.2.2 (i : Int)) true := by
 intro d
 induction d with
 | zero =>
  intro i x3 hi hn h3
  refine Ev.step (fun k => payofflaw06_LexScans.l0.eq_2 ..) (Ev.neg (by omega) (Ev.call rfl (Ev.pos (by show 0 + _ < _; omega) ?_)))
  have := scans_l1 a0 x3 x6 [] R hR h1 hn h6 (fun j hj => h3 j (by omega)) 70 0 rfl [] rfl (fun j hj => absurd hj (Nat.not_lt_zero j))
  rw [List.append_nil] at this
  exact this
 | succ d ih =>
  intro i x3 hi hn h3
  refine Ev.step (fun k => payofflaw06_LexScans.l0.eq_2 ..) (Ev.pos (by omega) (Ev.pos (by omega) ?_))
  rw [w64s i (by omega), Int.toNat_natCast]
  refine ih (i + 1) _ (by rw [List.length_set]; omega) (by rw [List.length_set]; exact hn) (fun j hj => ?_)
  unfold rd_T32
  rw [Int.toNat_natCast, List.getD_eq_getElem?_getD, List.getElem?_set]
  by_cases h : i = j
  ·rw [if_pos h, if_pos (by omega)]; rfl
  ·rw [if_neg h]
   have := h3 j (by omega)
   unfold rd_T32 at this
   rw [Int.toNat_natCast, List.getD_eq_getElem?_getD] at this
   exact this
theorem scans_all (a0 : ByteArray) : Ev (fun k => payofflaw06_LexScans.f k a0) true := by
 obtain ⟨R, r1, r2, r3⟩ := both_ev a0
 obtain ⟨C, c1, c2, c3⟩ := both_ev (⟨#[97, 32, 45, 32, 49]⟩ : ByteArray)
 unfold payofflaw06_LexScans.f
 refine Ev.bind r1 (Ev.bind c1 (Ev.bind c2 (Ev.bind r1 (Ev.bind r2 (Ev.pos rfl (Ev.pos rfl (Ev.bind (sameT R.1 (by omega)) (Ev.pos rfl (Ev.bind (sameT R.1 (by omega)) (Ev.pos rfl (Ev.bind (sameT C.1 (by omega)) ?_)))))))))))
 refine Ev.step (fun k => payofflaw06_LexScans.j0.eq_2 ..) (Ev.neg (by decide) ?_)
 exact scans_l0 a0 C.1 R r1 r3 c3 R.1.length 0 R.1 (by omega) r3 (fun j hj => absurd hj (Nat.not_lt_zero j))
theorem LexScans_walk (a0 : ByteArray) (w : World) (w0 : a0.size ≤ 140737488351232) (hL : Gl w) :
  Calls Tryd.prog 3 #[.string a0] w fun e w' => e = .returned (.bool true) ∧ Below w.heap.size w w' := by
 obtain ⟨k, h⟩ := (scans_all a0).rounds
 exact payofflaw06_LexScans.calls k a0 true w h hL
end Go.Proofs.YtkfdninngcakpaaDoor.Pure
