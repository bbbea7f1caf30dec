/- Own text: LexTells: the tokens tell the text but for blanks and comments, and the text that ends behind the last of them is cut into just these; no condition but that the listed package variables stand. -/
import Derived.Test.YtkfdninngcakpaaDoorLexTellP
import Derived.Test.YtkfdninngcakpaaDoorQLexTells
namespace Go.Proofs.YtkfdninngcakpaaDoor.Pure
open Go.RowKit Go.Proofs.YtkfdninngcakpaaDoor.PLex Go.Proofs.YtkfdninngcakpaaDoorW.PrintWords Go.Proofs.YtkfdninngcakpaaDoorW.PrintLast Go.Proofs.YtkfdninngcakpaaDoorW.PrintMore
set_option linter.unusedVariables false
set_option linter.unusedSimpArgs false
theorem loose_l0 {z : ByteArray} (hz : z.size ≤ 65536) {i e : Nat} {o q : Bool} (h : Lo z i o e q) (b : Nat) (hb : b ≤ i) (he : e ≤ z.size) : Ev (fun k => payofflaw06_loose.l0 k (z.extract b e) o ((i - b : Nat) : Int)) (true, q) := by
  induction h with
  | nil a o => exact Ev.step (fun k => payofflaw06_loose.l0.eq_2 ..) (Ev.neg (by rw [ext_size]; omega) (Ev.ret rfl))
  | nl a o e q h h10 k ih =>
    have := k.le
    have hbt : bt (z.extract b e) ((a - b : Nat) : Int) = bt z (a : Int) := by rw [bt_ext z b e (a - b) (by omega), show b + (a - b) = a by omega]
    refine Ev.step (fun k => payofflaw06_loose.l0.eq_2 ..) (Ev.pos (by rw [ext_size]; omega) (Ev.pos (by omega) (Ev.pos (by rw [hbt]; exact h10) ?_)))
    rw [show wrap64 (((a - b : Nat) : Int) + 1) = ((a + 1 - b : Nat) : Int) by rw [w64 (by omega)]; omega]
    exact ih (by omega) he
  | hash a o e q h h35 k ih =>
    have := k.le
    have hbt : bt (z.extract b e) ((a - b : Nat) : Int) = bt z (a : Int) := by rw [bt_ext z b e (a - b) (by omega), show b + (a - b) = a by omega]
    refine Ev.step (fun k => payofflaw06_loose.l0.eq_2 ..) (Ev.pos (by rw [ext_size]; omega) (Ev.pos (by omega) (Ev.neg (by rw [hbt, h35]; decide) (Ev.pos (by rw [hbt]; exact h35) ?_))))
    rw [show wrap64 (((a - b : Nat) : Int) + 1) = ((a + 1 - b : Nat) : Int) by rw [w64 (by omega)]; omega]
    exact ih (by omega) he
  | loose a o e q h h1 h2 hl k ih =>
    have := k.le
    have hbt : bt (z.extract b e) ((a - b : Nat) : Int) = bt z (a : Int) := by rw [bt_ext z b e (a - b) (by omega), show b + (a - b) = a by omega]
    refine Ev.step (fun k => payofflaw06_loose.l0.eq_2 ..) (Ev.pos (by rw [ext_size]; omega) (Ev.pos (by omega) (Ev.neg (by rw [hbt]; exact h1) (Ev.neg (by rw [hbt]; exact h2) ?_))))
    rw [show wrap64 (((a - b : Nat) : Int) + 1) = ((a + 1 - b : Nat) : Int) by rw [w64 (by omega)]; omega, hbt]
    have go := ih (by omega) he
    by_cases o1 : o = true
    · exact Ev.pos o1 go
    · refine Ev.neg o1 ?_
      by_cases g1 : bt z (a : Int) = 32
      · exact Ev.pos g1 go
      · refine Ev.neg g1 ?_
        by_cases g2 : bt z (a : Int) = 9
        · exact Ev.pos g2 go
        · refine Ev.neg g2 (Ev.pos ?_ go)
          rcases hl with x | x | x | x
          · exact absurd x o1
          · exact absurd x g1
          · exact absurd x g2
          · exact x
theorem loose_ev {z : ByteArray} (hz : z.size ≤ 65536) {a e : Nat} {q : Bool} (h : Lo z a false e q) (he : e ≤ z.size) : Ev (fun k => payofflaw06_loose.f k (z.extract a e)) (true, q) := by
  have := loose_l0 hz h a (Nat.le_refl _) he
  rw [Nat.sub_self] at this
  exact this
theorem tells_l0 {z : ByteArray} (hz : z.size ≤ 65536) {m : List S32} {a e : Nat} (h : TL z m a e) (END : Nat) (he : e ≤ END) (hE : END ≤ z.size) {q : Bool} (lo : Lo z e false END q) : ∀ pre : List S32, pre.length + m.length ≤ 65536 → Ev (fun k => payofflaw06_tells.l0 k z (pre ++ m) (END : Int) (a : Int) (pre.length : Int)) true := by
  induction h with
  | nil a =>
    intro pre hlen
    refine Ev.step (fun k => payofflaw06_tells.l0.eq_2 ..) (Ev.neg (by simp) (Ev.neg (by omega) (Ev.pos (by omega) (Ev.pos (by omega) (Ev.pos (by omega) ?_)))))
    rw [Int.toNat_natCast, Int.toNat_natCast]
    exact Ev.bind (loose_ev hz lo hE) (Ev.ret rfl)
  | cons t m a p s e hp lo1 hs hps f1 f2 k ih =>
    intro pre hlen
    simp only [List.length_cons] at hlen
    have rd : rd_T32 (pre ++ t :: m) ((pre.length : Nat) : Int) = t := by
      unfold rd_T32; rw [Int.toNat_natCast]; simp
    have sz : t.f1.size = s := by rw [f1, ext_size]; omega
    have le := k.le
    refine Ev.step (fun k => payofflaw06_tells.l0.eq_2 ..) (Ev.pos (by simp; omega) (Ev.pos (by omega) ?_))
    rw [rd, f2]
    have w1 : wrap64 ((z.size : Int) - (p : Int)) = (z.size : Int) - p := w64 (by omega)
    have w2 : wrap64 ((p : Int) + (t.f1.size : Int)) = ((p + s : Nat) : Int) := by rw [w64 (by omega)]; omega
    rw [w1, w2]
    clear w1 w2
    refine Ev.neg (by omega) (Ev.neg (fun g => ?_) (Ev.neg (by omega) (Ev.pos (by omega) (Ev.pos (by omega) (Ev.pos (by omega) ?_)))))
    · have := data_length t.f1
      rw [toList_data] at g
      rw [g] at this; simp at this; omega
    · rw [Int.toNat_natCast, Int.toNat_natCast, ← f1, show (t.f1.toList != t.f1.toList) = false by simp]
      refine Ev.step (fun k => payofflaw06_tells.j1.eq_2 ..) (Ev.neg (by decide) (Ev.pos (by omega) (Ev.pos (by omega) (Ev.pos (by omega) ?_))))
      rw [Int.toNat_natCast, Int.toNat_natCast]
      refine Ev.bind (loose_ev hz lo1 (by omega)) (Ev.pos rfl (Ev.neg (by decide) ?_))
      rw [show wrap64 ((p : Int) + (t.f1.size : Int)) = ((p + s : Nat) : Int) by rw [w64 (by omega)]; omega, show wrap64 ((pre.length : Int) + 1) = ((pre.length + 1 : Nat) : Int) by rw [w64 (by omega)]; omega]
      have nex := ih he lo (pre ++ [t]) (by simp; omega)
      rw [List.append_assoc, List.singleton_append, List.length_append, List.length_singleton] at nex
      exact nex
theorem tells_ev {z : ByteArray} (hz : z.size ≤ 65536) {m : List S32} {e : Nat} (h : TL z m 0 e) (hm : m.length ≤ 65536) (END : Nat) (he : e ≤ END) (hE : END ≤ z.size) {q : Bool} (lo : Lo z e false END q) : Ev (fun k => payofflaw06_tells.f k z m (END : Int)) true :=
  tells_l0 hz h END he hE lo [] (by simpa using hm)
theorem tells_all (z : ByteArray) : Ev (fun k => payofflaw06_LexTells.f k z) true := by
  unfold payofflaw06_LexTells.f
  refine Ev.bind takes_ev (Ev.pos rfl ?_)
  by_cases hb : (z.size : Int) > 65536
  · exact Ev.bind (big_scan' z hb) (Ev.pos hb (Ev.pos rfl (Ev.pos rfl (Ev.ret rfl))))
  obtain ⟨r, hr⟩ := sc_total z z.size 0 [] (by omega) (by omega)
  have len := sc_len hr (Nat.le_refl _) (Nat.zero_le _)
  obtain ⟨m, e, h1, h2, h3, h4, h5, h6⟩ := sc_tells hr 0 false (by omega) (Lo.nil _ _) (fun g => by cases g)
  rw [List.nil_append] at h1
  rw [h1] at len
  refine Ev.bind (scan_ev z (by omega) r hr) (Ev.neg hb ?_)
  rw [h1]
  by_cases he : r.2.2 = 0
  · obtain ⟨e0, q, lo⟩ := h4 he
    exact Ev.pos he (Ev.pos e0 (Ev.bind (tells_ev (by omega) h2 (by omega) z.size h3 (Nat.le_refl _) lo) (Ev.ret rfl)))
  · obtain ⟨g1, g2⟩ := h5 he
    refine Ev.neg he (Ev.neg (by omega) ?_)
    rw [decide_eq_false (by omega)]
    have j2 : Ev (fun k => payofflaw06_LexTells.j2 k z m (e : Int) false) true := by
      refine Ev.step (fun k => payofflaw06_LexTells.j2.eq_2 ..) (Ev.neg (by decide) (Ev.pos (by omega) (Ev.pos (by omega) ?_)))
      rw [Int.toNat_natCast]
      have sc : Sc (z.extract 0 e) 0 [] (m, 0, 0) := by
        cases m with
        | nil => cases h2; exact Sc.done 0 [] (by rw [ext_size]; omega)
        | cons t m => exact (h6 (by simp)).2.2
      exact Ev.bind (scan_ev (z.extract 0 e) (by rw [ext_size]; omega) _ sc) (Ev.pos rfl (Ev.bind (sameT m (by omega)) (Ev.ret rfl)))
    have j1 : Ev (fun k => payofflaw06_LexTells.j1 k z m r.2.1 (e : Int)) true := by
      refine Ev.step (fun k => payofflaw06_LexTells.j1.eq_2 ..) (Ev.neg (by omega) (Ev.neg (by omega) ?_))
      exact Ev.bind (tells_ev (by omega) h2 (by omega) e (Nat.le_refl _) h3 (Lo.nil _ _)) j2
    refine Ev.step (fun k => payofflaw06_LexTells.j0.eq_2 ..) (Ev.neg (by decide) ?_)
    by_cases hm : m = []
    · subst hm
      cases h2
      exact Ev.neg (by simp) j1
    · have hpos : 0 < m.length := by cases m with
        | nil => exact absurd rfl hm
        | cons => simp
      obtain ⟨p, s, p1, p2, p3, p4⟩ := tl_last h2 hm
      refine Ev.pos (by omega) ?_
      rw [show wrap64 ((m.length : Int) - 1) = (m.length : Int) - 1 from w64 (by omega), p2, p3, show wrap64 ((p : Int) + (s : Int)) = (e : Int) by rw [w64 (by omega)]; omega]
      exact Ev.pos (by omega) (Ev.pos (by omega) j1)

theorem LexTells_walk (a0 : ByteArray) (w : World) (w0 : a0.size ≤ 140737488351232) (hL : Gl w) :
    Calls Tryd.prog 4 #[.string a0] w fun e w' => e = .returned (.bool true) ∧ Below w.heap.size w w' := by
  obtain ⟨k, h⟩ := (tells_all a0).rounds
  exact payofflaw06_LexTells.calls k a0 true w h hL
end Go.Proofs.YtkfdninngcakpaaDoor.Pure
