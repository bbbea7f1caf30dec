/- Own text: LexOdd: a byte that begins no token, behind a whole text and a line's end, is told at its place, whatever follows; no condition but that the listed package variables stand. -/
import Derived.Test.YtkfdninngcakpaaDoorFirstLaw
import Derived.Test.YtkfdninngcakpaaDoorQLexOdd
namespace Go.Proofs.YtkfdninngcakpaaDoor.Pure
open Go.RowKit Go.Proofs.YtkfdninngcakpaaDoor.PLex Go.Proofs.YtkfdninngcakpaaDoorW.PrintWords Go.Proofs.YtkfdninngcakpaaDoorW.PrintLast Go.Proofs.YtkfdninngcakpaaDoorW.PrintMore
set_option linter.unusedVariables false
set_option linter.unusedSimpArgs false
def plainC (c : Int) : Bool := !blankB c && !(c == 35) && !digitB c && !smallB c && !bigB c && !(decide (c ∈ ONE)) && KP.all fun p => !((p.headD 0).toNat == c.toNat)
def oddC (c : Int) : Bool := decide (c ≤ 32 ∨ 127 ≤ c ∨ c = 34 ∨ c = 36 ∨ c = 64 ∨ c = 94 ∨ c = 126 ∨ c = 92 ∨ c = 39 ∨ c = 95) && !blankB c
theorem odd_plain_fin : ∀ n : Fin 256, oddC ((n : Nat) : Int) = true → plainC ((n : Nat) : Int) = true := by decide +kernel
theorem odd_plain {c : Int} (h0 : 0 ≤ c) (h1 : c ≤ 255) (h : oddC c = true) : plainC c = true := by
  have := odd_plain_fin ⟨c.toNat, by omega⟩
  rw [show (((⟨c.toNat, by omega⟩ : Fin 256) : Nat) : Int) = c by show ((c.toNat : Nat) : Int) = c; omega] at this
  exact this h
theorem head_pair {s : ByteArray} (h1 : 1 < s.size) : ∃ t, (s.extract 0 2).toList = s.data.toList[0]?.getD 0 :: t := by
  have e : (s.extract 0 2).toList = s.data.toList.take 2 := by
    rw [toList_data, ByteArray.data_extract, Array.toList_extract, List.extract_eq_take_drop]; rfl
  have hl := data_length s
  rw [e]
  cases hd : s.data.toList with
  | nil => rw [hd] at hl; simp at hl; omega
  | cons a t => exact ⟨t.take 1, by simp⟩
theorem odd_tok (s : ByteArray) (h0 : 0 < s.size) (h : plainC (bt s 0) = true) : tokA s = errR 0 61 := by
  unfold plainC at h
  simp only [Bool.and_eq_true, Bool.not_eq_true', decide_eq_false_iff_not, beq_eq_false_iff_ne, List.all_eq_true] at h
  obtain ⟨⟨⟨⟨⟨⟨p1, p2⟩, p3⟩, p4⟩, p5⟩, p6⟩, p7⟩ := h
  have hd : ¬ datedB s = true := fun g => by
    have := form_digit (dated_parts g).2.2 0 (by omega) (by omega) (by omega)
    rw [show bt s ((0 : Nat) : Int) = bt s 0 from rfl, p3] at this; cases this
  have hm : markOf s = 0 := by
    unfold markOf
    rw [if_neg (fun g => ?_), if_neg p6]
    obtain ⟨t, ht⟩ := head_pair g.1
    have := p7 _ g.2
    rw [ht, bt_zero, bt_nat] at this
    simp at this
  unfold tokA
  rw [if_neg hd, if_neg (by rw [p3]; decide), if_neg (by rw [p4]; decide), if_neg (by rw [p5]; decide), hm, if_neg (by decide)]
theorem sc_go (z : ByteArray) (E : Nat) (hE : E < z.size) (hz : bt z (E : Int) = 10) {i : Nat} {l : List S32} {r : List S32 × Int × Int} (h : Sc (z.extract 0 E) i l r) (hi : i ≤ E) (hr : r.2.2 = 0) :
    ∀ r', Sc z E r.1 r' → Sc z i l r' := by
  have hs := cut_size z E (by omega)
  induction h with
  | done i l h => intro r' k; rw [hs] at h; subst h; exact k
  | blank i l r h hb k ih =>
    rw [cut_bt z E i (by omega)] at hb
    exact fun r' q => Sc.blank i l r' (by omega) hb (ih (by omega) hr r' q)
  | hash i l r h hb k ih =>
    have hn := nl_gt h hb
    rw [cut_bt z E i (by omega)] at hb
    have e := cut_nl z E i (by omega) (by omega) (.inr (.inl ⟨hE, hz⟩))
    have i1 := ih (by omega) hr
    rw [← e] at i1
    exact fun r' q => Sc.hash i l r' (by omega) hb (i1 r' q)
  | tok i l r h hb hh he k ih =>
    have ht := first_tok z E i (by omega) hE hz
    have hl := tok_len h he
    rw [cut_bt z E i (by omega)] at hb hh
    rw [ht] at he k ih hl
    exact fun r' q => Sc.tok i l r' (by omega) hb hh he (ih (by omega) hr r' q)
  | err i l h hb hh he => exact absurd hr he
theorem big_scan (x : ByteArray) (hx : ¬ x.size ≤ 65536) : Ev (fun k => lex_Scan.f k x) (([] : List S32), 0, 6) := by
  unfold lex_Scan.f
  exact Ev.pos (by omega) (Ev.ret rfl)
theorem one_size (c : Int) : (strOfNums [c]).size = 1 := rfl
theorem one_bt (c : Int) (h0 : 0 ≤ c) (h1 : c ≤ 255) : bt (strOfNums [c]) ((0 : Nat) : Int) = c := by
  rw [bt_nat]
  show (((UInt8.ofNat c.toNat).toNat : Nat) : Int) = c
  rw [UInt8.toNat_ofNat']
  omega
theorem odd_main (a0 a2 : ByteArray) (c : Int) (c0 : 0 ≤ c) (c1 : c ≤ 255) (h0 : a0.size ≤ 140737488351232) (h2 : a2.size ≤ 140737488351232) (hc : oddC c = true) :
    Ev (fun k => payofflaw06_LexOdd.j0 k a0 c a2 false) true := by
  refine Ev.step (fun k => payofflaw06_LexOdd.j0.eq_2 ..) (Ev.neg (by decide) ?_)
  have stop : ∀ l z, Ev (fun k => payofflaw06_LexOdd.j1 k a0 l z true) true := fun l z => Ev.step (fun k => payofflaw06_LexOdd.j1.eq_2 ..) (Ev.pos rfl (Ev.ret rfl))
  have n1 : (⟨#[10]⟩ : ByteArray).size = 1 := rfl
  by_cases hx : a0.size ≤ 65536
  case neg =>
    refine Ev.bind (big_scan a0 hx) (Ev.pos (by omega) (Ev.bind (Ev.ret rfl) (Ev.pos (by rw [app_size, one_size, n1]; omega) (Ev.pos (by rw [app_size, app_size, one_size, n1]; omega) (Ev.neg (by show ¬ (6 : Int) = 0; decide) (stop _ _))))))
  obtain ⟨r, hr⟩ := sc_total a0 a0.size 0 [] (by omega) (by omega)
  refine Ev.bind (scan_ev a0 hx r hr) (Ev.pos (by omega) (Ev.bind (Ev.ret rfl) (Ev.pos (by rw [app_size, one_size, n1]; omega) (Ev.pos (by rw [app_size, app_size, one_size, n1]; omega) ?_))))
  by_cases he : r.2.2 = 0
  case neg => exact Ev.neg he (stop _ _)
  refine Ev.pos he ?_
  obtain ⟨z, hz⟩ : ∃ z, z = ((a0 ++ (⟨#[10]⟩ : ByteArray)) ++ strOfNums [c]) ++ a2 := ⟨_, rfl⟩
  rw [← hz]
  by_cases hb : (z.size : Int) > 65536
  · rw [decide_eq_true hb]; exact stop _ _
  rw [decide_eq_false hb]
  have hsz : z.size = a0.size + 1 + 1 + a2.size := by rw [hz, app_size, app_size, app_size]; rfl
  have s1 : (a0 ++ (⟨#[10]⟩ : ByteArray)).size = a0.size + 1 := by rw [app_size]; rfl
  have s2 : ((a0 ++ (⟨#[10]⟩ : ByteArray)) ++ strOfNums [c]).size = a0.size + 1 + 1 := by rw [app_size, s1]; rfl
  have x2 : z.extract 0 (a0.size + 1 + 1) = (a0 ++ (⟨#[10]⟩ : ByteArray)) ++ strOfNums [c] := by rw [hz, ← s2]; exact app_cut _ _
  have x1 : z.extract 0 (a0.size + 1) = a0 ++ (⟨#[10]⟩ : ByteArray) := by
    have := ext_ext z 0 (a0.size + 1 + 1) 0 (a0.size + 1)
    rw [x2, show ((a0 ++ (⟨#[10]⟩ : ByteArray)) ++ strOfNums [c]).extract 0 (a0.size + 1) = a0 ++ (⟨#[10]⟩ : ByteArray) by rw [← s1]; exact app_cut _ _, show 0 + 0 = 0 from rfl, show min (0 + (a0.size + 1)) (a0.size + 1 + 1) = a0.size + 1 by omega] at this
    exact this.symm
  have x0 : z.extract 0 a0.size = a0 := by
    have := ext_ext z 0 (a0.size + 1) 0 a0.size
    rw [x1, app_cut, show 0 + 0 = 0 from rfl, show min (0 + a0.size) (a0.size + 1) = a0.size by omega] at this
    exact this.symm
  have b0 : bt z (a0.size : Int) = 10 := by
    rw [← bt_ext0 z (a0.size + 1) a0.size (by omega), x1]
    exact app_bt a0 ⟨#[10]⟩ 0
  have b1 : bt z ((a0.size + 1 : Nat) : Int) = c := by
    rw [← bt_ext0 z (a0.size + 1 + 1) (a0.size + 1) (by omega), x2, ← one_bt c c0 c1]
    have := app_bt (a0 ++ (⟨#[10]⟩ : ByteArray)) (strOfNums [c]) 0
    rw [s1] at this
    rw [one_bt c c0 c1] at this ⊢
    exact this
  have hp := odd_plain c0 c1 hc
  have ht : tokA (z.extract (a0.size + 1) z.size) = errR 0 61 := by
    refine odd_tok _ (by rw [ext_size]; omega) ?_
    rw [bt_zero, bt_ext z (a0.size + 1) z.size 0 (by omega), Nat.add_zero, b1]; exact hp
  have hp' := hp
  unfold plainC at hp'
  simp only [Bool.and_eq_true, Bool.not_eq_true', decide_eq_false_iff_not, beq_eq_false_iff_ne, List.all_eq_true] at hp'
  obtain ⟨⟨⟨⟨⟨⟨p1, p2⟩, -⟩, -⟩, -⟩, -⟩, -⟩ := hp'
  have e := Sc.err (x := z) (a0.size + 1) r.1 (by omega) (by rw [b1]; exact p1) (by rw [b1]; exact p2) (by rw [ht]; decide)
  rw [ht] at e
  have g := sc_go z a0.size (by omega) b0 (i := 0) (l := []) (r := r) (by rw [x0]; exact hr) (by omega) he _ (Sc.blank a0.size r.1 _ (by omega) (by rw [b0]; decide) e)
  have len := sc_len hr (Nat.le_refl _) (Nat.zero_le _)
  refine Ev.step (fun k => payofflaw06_LexOdd.j1.eq_2 ..) (Ev.neg (by decide) ?_)
  refine Ev.bind (scan_ev z (by omega) _ g) (Ev.pos rfl (Ev.pos ?_ (Ev.bind (sameT r.1 (by omega)) (Ev.ret rfl))))
  show ((a0.size + 1 : Nat) : Int) + 0 = wrap64 ((a0.size : Int) + 1)
  rw [w64 (by omega)]; omega
theorem Ev.ite {α : Type} {c : Prop} [Decidable c] {a b : Nat → Option α} {r : α} (h1 : c → Ev a r) (h2 : ¬c → Ev b r) : Ev (fun n => if c then a n else b n) r := by
  by_cases h : c
  · exact Ev.pos h (h1 h)
  · exact Ev.neg h (h2 h)
theorem odd_all (a0 a2 : ByteArray) (c : Int) (c0 : 0 ≤ c) (c1 : c ≤ 255) (h0 : a0.size ≤ 140737488351232) (h2 : a2.size ≤ 140737488351232) : Ev (fun k => payofflaw06_LexOdd.f k a0 c a2) true := by
  have hT : Ev (fun k => payofflaw06_LexOdd.j0 k a0 c a2 true) true := Ev.step (fun k => payofflaw06_LexOdd.j0.eq_2 ..) (Ev.pos rfl (Ev.ret rfl))
  have hF : (c ≤ 32 ∨ 127 ≤ c ∨ c = 34 ∨ c = 36 ∨ c = 64 ∨ c = 94 ∨ c = 126 ∨ c = 92 ∨ c = 39 ∨ c = 95) → c ≠ 32 → c ≠ 9 → c ≠ 10 → Ev (fun k => payofflaw06_LexOdd.j0 k a0 c a2 (c == 13)) true := by
    intro g g1 g2 g3
    by_cases g4 : c = 13
    · rw [show (c == 13) = true by rw [g4]; rfl]; exact hT
    · rw [beq_eq_false_iff_ne.mpr g4]
      refine odd_main a0 a2 c c0 c1 h0 h2 ?_
      unfold oddC blankB
      rw [decide_eq_true g, beq_eq_false_iff_ne.mpr g1, beq_eq_false_iff_ne.mpr g2, beq_eq_false_iff_ne.mpr g3, beq_eq_false_iff_ne.mpr g4]; rfl
  unfold payofflaw06_LexOdd.f
  refine Ev.bind takes_ev (Ev.pos rfl ?_)
  repeat' (first | exact hT | exact hF (by omega) (by omega) (by omega) (by omega) | refine Ev.ite (fun _ => ?_) (fun _ => ?_))

theorem LexOdd_walk (a0 : ByteArray) (a1 : Int) (a2 : ByteArray) (w : World) (w0 : a0.size ≤ 140737488351232) (w1 : (Lit.int .u8 a1).wf = true) (w2 : a2.size ≤ 140737488351232) (hL : Gl w) :
    Calls Tryd.prog 6 #[.string a0, .int .u8 a1, .string a2] w fun e w' => e = .returned (.bool true) ∧ Below w.heap.size w w' := by
  have b := wf8 w1
  obtain ⟨k, h⟩ := (odd_all a0 a2 a1 b.1 b.2 w0 w2).rounds
  exact payofflaw06_LexOdd.calls k a0 a1 a2 true w h hL
end Go.Proofs.YtkfdninngcakpaaDoor.Pure
