/- Own text: a text cut off behind its last token, and what the tokens tell of the text. -/
import Derived.Test.YtkfdninngcakpaaDoorLexScanP
namespace Go.Proofs.YtkfdninngcakpaaDoor.Pure
open Go.RowKit Go.Proofs.YtkfdninngcakpaaDoor.PLex Go.Proofs.YtkfdninngcakpaaDoorW.PrintWords Go.Proofs.YtkfdninngcakpaaDoorW.PrintLast Go.Proofs.YtkfdninngcakpaaDoorW.PrintMore
set_option linter.unusedVariables false
set_option linter.unusedSimpArgs false
/-! A text that is cut off -/
theorem cut_size (z : ByteArray) (E : Nat) (hE : E ≤ z.size) : (z.extract 0 E).size = E := by rw [ext_size]; omega
theorem cut_tok (z : ByteArray) (E i : Nat) (hi : i < E) (hE : E ≤ z.size)
    (hB : E < z.size → runB (bt z ((E - 1 : Nat) : Int)) = true → runB (bt z (E : Int)) = false)
    (hD : datedB (z.extract i z.size) = true → 10 ≤ E - i) (hM : E - i = 1 → 1 < z.size - i → ((z.extract i z.size).extract 0 2).toList ∈ KP → False) :
    tokA ((z.extract 0 E).extract i (z.extract 0 E).size) = tokA (z.extract i z.size) := by
  have e1 : (z.extract 0 E).extract i (z.extract 0 E).size = (z.extract i z.size).extract 0 (E - i) := by
    rw [cut_size z E hE, ext_ext, ext_ext]
    congr 1 <;> omega
  have hs : (z.extract i z.size).size = z.size - i := by rw [ext_size]; omega
  rw [e1]
  refine tok_trunc (z.extract i z.size) (E - i) (by omega) (by omega) (fun h hb => ?_) hD (fun h1 h2 => hM h1 (by omega))
  rw [bt_ext z i z.size (E - i) (by omega), show i + (E - i) = E by omega]
  rw [bt_ext z i z.size (E - i - 1) (by omega), show i + (E - i - 1) = E - 1 by omega] at hb
  exact hB (by omega) hb
theorem cut_bt (z : ByteArray) (E i : Nat) (hi : i < E) : bt (z.extract 0 E) (i : Int) = bt z (i : Int) := bt_ext0 z E i hi
theorem cut_nl (z : ByteArray) (E i : Nat) (hi : i ≤ E) (hE : E ≤ z.size) (hz : nlAt (z.extract 0 E) i < E ∨ (E < z.size ∧ bt z (E : Int) = 10) ∨ E = z.size) : nlAt z i = nlAt (z.extract 0 E) i := by
  have hs := cut_size z E hE
  obtain ⟨a, b, c, d⟩ := nl_spec (x := z.extract 0 E) (i := i) (by omega)
  refine span_unique (nl_spec (by omega)) ⟨a, by omega, fun j j1 j2 => ?_, fun h => ?_⟩
  · rw [← cut_bt z E j (by omega)]; exact c j j1 j2
  · by_cases g : nlAt (z.extract 0 E) i < E
    · rw [← cut_bt z E _ g]; exact d (by omega)
    · have e : nlAt (z.extract 0 E) i = E := by omega
      rw [e] at h ⊢
      rcases hz with q | q | q
      · omega
      · rw [q.2]; decide
      · omega

inductive Lo (z : ByteArray) : Nat → Bool → Nat → Bool → Prop
  | nil (a : Nat) (o : Bool) : Lo z a o a o
  | nl (a : Nat) (o : Bool) (e : Nat) (q : Bool) (h : a < z.size) (hb : bt z (a : Int) = 10) (k : Lo z (a + 1) false e q) : Lo z a o e q
  | hash (a : Nat) (o : Bool) (e : Nat) (q : Bool) (h : a < z.size) (hb : bt z (a : Int) = 35) (k : Lo z (a + 1) true e q) : Lo z a o e q
  | loose (a : Nat) (o : Bool) (e : Nat) (q : Bool) (h : a < z.size) (h1 : bt z (a : Int) ≠ 10) (h2 : bt z (a : Int) ≠ 35) (hb : o = true ∨ bt z (a : Int) = 32 ∨ bt z (a : Int) = 9 ∨ bt z (a : Int) = 13) (k : Lo z (a + 1) o e q) : Lo z a o e q
theorem Lo.le {z : ByteArray} {a e : Nat} {o q : Bool} (h : Lo z a o e q) : a ≤ e := by
  induction h <;> omega
theorem Lo.trans {z : ByteArray} {a e : Nat} {o q : Bool} (h : Lo z a o e q) {f : Nat} {p : Bool} (h' : Lo z e q f p) : Lo z a o f p := by
  induction h with
  | nil a o => exact h'
  | nl a o e q h hb k ih => exact Lo.nl a o _ _ h hb (ih h')
  | hash a o e q h hb k ih => exact Lo.hash a o _ _ h hb (ih h')
  | loose a o e q h h1 h2 hb k ih => exact Lo.loose a o _ _ h h1 h2 hb (ih h')
theorem lo_blank {z : ByteArray} {i : Nat} {o : Bool} (h : i < z.size) (hb : blankB (bt z (i : Int)) = true) (ho : o = true → bt z (i : Int) = 10) : Lo z i o (i + 1) false := by
  by_cases g : bt z (i : Int) = 10
  · exact Lo.nl i o _ _ h g (Lo.nil _ _)
  · have e : o = false := by cases o with
      | false => rfl
      | true => exact absurd (ho rfl) g
    subst e
    have hb' := hb
    unfold blankB at hb
    simp only [Bool.or_eq_true, beq_iff_eq] at hb
    refine Lo.loose i false _ _ h g (fun h35 => by rw [h35] at hb'; exact absurd hb' (by decide)) (.inr ?_) (Lo.nil _ _)
    rcases hb with ((x | x) | x) | x
    · exact .inl x
    · exact .inr (.inl x)
    · exact absurd x g
    · exact .inr (.inr x)
theorem lo_open {z : ByteArray} (f : Nat) : ∀ d i, i + d = f → f ≤ z.size → (∀ j : Nat, i ≤ j → j < f → bt z (j : Int) ≠ 10) → Lo z i true f true := by
  intro d
  induction d with
  | zero => intro i h _ _; have : i = f := by omega
            subst this; exact Lo.nil _ _
  | succ d ih =>
    intro i h hf hn
    have k := ih (i + 1) (by omega) hf (fun j h1 h2 => hn j (by omega) h2)
    by_cases g : bt z (i : Int) = 35
    · exact Lo.hash i _ _ _ (by omega) g k
    · exact Lo.loose i _ _ _ (by omega) (hn i (by omega) (by omega)) g (.inl rfl) k
theorem lo_hash {z : ByteArray} {i : Nat} {o : Bool} (h : i < z.size) (hb : bt z (i : Int) = 35) : Lo z i o (nlAt z i) true := by
  have g := nl_gt h hb
  obtain ⟨a, b, c, d⟩ := nl_spec (x := z) (i := i) (by omega)
  refine Lo.hash i o _ _ h hb (lo_open (nlAt z i) (nlAt z i - (i + 1)) (i + 1) (by omega) b (fun j h1 h2 => ?_))
  have := c j (by omega) h2
  unfold nlP at this
  intro h10; rw [h10] at this; exact absurd this (by decide)
/-- The tokens of a text from the place a on, the last of which ends at e. -/
inductive TL (z : ByteArray) : List S32 → Nat → Nat → Prop
  | nil (a : Nat) : TL z [] a a
  | cons (t : S32) (m : List S32) (a p s e : Nat) (hp : a ≤ p) (lo : Lo z a false p false) (hs : 1 ≤ s) (hz : p + s ≤ z.size) (f1 : t.f1 = z.extract p (p + s)) (f2 : t.f2 = (p : Int)) (k : TL z m (p + s) e) : TL z (t :: m) a e
theorem TL.le {z : ByteArray} {m : List S32} {a e : Nat} (h : TL z m a e) : a ≤ e := by
  induction h <;> omega
theorem tl_last {z : ByteArray} {m : List S32} {a e : Nat} (h : TL z m a e) : m ≠ [] → ∃ p s : Nat, p + s = e ∧ (rd_T32 m ((m.length : Int) - 1)).f2 = (p : Int) ∧ (rd_T32 m ((m.length : Int) - 1)).f1.size = s ∧ e ≤ z.size := by
  induction h with
  | nil a => intro h; exact absurd rfl h
  | cons t m a p s e hp lo hs hz f1 f2 k ih =>
    intro _
    cases m with
    | nil =>
      cases k
      refine ⟨p, s, rfl, f2, ?_, hz⟩
      show t.f1.size = s
      rw [f1, ext_size]; omega
    | cons u m =>
      obtain ⟨p', s', h1, h2, h3, h4⟩ := ih (by simp)
      have e1 : rd_T32 (t :: u :: m) (((t :: u :: m).length : Int) - 1) = rd_T32 (u :: m) (((u :: m).length : Int) - 1) := by
        unfold rd_T32
        rw [show (((t :: u :: m).length : Int) - 1).toNat = m.length + 1 by simp only [List.length_cons]; omega, show (((u :: m).length : Int) - 1).toNat = m.length by simp only [List.length_cons]; omega]
        rfl
      rw [e1]
      exact ⟨p', s', h1, h2, h3, h4⟩
def Bd (z : ByteArray) (e : Nat) : Prop := e < z.size → runB (bt z ((e - 1 : Nat) : Int)) = true → runB (bt z (e : Int)) = false
theorem nl_cut {z : ByteArray} {E i : Nat} (hi : i ≤ E) (hE : E ≤ z.size) (h : nlAt z i < E) : nlAt (z.extract 0 E) i = nlAt z i := by
  have hs := cut_size z E hE
  obtain ⟨a, b, c, d⟩ := nl_spec (x := z) (i := i) (by omega)
  refine span_unique (nl_spec (by omega)) ⟨a, by omega, fun j j1 j2 => ?_, fun g => ?_⟩
  · rw [cut_bt z E j (by omega)]; exact c j j1 j2
  · rw [cut_bt z E _ h]; exact d (by omega)
theorem sc_tells {z : ByteArray} {i : Nat} {l : List S32} {r : List S32 × Int × Int} (h : Sc z i l r) : ∀ (a : Nat) (o : Bool), i ≤ z.size → Lo z a false i o → (o = true → i < z.size → bt z (i : Int) = 10) →
    ∃ (m : List S32) (e : Nat), r.1 = l ++ m ∧ TL z m a e ∧ e ≤ z.size ∧ (r.2.2 = 0 → r.2.1 = 0 ∧ ∃ q, Lo z e false z.size q) ∧ (r.2.2 ≠ 0 → (e : Int) ≤ r.2.1 ∧ r.2.1 < z.size) ∧
      (m ≠ [] → i < e ∧ Bd z e ∧ Sc (z.extract 0 e) i l (l ++ m, 0, 0)) := by
  induction h with
  | done i l h =>
    intro a o hi lo _
    have := lo.le
    subst h
    exact ⟨[], a, by simp, TL.nil a, by omega, fun _ => ⟨rfl, o, lo⟩, fun g => absurd rfl g, fun g => absurd rfl g⟩
  | blank i l r h hb k ih =>
    intro a o hi lo ho
    obtain ⟨m, e, h1, h2, h3, h4, h5, h6⟩ := ih a false (by omega) (lo.trans (lo_blank h hb (fun g => ho g h))) (fun g => by cases g)
    refine ⟨m, e, h1, h2, h3, h4, h5, fun g => ?_⟩
    obtain ⟨g1, g2, g3⟩ := h6 g
    exact ⟨by omega, g2, Sc.blank i l _ (by rw [cut_size z e h3]; omega) (by rw [cut_bt z e i (by omega)]; exact hb) g3⟩
  | hash i l r h hb k ih =>
    intro a o hi lo ho
    have hn := nl_gt h hb
    obtain ⟨_, _, _, hd⟩ := nl_spec (x := z) (i := i) (by omega)
    obtain ⟨m, e, h1, h2, h3, h4, h5, h6⟩ := ih a true (by omega) (lo.trans (lo_hash h hb)) (fun _ g => by
      have := hd g
      unfold nlP at this
      simpa using this)
    refine ⟨m, e, h1, h2, h3, h4, h5, fun g => ?_⟩
    obtain ⟨g1, g2, g3⟩ := h6 g
    rw [← nl_cut (z := z) (E := e) (i := i) (by omega) h3 g1] at g3
    exact ⟨by omega, g2, Sc.hash i l _ (by rw [cut_size z e h3]; omega) (by rw [cut_bt z e i (by omega)]; exact hb) g3⟩
  | tok i l r h hb hh he k ih =>
    intro a o hi lo ho
    have hl := tok_len h he
    obtain ⟨n, n1, n2, n3, n4, n5, n6⟩ := tok_ok (z.extract i z.size) (by rw [ext_size]; omega) he
    rw [ext_size] at n2
    have hn : (tokA (z.extract i z.size)).2.1.size = n := by rw [n3, ext_size, ext_size]; omega
    have ho' : o = false := by
      cases o with
      | false => rfl
      | true => have := ho rfl h; rw [this] at hb; exact absurd hb (by decide)
    subst ho'
    rw [hn] at ih k hl
    obtain ⟨m, e, h1, h2, h3, h4, h5, h6⟩ := ih (i + n) false (by omega) (Lo.nil _ _) (fun g => by cases g)
    have le := h2.le
    have ht : (tokA (z.extract i z.size)).2.1 = z.extract i (i + n) := by
      rw [n3, ext_ext]; congr 1; omega
    refine ⟨mkT (tokA (z.extract i z.size)) i :: m, e, by rw [h1, List.append_assoc]; rfl, TL.cons _ _ _ i n e lo.le lo n1 (by omega) ht rfl h2, h3, h4, h5, fun _ => ?_⟩
    have hcut : Bd z e → tokA ((z.extract 0 e).extract i (z.extract 0 e).size) = tokA (z.extract i z.size) := fun bd =>
      cut_tok z e i (by omega) h3 bd (fun g => by have := n5 g; omega) (fun g1 g2 g3 => by have := n6 (by rw [ext_size]; omega) g3; omega)
    have fin : Bd z e → Sc (z.extract 0 e) (i + n) (l ++ [mkT (tokA (z.extract i z.size)) i]) (l ++ (mkT (tokA (z.extract i z.size)) i :: m), 0, 0) → Sc (z.extract 0 e) i l (l ++ (mkT (tokA (z.extract i z.size)) i :: m), 0, 0) := fun bd g => by
      refine Sc.tok i l _ (by rw [cut_size z e h3]; omega) (by rw [cut_bt z e i (by omega)]; exact hb) (by rw [cut_bt z e i (by omega)]; exact hh) (by rw [hcut bd]; exact he) ?_
      rw [hcut bd, hn]; exact g
    have two : l ++ (mkT (tokA (z.extract i z.size)) i :: m) = (l ++ [mkT (tokA (z.extract i z.size)) i]) ++ m := by rw [List.append_assoc]; rfl
    cases m with
    | nil =>
      cases h2
      have bd : Bd z (i + n) := by
        intro g1 g2
        have := n4 (by rw [ext_size]; omega)
        rw [bt_ext z i z.size (n - 1) (by omega), bt_ext z i z.size n (by omega), show i + (n - 1) = i + n - 1 by omega] at this
        exact this g2
      refine ⟨by omega, bd, fin bd ?_⟩
      exact Sc.done (i + n) _ (cut_size z (i + n) h3).symm
    | cons u m =>
      obtain ⟨g1, g2, g3⟩ := h6 (by simp)
      refine ⟨by omega, g2, fin g2 ?_⟩
      rw [two]; exact g3
  | err i l h hb hh he =>
    intro a o hi lo ho
    have g := tok_err (z.extract i z.size) (by rw [ext_size]; omega) he
    rw [ext_size] at g
    have := lo.le
    exact ⟨[], a, by simp, TL.nil a, by omega, fun q => absurd q he, fun _ => by show (a : Int) ≤ (i : Int) + _ ∧ (i : Int) + _ < _; omega, fun q => absurd rfl q⟩
theorem big_scan' (x : ByteArray) (hx : (x.size : Int) > 65536) : Ev (fun k => lex_Scan.f k x) (([] : List S32), 0, 6) := by
  unfold lex_Scan.f
  exact Ev.pos hx (Ev.ret rfl)

end Go.Proofs.YtkfdninngcakpaaDoor.Pure
