/- Own text: LexFirst: what goes wrong first is told, whatever follows behind a line's end; what goes well goes on; no condition but that the listed package variables stand. -/
import Derived.Test.YtkfdninngcakpaaDoorLexScanP
import Derived.Test.YtkfdninngcakpaaDoorQLexFirst
namespace Go.Proofs.YtkfdninngcakpaaDoor.Pure
open Go.RowKit Go.Proofs.YtkfdninngcakpaaDoor.PLex Go.Proofs.YtkfdninngcakpaaDoorW.PrintWords Go.Proofs.YtkfdninngcakpaaDoorW.PrintLast Go.Proofs.YtkfdninngcakpaaDoorW.PrintMore
set_option linter.unusedVariables false
set_option linter.unusedSimpArgs false
/-! A text that is cut off -/
theorem cut_size (z : ByteArray) (E : Nat) (hE : E ≤ z.size) : (z.extract 0 E).size = E := by rw [ext_size]; omega
theorem cut_tok (z : ByteArray) (E i : Nat) (hi : i < E) (hE : E ≤ z.size)
    (hB : E < z.size → runB (bt z ((E - 1 : Nat) : Int)) = true → runB (bt z (E : Int)) = false)
    (hD : datedB (z.extract i z.size) = true → 10 ≤ E - i) (hM : E - i = 1 → 1 < z.size - i → ((z.extract i z.size).extract 0 2).toList ∈ KP → False) :
    tokA ((z.extract 0 E).extract i (z.extract 0 E).size) = tokA (z.extract i z.size) := by
  have e1 : (z.extract 0 E).extract i (z.extract 0 E).size = (z.extract i z.size).extract 0 (E - i) := by
    rw [cut_size z E hE, ext_ext, ext_ext]
    congr 1 <;> omega
  have hs : (z.extract i z.size).size = z.size - i := by rw [ext_size]; omega
  rw [e1]
  refine tok_trunc (z.extract i z.size) (E - i) (by omega) (by omega) (fun h hb => ?_) hD (fun h1 h2 => hM h1 (by omega))
  rw [bt_ext z i z.size (E - i) (by omega), show i + (E - i) = E by omega]
  rw [bt_ext z i z.size (E - i - 1) (by omega), show i + (E - i - 1) = E - 1 by omega] at hb
  exact hB (by omega) hb
theorem cut_bt (z : ByteArray) (E i : Nat) (hi : i < E) : bt (z.extract 0 E) (i : Int) = bt z (i : Int) := bt_ext0 z E i hi
theorem cut_nl (z : ByteArray) (E i : Nat) (hi : i ≤ E) (hE : E ≤ z.size) (hz : nlAt (z.extract 0 E) i < E ∨ (E < z.size ∧ bt z (E : Int) = 10) ∨ E = z.size) : nlAt z i = nlAt (z.extract 0 E) i := by
  have hs := cut_size z E hE
  obtain ⟨a, b, c, d⟩ := nl_spec (x := z.extract 0 E) (i := i) (by omega)
  refine span_unique (nl_spec (by omega)) ⟨a, by omega, fun j j1 j2 => ?_, fun h => ?_⟩
  · rw [← cut_bt z E j (by omega)]; exact c j j1 j2
  · by_cases g : nlAt (z.extract 0 E) i < E
    · rw [← cut_bt z E _ g]; exact d (by omega)
    · have e : nlAt (z.extract 0 E) i = E := by omega
      rw [e] at h ⊢
      rcases hz with q | q | q
      · omega
      · rw [q.2]; decide
      · omega

theorem first_tok (z : ByteArray) (E i : Nat) (hi : i < E) (hE : E < z.size) (hz : bt z (E : Int) = 10) : tokA ((z.extract 0 E).extract i (z.extract 0 E).size) = tokA (z.extract i z.size) := by
  refine cut_tok z E i hi (by omega) (fun _ _ => by rw [hz]; decide) (fun h => ?_) (fun h1 h2 h3 => ?_)
  · rcases Nat.lt_or_ge (E - i) 10 with g | g
    · exfalso
      have f := (dated_parts h).2.2
      have := form_at _ 10 0 f (E - i) (by omega) (by omega)
      rw [okD, bt_ext z i z.size (E - i) (by omega), show i + (E - i) = E by omega, hz] at this
      split at this
      · exact absurd this (by decide)
      · exact absurd this (by decide)
    · exact g
  · have := (pair_first (s := z.extract i z.size) (by rw [ext_size]; omega) h3).2.2
    apply this
    show bt (z.extract i z.size) ((1 : Nat) : Int) = 10
    rw [bt_ext z i z.size 1 (by omega), show i + 1 = E by omega, hz]
theorem sc_first (z : ByteArray) (E : Nat) (hE : E < z.size) (hz : bt z (E : Int) = 10) {i : Nat} {l : List S32} {r : List S32 × Int × Int} (h : Sc (z.extract 0 E) i l r) (hi : i ≤ E) :
    (r.2.2 = 0 → ∃ r' m, Sc z i l r' ∧ r'.1 = r.1 ++ m) ∧ (r.2.2 ≠ 0 → Sc z i l r) := by
  have hs := cut_size z E (by omega)
  induction h with
  | done i l h =>
    refine ⟨fun _ => ?_, fun g => absurd rfl g⟩
    obtain ⟨r', hr⟩ := sc_total z (z.size - i) i l (by omega) (Nat.le_refl _)
    obtain ⟨m, hm⟩ := sc_pre hr
    exact ⟨r', m, hr, hm⟩
  | blank i l r h hb k ih =>
    rw [cut_bt z E i (by omega)] at hb
    obtain ⟨i1, i2⟩ := ih (by omega)
    exact ⟨fun g => by obtain ⟨r', m, g1, g2⟩ := i1 g; exact ⟨r', m, Sc.blank i l r' (by omega) hb g1, g2⟩, fun g => Sc.blank i l r (by omega) hb (i2 g)⟩
  | hash i l r h hb k ih =>
    have hn := nl_gt h hb
    rw [cut_bt z E i (by omega)] at hb
    have e := cut_nl z E i (by omega) (by omega) (.inr (.inl ⟨hE, hz⟩))
    obtain ⟨i1, i2⟩ := ih (by omega)
    rw [← e] at i1 i2
    exact ⟨fun g => by obtain ⟨r', m, g1, g2⟩ := i1 g; exact ⟨r', m, Sc.hash i l r' (by omega) hb g1, g2⟩, fun g => Sc.hash i l r (by omega) hb (i2 g)⟩
  | tok i l r h hb hh he k ih =>
    have ht := first_tok z E i (by omega) hE hz
    have hl := tok_len h he
    rw [cut_bt z E i (by omega)] at hb hh
    rw [ht] at he k ih hl
    obtain ⟨i1, i2⟩ := ih (by omega)
    exact ⟨fun g => by obtain ⟨r', m, g1, g2⟩ := i1 g; exact ⟨r', m, Sc.tok i l r' (by omega) hb hh he g1, g2⟩, fun g => Sc.tok i l r (by omega) hb hh he (i2 g)⟩
  | err i l h hb hh he =>
    have ht := first_tok z E i (by omega) hE hz
    rw [cut_bt z E i (by omega)] at hb hh
    rw [ht] at he ⊢
    exact ⟨fun g => absurd g he, fun _ => Sc.err i l (by omega) hb hh he⟩
theorem app_cut (a b : ByteArray) : (a ++ b).extract 0 a.size = a := by
  apply ba_ext
  rw [ByteArray.data_extract, Array.toList_extract, ByteArray.data_append, Array.toList_append, List.extract_eq_take_drop, List.drop_zero, Nat.sub_zero, ← data_length a, List.take_left]
theorem app_size (a b : ByteArray) : (a ++ b).size = a.size + b.size := by
  rw [← data_length, ← data_length, ← data_length, ByteArray.data_append, Array.toList_append, List.length_append]
theorem app_bt (a b : ByteArray) (i : Nat) : bt (a ++ b) ((a.size + i : Nat) : Int) = bt b (i : Int) := by
  rw [bt_nat, bt_nat, ByteArray.data_append, Array.toList_append, List.getElem?_append_right (by rw [data_length]; omega), data_length, Nat.add_sub_cancel_left]
theorem first_all (a0 a1 : ByteArray) (h0 : a0.size ≤ 140737488351232) (h1 : a1.size ≤ 140737488351232) : Ev (fun k => payofflaw06_LexFirst.f k a0 a1) true := by
  unfold payofflaw06_LexFirst.f
  refine Ev.bind takes_ev (Ev.pos rfl (Ev.pos (by omega) (Ev.pos (by rw [app_size]; show _ + 1 + _ ≤ _; omega) ?_)))
  obtain ⟨z, hz⟩ : ∃ z, z = (a0 ++ (⟨#[10]⟩ : ByteArray)) ++ a1 := ⟨_, rfl⟩
  rw [← hz]
  by_cases hb : (z.size : Int) > 65536
  · exact Ev.pos hb (Ev.ret rfl)
  · refine Ev.neg hb ?_
    have hsz : z.size = a0.size + 1 + a1.size := by rw [hz, app_size, app_size]; rfl
    have hbt : bt z (a0.size : Int) = 10 := by
      rw [hz, ← bt_ext0 _ (a0.size + 1) a0.size (by omega), show a0.size + 1 = (a0 ++ (⟨#[10]⟩ : ByteArray)).size by rw [app_size]; rfl, app_cut]
      exact app_bt a0 ⟨#[10]⟩ 0
    have hx : z.extract 0 a0.size = a0 := by
      have := ext_ext z 0 (a0.size + 1) 0 a0.size
      rw [hz, show (a0 ++ (⟨#[10]⟩ : ByteArray) ++ a1).extract 0 (a0.size + 1) = a0 ++ (⟨#[10]⟩ : ByteArray) by rw [show a0.size + 1 = (a0 ++ (⟨#[10]⟩ : ByteArray)).size by rw [app_size]; rfl]; exact app_cut _ _, app_cut] at this
      rw [show 0 + 0 = 0 from rfl, show min (0 + a0.size) (a0.size + 1) = a0.size by omega] at this
      rw [hz]; exact this.symm
    obtain ⟨r, hr⟩ := sc_total a0 a0.size 0 [] (by omega) (by omega)
    have e1 := scan_ev a0 (by omega) r hr
    have key := sc_first z a0.size (by omega) hbt (i := 0) (l := []) (r := r) (by rw [hx]; exact hr) (by omega)
    have len := sc_len hr (Nat.le_refl _) (Nat.zero_le _)
    refine Ev.bind e1 ?_
    by_cases he : r.2.2 = 0
    · obtain ⟨r', m, g1, g2⟩ := key.1 he
      refine Ev.bind (scan_ev z (by omega) r' g1) (Ev.pos he ?_)
      have hl : r'.1.length = r.1.length + m.length := by rw [g2, List.length_append]
      refine Ev.neg (by omega) (Ev.pos (by omega) (Ev.pos (by omega) ?_))
      rw [Int.toNat_natCast, g2, List.take_left]
      exact Ev.bind (sameT r.1 (by omega)) (Ev.ret rfl)
    · refine Ev.bind (scan_ev z (by omega) r (key.2 he)) (Ev.neg he (Ev.pos rfl (Ev.pos rfl ?_)))
      exact Ev.bind (sameT r.1 (by omega)) (Ev.ret rfl)

theorem LexFirst_walk (a0 a1 : ByteArray) (w : World) (w0 : a0.size ≤ 140737488351232) (w1 : a1.size ≤ 140737488351232) (hL : Gl w) :
    Calls Tryd.prog 5 #[.string a0, .string a1] w fun e w' => e = .returned (.bool true) ∧ Below w.heap.size w w' := by
  obtain ⟨k, h⟩ := (first_all a0 a1 w0 w1).rounds
  exact payofflaw06_LexFirst.calls k a0 a1 true w h hL
end Go.Proofs.YtkfdninngcakpaaDoor.Pure
