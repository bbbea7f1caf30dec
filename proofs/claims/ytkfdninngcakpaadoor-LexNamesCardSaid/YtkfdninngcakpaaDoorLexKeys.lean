/- Own text: the walks of lex.Keyword, Small, Capital. -/
import Derived.Test.YtkfdninngcakpaaDoorLexNamed
import Derived.Test.YtkfdninngcakpaaDoorLexMap
import Derived.Maps.Own
import Derived.Test.YtkfdninngcakpaaDoorWGuard
namespace Go.Proofs.YtkfdninngcakpaaDoor.Pure
open Go.RowKit Go.Maps Go.WideMaps Go.WideElems Go.Proofs.YtkfdninngcakpaaDoor.PLex Go.Proofs.YtkfdninngcakpaaDoorW.PrintWords Go.Proofs.YtkfdninngcakpaaDoorW.PrintLast Go.Proofs.YtkfdninngcakpaaDoorW.PrintMore
set_option linter.unusedVariables false
set_option linter.unusedSimpArgs false
theorem kw_len : ∀ l ∈ KW, 2 ≤ l.length ∧ l.length ≤ 10 := by decide
def kwB (a0 : ByteArray) : Bool := decide (a0.toList ∈ KW)
theorem size_list (a0 : ByteArray) : a0.toList.length = a0.size := by rw [ByteArray.toList_eq]; rfl
set_option maxHeartbeats 8000000 in
set_option maxRecDepth 100000 in
theorem keyword_any (a0 : ByteArray) (w : World) : Calls Tryd.prog 18 #[.string a0] w fun e w' => e = .returned (.bool (kwB a0)) ∧ Below w.heap.size w w' := by
  have HB := Aside0.mk (Below.refl w.heap.size w)
  have KL : Keyed Tryd.prog 9 := string_keyed Tryd.underlying9
  have hz0 : ∀ w : World, (zeroValue 3).run Tryd.prog w = .ok (.int .i64 0) w := fun _ => by kernel_rfl
  obtain ⟨r, hr⟩ : ∃ r, r = kwB a0 := ⟨_, rfl⟩
  rw [← hr]
  have HR := Aside0.mk hr
  clear hr
  go_enter Tryd.func18, Tryd.ntmps18
  by_cases c1 : (a0.size : Int) ≥ 2
  · have c1b0 : decide ((a0.size : Int) ≥ 2) = true := decide_eq_true c1
    have c1b1 : decide (2 ≤ (a0.size : Int)) = true := decide_eq_true c1
    by_cases c2 : (a0.size : Int) ≤ 10
    · have c2b0 : decide ((a0.size : Int) ≤ 10) = true := decide_eq_true c2
      by_cases hm : a0.toList ∈ KW
      · have : r = true := by rw [HR.out, kwB, decide_eq_true hm]
        subst this
        go_wp2_with (first | (go_at_call 28; refine (keywords_any _).mono ?_; rintro e w' ⟨b, rfl, ho, hb⟩; have HO := Aside0.mk ho; have n0_ := Aside0.mk (below_step (by repeat (first | (with_reducible first | exact HB.out | apply below_alloc | apply pw_below_drewN | apply below_drew1) | exact HB.out)) hb); clear HB hb ho; have HB := n0_; clear n0_) | (at_lookup; go_must (refine gate_guard (by rfl) ?_; refine wpList_lookup_own_int _ rfl _ _ 52 rfl 9 3 .i64 KL Tryd.underlying52 Tryd.underlying3 (hz0 _) _ _ _ rfl HO.out _ _ rfl (keyOf_string_mk Tryd.underlying9 (by have := c2; simp [maxLen]; omega)) ?_; intro c hat hwc; rw [wordMap_at _ _ _ isMap_empty, if_pos (by rw [← ByteArray.toList_eq]; exact hm)] at hat; cases hat)))
        go_ret
        exact ⟨rfl, by repeat (first | (with_reducible first | exact HB.out | apply below_alloc | apply pw_below_drewN | apply below_drew1) | exact HB.out)⟩
      · have : r = false := by rw [HR.out, kwB, decide_eq_false hm]
        subst this
        go_wp2_with (first | (go_at_call 28; refine (keywords_any _).mono ?_; rintro e w' ⟨b, rfl, ho, hb⟩; have HO := Aside0.mk ho; have n0_ := Aside0.mk (below_step (by repeat (first | (with_reducible first | exact HB.out | apply below_alloc | apply pw_below_drewN | apply below_drew1) | exact HB.out)) hb); clear HB hb ho; have HB := n0_; clear n0_) | (at_lookup; go_must (refine gate_guard (by rfl) ?_; refine wpList_lookup_own_int _ rfl _ _ 52 rfl 9 3 .i64 KL Tryd.underlying52 Tryd.underlying3 (hz0 _) _ _ _ rfl HO.out _ _ rfl (keyOf_string_mk Tryd.underlying9 (by have := c2; simp [maxLen]; omega)) ?_; intro c hat hwc; rw [wordMap_at _ _ _ isMap_empty, if_neg (by rw [← ByteArray.toList_eq]; exact hm)] at hat; replace hat : DataW.lit (.int .i64 0) = DataW.lit (.int .i64 c) := hat; cases hat)))
        go_ret
        exact ⟨rfl, by repeat (first | (with_reducible first | exact HB.out | apply below_alloc | apply pw_below_drewN | apply below_drew1) | exact HB.out)⟩
    · have c2b0 : decide ((a0.size : Int) ≤ 10) = false := decide_eq_false c2
      have : r = false := by rw [HR.out, kwB, decide_eq_false (fun hm => by have := kw_len _ hm; rw [size_list] at this; omega)]
      subst this
      go_wp2
      go_ret
      exact ⟨rfl, by repeat (first | (with_reducible first | exact HB.out | apply below_alloc | apply pw_below_drewN | apply below_drew1) | exact HB.out)⟩
  · have c1b0 : decide ((a0.size : Int) ≥ 2) = false := decide_eq_false c1
    have c1b1 : decide (2 ≤ (a0.size : Int)) = false := decide_eq_false c1
    have : r = false := by rw [HR.out, kwB, decide_eq_false (fun hm => by have := kw_len _ hm; rw [size_list] at this; omega)]
    subst this
    go_wp2
    go_ret
    exact ⟨rfl, by repeat (first | (with_reducible first | exact HB.out | apply below_alloc | apply pw_below_drewN | apply below_drew1) | exact HB.out)⟩
theorem keyword_is (a0 : ByteArray) (b : Bool) (hb : kwB a0 = b) (w : World) : Calls Tryd.prog 18 #[.string a0] w fun e w' => e = .returned (.bool b) ∧ Below w.heap.size w w' := hb ▸ keyword_any a0 w
theorem named_small_is (a0 : ByteArray) (b : Bool) (hb : nameB smallB a0 = b) (w : World) : Calls Tryd.prog 25 #[.string a0, .func (.func 26) #[] #[]] w fun e w' => e = .returned (.bool b) ∧ Drawn0 w w' := hb ▸ named_small a0 w
theorem named_big_is (a0 : ByteArray) (b : Bool) (hb : nameB bigB a0 = b) (w : World) : Calls Tryd.prog 25 #[.string a0, .func (.func 27) #[] #[]] w fun e w' => e = .returned (.bool b) ∧ Drawn0 w w' := hb ▸ named_big a0 w
set_option maxHeartbeats 8000000 in
set_option maxRecDepth 100000 in
theorem smallname_any (a0 : ByteArray) (w : World) : Calls Tryd.prog 15 #[.string a0] w fun e w' => e = .returned (.bool (nameB smallB a0 && !kwB a0)) ∧ Below w.heap.size w w' := by
  have HB := Aside0.mk (Below.refl w.heap.size w)
  obtain ⟨r, hr⟩ : ∃ r, r = (nameB smallB a0 && !kwB a0) := ⟨_, rfl⟩
  rw [← hr]
  have HR := Aside0.mk hr
  clear hr
  go_enter Tryd.func15, Tryd.ntmps15
  cases h1 : nameB smallB a0 with
  | false =>
    have : r = false := by rw [HR.out, h1]; rfl
    subst this
    go_wp2_with (first | (go_at_call 25; refine (named_small_is a0 _ h1 _).mono ?_; rintro e w' ⟨rfl, ⟨nd, rfl⟩⟩))
    go_ret
    exact ⟨rfl, by repeat (first | (with_reducible first | exact HB.out | apply below_alloc | apply pw_below_drewN | apply below_drew1) | exact HB.out)⟩
  | true =>
    cases h2 : kwB a0 with
    | false =>
      have : r = true := by rw [HR.out, h1, h2]; rfl
      subst this
      go_wp2_with (first | (go_at_call 25; refine (named_small_is a0 _ h1 _).mono ?_; rintro e w' ⟨rfl, ⟨nd, rfl⟩⟩) | (go_at_call 18; refine (keyword_is a0 _ h2 _).mono ?_; rintro e w' ⟨rfl, hb⟩; have n0_ := Aside0.mk (below_step (by repeat (first | (with_reducible first | exact HB.out | apply below_alloc | apply pw_below_drewN | apply below_drew1) | exact HB.out)) hb); clear HB hb; have HB := n0_; clear n0_))
      go_ret
      exact ⟨rfl, by repeat (first | (with_reducible first | exact HB.out | apply below_alloc | apply pw_below_drewN | apply below_drew1) | exact HB.out)⟩
    | true =>
      have : r = false := by rw [HR.out, h1, h2]; rfl
      subst this
      go_wp2_with (first | (go_at_call 25; refine (named_small_is a0 _ h1 _).mono ?_; rintro e w' ⟨rfl, ⟨nd, rfl⟩⟩) | (go_at_call 18; refine (keyword_is a0 _ h2 _).mono ?_; rintro e w' ⟨rfl, hb⟩; have n0_ := Aside0.mk (below_step (by repeat (first | (with_reducible first | exact HB.out | apply below_alloc | apply pw_below_drewN | apply below_drew1) | exact HB.out)) hb); clear HB hb; have HB := n0_; clear n0_))
      go_ret
      exact ⟨rfl, by repeat (first | (with_reducible first | exact HB.out | apply below_alloc | apply pw_below_drewN | apply below_drew1) | exact HB.out)⟩
set_option maxHeartbeats 8000000 in
set_option maxRecDepth 100000 in
theorem capital_any (a0 : ByteArray) (w : World) : Calls Tryd.prog 16 #[.string a0] w fun e w' => e = .returned (.bool (nameB bigB a0)) ∧ Below w.heap.size w w' := by
  have HB := Aside0.mk (Below.refl w.heap.size w)
  go_enter Tryd.func16, Tryd.ntmps16
  go_wp2_with (first | (go_at_call 25; refine (named_big_is a0 _ rfl _).mono ?_; rintro e w' ⟨rfl, ⟨nd, rfl⟩⟩))
  go_ret
  exact ⟨rfl, by repeat (first | (with_reducible first | exact HB.out | apply below_alloc | apply pw_below_drewN | apply below_drew1) | exact HB.out)⟩
end Go.Proofs.YtkfdninngcakpaaDoor.Pure
namespace Go.Proofs.YtkfdninngcakpaaDoor.PLex
open Go.RowKit Go.Proofs.YtkfdninngcakpaaDoorW.PrintWords Go.Proofs.YtkfdninngcakpaaDoorW.PrintLast Go.Proofs.YtkfdninngcakpaaDoorW.PrintMore
set_option linter.unusedVariables false
set_option linter.unusedSimpArgs false
def lex_Keyword.f (a0 : ByteArray) : Option (Bool) := some (Pure.kwB a0)
theorem lex_Keyword.calls (a0 : ByteArray) (r : Bool) (w : World) (h : lex_Keyword.f a0 = some r) :
    Calls Tryd.prog 18 #[.string a0] w fun e w' => e = .returned (.bool r) ∧ Below w.heap.size w w' := by
  obtain rfl := Option.some.inj h; exact Pure.keyword_any a0 w
def lex_Small.f (a0 : ByteArray) : Option (Bool) := some (Pure.nameB Pure.smallB a0 && !Pure.kwB a0)
theorem lex_Small.calls (a0 : ByteArray) (r : Bool) (w : World) (h : lex_Small.f a0 = some r) :
    Calls Tryd.prog 15 #[.string a0] w fun e w' => e = .returned (.bool r) ∧ Below w.heap.size w w' := by
  obtain rfl := Option.some.inj h; exact Pure.smallname_any a0 w
def lex_Capital.f (a0 : ByteArray) : Option (Bool) := some (Pure.nameB Pure.bigB a0)
theorem lex_Capital.calls (a0 : ByteArray) (r : Bool) (w : World) (h : lex_Capital.f a0 = some r) :
    Calls Tryd.prog 16 #[.string a0] w fun e w' => e = .returned (.bool r) ∧ Below w.heap.size w w' := by
  obtain rfl := Option.some.inj h; exact Pure.capital_any a0 w
end Go.Proofs.YtkfdninngcakpaaDoor.PLex
