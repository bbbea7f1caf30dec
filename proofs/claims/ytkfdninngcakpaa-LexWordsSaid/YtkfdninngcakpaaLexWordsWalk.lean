/- Own text: the walk of the law LexWords: true of every text that has room in memory. -/
import Derived.Test.YtkfdninngcakpaaWordsPure
namespace Go.Proofs.Ytkfdninngcakpaa.Pure
open Go.RowKit Go.Maps Go.WideMaps Go.WideElems Go.Proofs.Ytkfdninngcakpaa.PLexWords Go.Proofs.YtkfdninngcakpaaW.PrintWords Go.Proofs.YtkfdninngcakpaaW.PrintLast Go.Proofs.YtkfdninngcakpaaW.PrintMore
set_option linter.unusedVariables false
set_option linter.unusedSimpArgs false
theorem smallname_is (a0 : ByteArray) (b : Bool) (hb : (nameB smallB a0 && !kwB a0) = b) (w : World) : Calls Try.prog 6 #[.string a0] w fun e w' => e = .returned (.bool b) ∧ Below w.heap.size w w' := hb ▸ smallname_any a0 w
theorem capital_is' (a0 : ByteArray) (b : Bool) (hb : nameB bigB a0 = b) (w : World) : Calls Try.prog 8 #[.string a0] w fun e w' => e = .returned (.bool b) ∧ Below w.heap.size w w' := hb ▸ capital_any a0 w
set_option maxHeartbeats 8000000 in
set_option maxRecDepth 100000 in
theorem law_walk (a0 : ByteArray) (w : World) (hs : a0.size ≤ 140737488351232) : Calls Try.prog 3 #[.string a0] w fun e w' => e = .returned (.bool true) ∧ Below w.heap.size w w' := by
  have HB := Aside0.mk (Below.refl w.heap.size w)
  obtain ⟨A, hA⟩ : ∃ A, kwB a0 = A := ⟨_, rfl⟩
  obtain ⟨B, hB⟩ : ∃ B, (nameB smallB a0 && !kwB a0) = B := ⟨_, rfl⟩
  obtain ⟨C, hC⟩ : ∃ C, nameB bigB a0 = C := ⟨_, rfl⟩
  obtain ⟨D, hD⟩ : ∃ D, curB a0 = D := ⟨_, rfl⟩
  obtain ⟨k1, hA'⟩ := (hA ▸ keyword_is' a0 : Ev (fun k => payoffref06_Keyword.f k a0) A).rounds
  obtain ⟨k2, hB'⟩ := (hB ▸ refSmall_is a0 hs : Ev (fun k => payoffref06_Small.f k a0) B).rounds
  obtain ⟨k3, hC'⟩ := (hC ▸ refCapital_is a0 hs : Ev (fun k => payoffref06_Capital.f k a0) C).rounds
  have hD1 : lex_Currency.f a0 = some D := hD ▸ cur_is a0
  have hD2 : payoffref06_Currency.f a0 = some D := hD ▸ refCur_is a0
  have xA := Aside0.mk hA
  have xB := Aside0.mk hB
  have xC := Aside0.mk hC
  have xA' := Aside0.mk hA'
  have xB' := Aside0.mk hB'
  have xC' := Aside0.mk hC'
  have x1 := Aside0.mk hD1
  have x2 := Aside0.mk hD2
  clear hA hB hC hD hA' hB' hC' hD1 hD2
  go_enter Try.func3, Try.ntmps3
  go_wp2_with (first | (go_at_call 4; refine (keyword_is a0 _ xA.out _).mono ?_; rintro e w' ⟨rfl, hb⟩; have n0_ := Aside0.mk (below_step (by repeat (first | (with_reducible first | exact HB.out | apply below_alloc | apply pw_below_drewN | apply below_drew1) | exact HB.out)) hb); clear HB hb; have HB := n0_; clear n0_) | (go_at_call 5; refine (payoffref06_Keyword.calls k1 a0 _ _ xA'.out).mono ?_; rintro e w' ⟨rfl, hb⟩; have n0_ := Aside0.mk (below_step (by repeat (first | (with_reducible first | exact HB.out | apply below_alloc | apply pw_below_drewN | apply below_drew1) | exact HB.out)) hb); clear HB hb; have HB := n0_; clear n0_) | (go_at_call 6; refine (smallname_is a0 _ xB.out _).mono ?_; rintro e w' ⟨rfl, hb⟩; have n0_ := Aside0.mk (below_step (by repeat (first | (with_reducible first | exact HB.out | apply below_alloc | apply pw_below_drewN | apply below_drew1) | exact HB.out)) hb); clear HB hb; have HB := n0_; clear n0_) | (go_at_call 7; refine (payoffref06_Small.calls k2 a0 _ _ xB'.out).mono ?_; rintro e w' ⟨rfl, hb⟩; have n0_ := Aside0.mk (below_step (by repeat (first | (with_reducible first | exact HB.out | apply below_alloc | apply pw_below_drewN | apply below_drew1) | exact HB.out)) hb); clear HB hb; have HB := n0_; clear n0_) | (go_at_call 8; refine (capital_is' a0 _ xC.out _).mono ?_; rintro e w' ⟨rfl, hb⟩; have n0_ := Aside0.mk (below_step (by repeat (first | (with_reducible first | exact HB.out | apply below_alloc | apply pw_below_drewN | apply below_drew1) | exact HB.out)) hb); clear HB hb; have HB := n0_; clear n0_) | (go_at_call 9; refine (payoffref06_Capital.calls k3 a0 _ _ xC'.out).mono ?_; rintro e w' ⟨rfl, hb⟩; have n0_ := Aside0.mk (below_step (by repeat (first | (with_reducible first | exact HB.out | apply below_alloc | apply pw_below_drewN | apply below_drew1) | exact HB.out)) hb); clear HB hb; have HB := n0_; clear n0_) | (go_at_call 10; refine (lex_Currency.calls a0 _ _ x1.out).mono ?_; rintro e w' ⟨rfl, ⟨nd, rfl⟩⟩) | (go_at_call 11; refine (payoffref06_Currency.calls a0 _ _ x2.out).mono ?_; rintro e w' ⟨rfl, ⟨nd, rfl⟩⟩))
  go_ret
  exact ⟨by first | rfl | (simp; done), by repeat (first | (with_reducible first | exact HB.out | apply below_alloc | apply pw_below_drewN | apply below_drew1) | exact HB.out)⟩
end Go.Proofs.Ytkfdninngcakpaa.Pure
