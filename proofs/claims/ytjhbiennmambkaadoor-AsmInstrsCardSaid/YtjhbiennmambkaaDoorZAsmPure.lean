/- Own text, for this claim: copyProgram and same: plain laws. -/
import Derived.Test.YtjhbiennmambkaaDoorZAsmPIm
import Derived.Test.YtjhbiennmambkaaDoorZQAsmCopy
import Derived.Test.YtjhbiennmambkaaDoorZQAsmSame
import Derived.Test.YtjhbiennmambkaaDoorZAsmLeft
namespace Go.Proofs.YtjhbiennmambkaaDoor.Pure
open Go.RowKit Go.Proofs.YtjhbiennmambkaaDoorW.PrintWords Go.Proofs.YtjhbiennmambkaaDoorW.PrintLast Go.Proofs.YtjhbiennmambkaaDoorW.PrintMore Go.Proofs.YtjhbiennmambkaaDoor.PAsmInstrs Go.Proofs.YtjhbiennmambkaaDoor.PAsm
set_option linter.unusedVariables false
set_option linter.unusedSimpArgs false
theorem wn1 (i : Nat) (h : i ≤ 9223372036854775806) : wrap64 ((i : Int) + 1) = ((i + 1 : Nat) : Int) := by rw [w64 (by omega)]; omega
theorem sameTexts_ev (l : List ByteArray) (hl : l.length ≤ 9223372036854775806) : Ev (fun k => payofflaw13_sameTexts.f k l l) true := by
 have key : ∀ d i : Nat, i + d = l.length → Ev (fun k => payofflaw13_sameTexts.l0 k l l (i : Int)) true := by
  intro d
  induction d with
  | zero => intro i h; exact Ev.step (fun k => payofflaw13_sameTexts.l0.eq_2 ..) (Ev.neg (by omega) (Ev.ret rfl))
  | succ d ih =>
   intro i h
   refine Ev.step (fun k => payofflaw13_sameTexts.l0.eq_2 ..) (Ev.pos (by omega) (Ev.pos (by omega) (Ev.pos (by omega) (Ev.pos rfl ?_))))
   rw [wn1 i (by omega)]
   exact ih (i + 1) (by omega)
 exact Ev.pos rfl (key l.length 0 (by omega))
theorem sameInts_ev (l : List Int) (hl : l.length ≤ 9223372036854775806) : Ev (fun k => payofflaw13_sameInts.f k l l) true := by
 have key : ∀ d i : Nat, i + d = l.length → Ev (fun k => payofflaw13_sameInts.l0 k l l (i : Int)) true := by
  intro d
  induction d with
  | zero => intro i h; exact Ev.step (fun k => payofflaw13_sameInts.l0.eq_2 ..) (Ev.neg (by omega) (Ev.ret rfl))
  | succ d ih =>
   intro i h
   refine Ev.step (fun k => payofflaw13_sameInts.l0.eq_2 ..) (Ev.pos (by omega) (Ev.pos (by omega) (Ev.pos (by omega) (Ev.pos rfl ?_))))
   rw [wn1 i (by omega)]
   exact ih (i + 1) (by omega)
 exact Ev.pos rfl (key l.length 0 (by omega))
theorem sameCode_ev (l : List S28) (hl : l.length ≤ 9223372036854775806) : Ev (fun k => payofflaw13_sameCode.f k l l) true := by
 have key : ∀ d i : Nat, i + d = l.length → Ev (fun k => payofflaw13_sameCode.l0 k l l (i : Int)) true := by
  intro d
  induction d with
  | zero => intro i h; exact Ev.step (fun k => payofflaw13_sameCode.l0.eq_2 ..) (Ev.neg (by omega) (Ev.ret rfl))
  | succ d ih =>
   intro i h
   refine Ev.step (fun k => payofflaw13_sameCode.l0.eq_2 ..) (Ev.pos (by omega) (Ev.pos (by omega) (Ev.pos (by omega) (Ev.neg (by simp) ?_))))
   rw [wn1 i (by omega)]
   exact ih (i + 1) (by omega)
 exact Ev.pos rfl (key l.length 0 (by omega))
theorem rdT_mem {l : List S39} {i : Nat} (h : i < l.length) : rd_T39 l (i : Int) ∈ l := by
 unfold rd_T39
 rw [Int.toNat_natCast, List.getD_eq_getElem?_getD, List.getElem?_eq_getElem h]
 exact List.getElem_mem h
theorem same_ev (l0 l1 : List ByteArray) (l2 : List Int) (a3 a4 a5 a6 : Int) (l7 : List S39) (h0 : l0.length ≤ 9223372036854775806) (h1 : l1.length ≤ 9223372036854775806) (h2 : l2.length ≤ 9223372036854775806) (h7 : l7.length ≤ 9223372036854775806) (hc : ∀ x ∈ l7, x.f1.length ≤ 9223372036854775806) :
  Ev (fun k => payofflaw13_same.f k l0 l1 l2 a3 a4 a5 a6 l7 l0 l1 l2 a3 a4 a5 a6 l7) true := by
 have key : ∀ d i : Nat, i + d = l7.length → Ev (fun k => payofflaw13_same.l0 k (i : Int) l0 l1 l2 a3 a4 a5 a6 l7 l0 l1 l2 a3 a4 a5 a6 l7) true := by
  intro d
  induction d with
  | zero => intro i h; exact Ev.step (fun k => payofflaw13_same.l0.eq_2 ..) (Ev.neg (by omega) (Ev.ret rfl))
  | succ d ih =>
   intro i h
   refine Ev.step (fun k => payofflaw13_same.l0.eq_2 ..) (Ev.pos (by omega) (Ev.pos (by omega) (Ev.pos (by omega) (Ev.pos rfl (Ev.bind (sameCode_ev _ (hc _ (rdT_mem (by omega)))) (Ev.pos rfl ?_))))))
   rw [wn1 i (by omega)]
   exact ih (i + 1) (by omega)
 unfold payofflaw13_same.f
 refine Ev.bind (sameTexts_ev l0 h0) (Ev.pos rfl (Ev.bind (sameTexts_ev l1 h1) (Ev.pos rfl (Ev.bind (sameInts_ev l2 h2) (Ev.pos rfl (Ev.pos rfl (Ev.pos rfl (Ev.pos rfl (Ev.pos rfl ?_)))))))))
 rw [show ((l7.length : Int) != (l7.length : Int)) = false from bne_eq_false_iff_eq.mpr rfl]
 exact Ev.step (fun k => payofflaw13_same.j0.eq_2 ..) (Ev.neg (by decide) (key l7.length 0 (by omega)))
def segM (x : S39) : S39 := ⟨x.f0, x.f1 ++ [mI, mI]⟩
theorem copy_ev (l0 l1 : List ByteArray) (l2 : List Int) (a3 a4 a5 a6 : Int) (l7 : List S39) (h0 : l0.length + 2 < 8796093022208) (h1 : l1.length + 2 < 8796093022208) (h2 : l2.length + 2 < 17592186044416) (h7 : l7.length + 2 < 4398046511104) (hc : ∀ x ∈ l7, x.f1.length + 2 < 5864062014805) :
  Ev (fun k => payofflaw13_copyProgram.f k l0 l1 l2 a3 a4 a5 a6 l7) (l0 ++ [mN, mN], l1 ++ [mN, mN], l2 ++ [-77, -77], a3, a4, a5, a6, l7.map segM ++ [mD, mD]) := by
 have key : ∀ d i : Nat, ∀ x4 : List S39, i + d = l7.length → x4 = (l7.take i).map segM → Ev (fun k => payofflaw13_copyProgram.l0 k x4 (i : Int) (l0 ++ [mN, mN]) (l1 ++ [mN, mN]) (l2 ++ [-77, -77]) a3 a4 a5 a6 l7) (l0 ++ [mN, mN], l1 ++ [mN, mN], l2 ++ [-77, -77], a3, a4, a5, a6, l7.map segM ++ [mD, mD]) := by
  intro d
  induction d with
  | zero =>
   intro i x4 h hx
   have e : x4 = l7.map segM := by rw [hx, List.take_of_length_le (by omega)]
   subst e
   refine Ev.step (fun k => payofflaw13_copyProgram.l0.eq_2 ..) (Ev.neg (by omega) (Ev.call rfl (Ev.pos ?_ (Ev.call rfl (Ev.pos (by omega) (Ev.pos ?_ (Ev.ret rfl)))))))
   ·show (l7.map segM).length + 2 < _; rw [List.length_map]; omega
   ·rw [List.length_append, List.length_map]; omega
  | succ d ih =>
   intro i x4 h hx
   have hi : i < l7.length := by omega
   have hr := hc _ (rdT_mem hi)
   have hxl : x4.length = i := by rw [hx, List.length_map, List.length_take]; omega
   refine Ev.step (fun k => payofflaw13_copyProgram.l0.eq_2 ..) (Ev.pos (by omega) (Ev.pos (by omega) (Ev.call rfl (Ev.pos ?_ (Ev.call rfl (Ev.call rfl (Ev.pos ?_ (Ev.call rfl (Ev.pos (by omega) (Ev.pos ?_ (Ev.pos (by omega) ?_)))))))))))
   ·show 0 + _ < _; omega
   ·show ([] ++ (rd_T39 l7 (i : Int)).f1).length + 2 < _; rw [List.nil_append]; omega
   ·rw [List.length_append, List.nil_append]; omega
   ·rw [wn1 i (by omega)]
    refine ih (i + 1) _ (by omega) ?_
    have hg : rd_T39 l7 (i : Int) = l7[i] := by
     unfold rd_T39
     rw [Int.toNat_natCast, List.getD_eq_getElem?_getD, List.getElem?_eq_getElem hi]
     rfl
    rw [hx, List.take_add_one, List.getElem?_eq_getElem hi, hg, List.map_append]
    rfl
 unfold payofflaw13_copyProgram.f
 refine Ev.call rfl (Ev.pos ?_ (Ev.call rfl (Ev.call rfl (Ev.pos ?_ (Ev.call rfl (Ev.pos (by omega) (Ev.pos ?_ (Ev.call rfl (Ev.pos ?_ (Ev.call rfl (Ev.call rfl (Ev.pos ?_ (Ev.call rfl (Ev.pos (by omega) (Ev.pos ?_ (Ev.call rfl (Ev.pos ?_ (Ev.call rfl (Ev.call rfl (Ev.pos ?_ (Ev.call rfl (Ev.pos (by omega) (Ev.pos ?_ ?_)))))))))))))))))))))))
 ·show 0 + _ < _; omega
 ·show ([] ++ l0).length + 2 < _; rw [List.nil_append]; omega
 ·rw [List.length_append, List.nil_append]; omega
 ·show 0 + _ < _; omega
 ·show ([] ++ l1).length + 2 < _; rw [List.nil_append]; omega
 ·rw [List.length_append, List.nil_append]; omega
 ·show 0 + _ < _; omega
 ·show ([] ++ l2).length + 2 < _; rw [List.nil_append]; omega
 ·rw [List.length_append, List.nil_append]; omega
 ·exact key l7.length 0 [] (by omega) (by simp)
end Go.Proofs.YtjhbiennmambkaaDoor.Pure
