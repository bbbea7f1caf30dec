/- Own text, for this claim: words, marks and dates of the scanner, in the printed callers' form. -/
import Derived.Test.YtkfdninngcakpaaDoorZLexOwn0
import Derived.Test.YtkfdninngcakpaaDoorZLexParse
import Derived.Test.YtkfdninngcakpaaDoorZLexMark
namespace Go.Proofs.YtkfdninngcakpaaDoor.PLex
open Go.RowKit Go.Proofs.YtkfdninngcakpaaDoorW.PrintWords Go.Proofs.YtkfdninngcakpaaDoorW.PrintLast Go.Proofs.YtkfdninngcakpaaDoorW.PrintMore
set_option linter.unusedVariables false
set_option linter.unusedSimpArgs false
def lex_word.f (a0 : ByteArray) (a1 : Int) : Option (Int × ByteArray × Int × Int × Int × Int × Int × Int × Int × Int × Int) :=
 if a0.size ≤ 140737488355328 then some (if a1 = 1 then Pure.wordOf Pure.smallB 1 a0 else Pure.wordOf Pure.bigB 2 a0) else none
theorem lex_word.calls1 (a0 : ByteArray) (a1 : Int) (r1 : Int) (r2 : ByteArray) (r3 : Int) (r4 : Int) (r5 : Int) (r6 : Int) (r7 : Int) (r8 : Int) (r9 : Int) (r10 : Int) (r11 : Int) (w : World) (h : lex_word.f a0 1 = some (r1, r2, r3, r4, r5, r6, r7, r8, r9, r10, r11)) :
  Calls Tryd.prog 38 #[.string a0, .int .i64 1, .func (.func 26) #[] #[]] w fun e w' => e = .returned (.tuple #[.agg #[.int .i64 r1, .string r2, .int .i64 r3, .int .i64 r4, .int .i64 r5, .int .i64 r6, .int .i64 r7, .int .i64 r8, .int .i64 r9], .int .i64 r10, .int .i64 r11]) ∧ Below w.heap.size w w' := by
 unfold lex_word.f at h
 split at h
 ·rename_i hs
  have h' := Option.some.inj h
  refine (Pure.word_small a0 hs w).mono ?_
  rintro e w' ⟨rfl, hb⟩
  rw [if_pos rfl] at h'
  rw [h']
  exact ⟨rfl, hb⟩
 ·cases h
theorem lex_word.calls2 (a0 : ByteArray) (a1 : Int) (r1 : Int) (r2 : ByteArray) (r3 : Int) (r4 : Int) (r5 : Int) (r6 : Int) (r7 : Int) (r8 : Int) (r9 : Int) (r10 : Int) (r11 : Int) (w : World) (h : lex_word.f a0 2 = some (r1, r2, r3, r4, r5, r6, r7, r8, r9, r10, r11)) :
  Calls Tryd.prog 38 #[.string a0, .int .i64 2, .func (.func 27) #[] #[]] w fun e w' => e = .returned (.tuple #[.agg #[.int .i64 r1, .string r2, .int .i64 r3, .int .i64 r4, .int .i64 r5, .int .i64 r6, .int .i64 r7, .int .i64 r8, .int .i64 r9], .int .i64 r10, .int .i64 r11]) ∧ Below w.heap.size w w' := by
 unfold lex_word.f at h
 split at h
 ·rename_i hs
  have h' := Option.some.inj h
  refine (Pure.word_big a0 hs w).mono ?_
  rintro e w' ⟨rfl, hb⟩
  rw [if_neg (by decide)] at h'
  rw [h']
  exact ⟨rfl, hb⟩
 ·cases h
def lex_mark.f (a0 : ByteArray) : Option (Int) := if 0 < a0.size then some (Pure.markOf a0) else none
theorem lex_mark.calls (a0 : ByteArray) (r : Int) (w : World) (h : lex_mark.f a0 = some r) :
  Calls Tryd.prog 39 #[.string a0] w fun e w' => e = .returned (.int .i64 r) ∧ Below w.heap.size w w' := by
 unfold lex_mark.f at h
 split at h
 ·rename_i hs
  obtain rfl := Option.some.inj h
  exact Pure.mark_any a0 (by omega) w
 ·cases h
end Go.Proofs.YtkfdninngcakpaaDoor.PLex
