/- Own text, for this claim: what the listed package variables hold (the months' lengths, the powers of ten, the two errors of strconv), as it stands in any world behind the first. -/
import Derived.Test.YtkfdninngcakpaaDoorRows
import Derived.Test.YtkfdninngcakpaaDoorZW
import Derived.ProofKit
import Derived.LaidMore
import Derived.Stop.Joined
import Derived.Stop.LaidErr
import Derived.Lib.LaidTab
import Derived.Lib.ItoaNum
namespace Go.Proofs.YtkfdninngcakpaaDoor.Pure
open Go.RowKit Go.ChangeShapes Go.WideShapes Go.ChangeAt Go.Proofs.YtkfdninngcakpaaDoorW.PrintWords
set_option linter.unusedVariables false
set_option linter.unusedSimpArgs false
def monthsL : List Int := [31, 28, 31, 30, 31, 30, 31, 31, 30, 31, 30, 31]
structure Gl (w : World) : Prop where
 months : Lib.TabIs Tryd.prog w "payoff/cal.months" .i64 monthsL
 pow : Lib.TabIs Tryd.prog w "internal/strconv.uint64pow10" .u64 Lib.pow10Tab
 rng : ∃ tp p, w.var? Tryd.prog "strconv.ErrRange" = some #[.iface tp p]
 syn : ∃ tp p, w.var? Tryd.prog "strconv.ErrSyntax" = some #[.iface tp p]
theorem var_below {P : Program} {w w1 : World} {n : String} {cs : Array Value} (h : w.var? P n = some cs) (hb : Below w.heap.size w w1) : w1.var? P n = some cs := by
 unfold World.var? at h ⊢
 cases hg : P.globalNamed n with
 | none => simp [hg] at h
 | some g =>
  simp only [hg, Option.bind_some] at h ⊢
  have hlt : g < w.heap.size := by
   rcases Nat.lt_or_ge g w.heap.size with h' | h'
   ·exact h'
   ·simp [Array.getElem?_eq_none h'] at h
  rw [hb.block g hlt]; exact h
theorem Gl.below {w w1 : World} (h : Gl w) (hb : Below w.heap.size w w1) : Gl w1 :=
 ⟨var_below h.months hb, var_below h.pow hb, h.rng.imp fun _ ⟨p, hp⟩ => ⟨p, var_below hp hb⟩, h.syn.imp fun _ ⟨p, hp⟩ => ⟨p, var_below hp hb⟩⟩
theorem gES : Tryd.prog.globalNamed "strconv.ErrSyntax" = some 3 := by kernel_rfl
theorem gER : Tryd.prog.globalNamed "strconv.ErrRange" = some 4 := by kernel_rfl
theorem gMon : Tryd.prog.globalNamed "payoff/cal.months" = some 0 := by kernel_rfl
theorem gPow : Tryd.prog.globalNamed "internal/strconv.uint64pow10" = some 1 := by kernel_rfl
theorem tES : (Tryd.prog.globals[3]?).map (·.type) = some 71 := by kernel_rfl
theorem tER : (Tryd.prog.globals[4]?).map (·.type) = some 71 := by kernel_rfl
theorem tMon : (Tryd.prog.globals[0]?).map (·.type) = some 89 := by kernel_rfl
theorem tPow : (Tryd.prog.globals[1]?).map (·.type) = some 107 := by kernel_rfl
theorem starE : "*" ++ "errors.errorString" = "*errors.errorString" := by decide
theorem rowE (u : TypeId) (h : Tryd.prog.typeName? 3 u = some "*errors.errorString") : u = 118 :=
 typeName_ptr_named (nm := "errors.errorString") (by rw [starE]; kernel_rfl) (by kernel_rfl) (by decide) u (by rw [starE]; exact h)
theorem cellsE : Tryd.prog.cellsOf 120 = 1 := by kernel_rfl
theorem cellsS : Tryd.prog.cellsOf 9 = 1 := by kernel_rfl
theorem undE : ∃ f : Field, Tryd.prog.underlying 120 = some (.struct #[f]) ∧ f.type = 9 ∧ f.offset = 0 := ⟨_, Tryd.underlying120, rfl, rfl⟩
abbrev laidL6 : List (String × DataW Unit) := [("math/bits.deBruijn32tab", Rows.laid_math_bits_deBruijn32tab), ("math/bits.deBruijn64tab", Rows.laid_math_bits_deBruijn64tab), ("internal/strconv.uint64pow10", Rows.laid_internal_strconv_uint64pow10), ("payoff/cal.months", Rows.laid_payoff_cal_months), ("strconv.ErrRange", Rows.laid_strconv_ErrRange), ("strconv.ErrSyntax", Rows.laid_strconv_ErrSyntax)]
theorem of_laid {W : World} (h0 : laidMetH Tryd.prog laidL6 W) : Gl W := by
 rw [MakeChecks.laidMetH_plain _ _ _ (by kernel_rfl)] at h0
 have h2 := (h0.tail).tail
 have h3 := h2.tail
 have h4 := h3.tail
 have h5 := h4.tail
 obtain ⟨f, hf1, hf2, hf3⟩ := undE
 refine ⟨?_, ?_, ?_, ?_⟩
 ·exact Lib.tabIs_of_head (t := 89) (e := 3) (n := 12) gMon tMon Tryd.underlying89 Tryd.underlying3 (by kernel_rfl) (by kernel_rfl) (rest := _) h3
 ·exact Lib.tabIs_of_head (t := 107) (e := 84) (n := 20) gPow tPow Tryd.underlying107 Tryd.underlying84 (by kernel_rfl) (by kernel_rfl) (rest := _) h2
 ·obtain ⟨a, s, hv, -⟩ := laid_sentinel h4 gER tER Tryd.underlying71 rowE Tryd.underlying118 hf1 hf2 hf3 Tryd.underlying9 cellsE cellsS
  exact ⟨_, _, hv⟩
 ·obtain ⟨a, s, hv, -⟩ := laid_sentinel h5 gES tES Tryd.underlying71 rowE Tryd.underlying118 hf1 hf2 hf3 Tryd.underlying9 cellsE cellsS
  exact ⟨_, _, hv⟩
theorem Gl.month {w : World} (h : Gl w) (i : Nat) (hi : i < 12) : w.cell? ⟨0, i, none⟩ = some (.int .i64 (monthsL.getD i 0)) := h.months.cell gMon i hi
end Go.Proofs.YtkfdninngcakpaaDoor.Pure
