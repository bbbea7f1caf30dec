/- Own text, for this claim: what the listed package variables hold for the reading of a table (the powers of ten, the two errors of strconv, the mark behind lists), as it stands in any world behind the first. -/
import Derived.Test.YtppojbafagneeaaDoorZTabSh
namespace Go.Proofs.YtppojbafagneeaaDoor.Pure
open Go.RowKit Go.ChangeShapes Go.WideShapes Go.ChangeAt Go.Proofs.YtppojbafagneeaaDoorW.PrintWords
set_option linter.unusedVariables false
set_option linter.unusedSimpArgs false
structure GR (w : World) : Prop where
 gp : GP w
 rng : ∃ tp p, w.var? Tryd.prog "strconv.ErrRange" = some #[.iface tp p]
 syn : ∃ tp p, w.var? Tryd.prog "strconv.ErrSyntax" = some #[.iface tp p]
theorem GR.below {w w1 : World} (h : GR w) (hb : Below w.heap.size w w1) : GR w1 :=
 ⟨h.gp.below hb, h.rng.imp fun _ ⟨p, hp⟩ => ⟨p, var_below hp hb⟩, h.syn.imp fun _ ⟨p, hp⟩ => ⟨p, var_below hp hb⟩⟩
structure GB (w : World) : Prop where
 gr : GR w
 beh : Gl w
theorem GB.below {w w1 : World} (h : GB w) (hb : Below w.heap.size w w1) : GB w1 := ⟨h.gr.below hb, h.beh.below hb⟩
theorem gES : Tryd.prog.globalNamed "strconv.ErrSyntax" = some 2 := by kernel_rfl
theorem gER : Tryd.prog.globalNamed "strconv.ErrRange" = some 3 := by kernel_rfl
theorem tES : (Tryd.prog.globals[2]?).map (·.type) = some 89 := by kernel_rfl
theorem tER : (Tryd.prog.globals[3]?).map (·.type) = some 89 := by kernel_rfl
theorem starE : "*" ++ "errors.errorString" = "*errors.errorString" := by decide
theorem rowE (u : TypeId) (h : Tryd.prog.typeName? 3 u = some "*errors.errorString") : u = 191 :=
 typeName_ptr_named (nm := "errors.errorString") (by rw [starE]; kernel_rfl) (by kernel_rfl) (by decide) u (by rw [starE]; exact h)
theorem cellsE : Tryd.prog.cellsOf 193 = 1 := by kernel_rfl
theorem cellsS : Tryd.prog.cellsOf 9 = 1 := by kernel_rfl
theorem undE : ∃ f : Field, Tryd.prog.underlying 193 = some (.struct #[f]) ∧ f.type = 9 ∧ f.offset = 0 := ⟨_, Tryd.underlying193, rfl, rfl⟩
abbrev laidL8 : List (String × DataW Unit) := [("math/bits.deBruijn32tab", Rows.laid_math_bits_deBruijn32tab), ("math/bits.deBruijn64tab", Rows.laid_math_bits_deBruijn64tab), ("internal/strconv.uint64pow10", Rows.laid_internal_strconv_uint64pow10), ("unicode/utf8.acceptRanges", Rows.laid_unicode_utf8_acceptRanges), ("strconv.ErrRange", Rows.laid_strconv_ErrRange), ("strconv.ErrSyntax", Rows.laid_strconv_ErrSyntax), ("payoff/payofflaw05.behind", Rows.laid_payoff_payofflaw05_behind), ("unicode/utf8.first", Rows.laid_unicode_utf8_first)]
theorem GR.of_tail {W : World} {rest : List (String × DataW Unit)} (h2 : laidMet Tryd.prog (("internal/strconv.uint64pow10", Rows.laid_internal_strconv_uint64pow10) :: ("unicode/utf8.acceptRanges", Rows.laid_unicode_utf8_acceptRanges) :: ("strconv.ErrRange", Rows.laid_strconv_ErrRange) :: ("strconv.ErrSyntax", Rows.laid_strconv_ErrSyntax) :: rest) W) : GR W := by
 have h3 := h2.tail
 have h4 := h3.tail
 have h5 := h4.tail
 obtain ⟨f, hf1, hf2, hf3⟩ := undE
 refine ⟨GP.of_head h2, ?_, ?_⟩
 ·obtain ⟨a, s, hv, -⟩ := laid_sentinel h4 gER tER Tryd.underlying89 rowE Tryd.underlying191 hf1 hf2 hf3 Tryd.underlying9 cellsE cellsS
  exact ⟨_, _, hv⟩
 ·obtain ⟨a, s, hv, -⟩ := laid_sentinel h5 gES tES Tryd.underlying89 rowE Tryd.underlying191 hf1 hf2 hf3 Tryd.underlying9 cellsE cellsS
  exact ⟨_, _, hv⟩
theorem of_laid8 {W : World} (h0 : laidMetH Tryd.prog laidL8 W) : GB W := by
 rw [MakeChecks.laidMetH_plain _ _ _ (by kernel_rfl)] at h0
 have h2 := (h0.tail).tail
 exact ⟨GR.of_tail h2, of_head h2.tail.tail.tail.tail⟩
end Go.Proofs.YtppojbafagneeaaDoor.Pure
