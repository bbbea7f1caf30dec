/- Own text: what the listed package variables hold for a number's reading (the powers of ten, the two errors of strconv), as it stands in any world behind the first. -/
import Derived.Test.YtogbeegkhgkdaaaDoorTextGl
namespace Go.Proofs.YtogbeegkhgkdaaaDoor.Pure
open Go.RowKit Go.ChangeShapes Go.WideShapes Go.ChangeAt Go.Proofs.YtogbeegkhgkdaaaDoorW.PrintWords
set_option linter.unusedVariables false
set_option linter.unusedSimpArgs false
/-- What the library's variables hold. -/
structure Gl2 (w : World) : Prop where
  gl : Gl w
  rng : ∃ tp p, w.var? Tryd.prog "strconv.ErrRange" = some #[.iface tp p]
  syn : ∃ tp p, w.var? Tryd.prog "strconv.ErrSyntax" = some #[.iface tp p]
theorem Gl2.below {w w1 : World} (h : Gl2 w) (hb : Below w.heap.size w w1) : Gl2 w1 :=
  ⟨h.gl.below hb, h.rng.imp fun _ ⟨p, hp⟩ => ⟨p, var_below hp hb⟩, h.syn.imp fun _ ⟨p, hp⟩ => ⟨p, var_below hp hb⟩⟩
theorem Gl2.belowG {w w1 : World} (h : Gl2 w) (hb : Below w.heap.size w w1) : Gl w1 := (h.below hb).gl
theorem gES : Tryd.prog.globalNamed "strconv.ErrSyntax" = some 0 := by kernel_rfl
theorem gER : Tryd.prog.globalNamed "strconv.ErrRange" = some 1 := by kernel_rfl
theorem tES : (Tryd.prog.globals[0]?).map (·.type) = some 39 := by kernel_rfl
theorem tER : (Tryd.prog.globals[1]?).map (·.type) = some 39 := by kernel_rfl
theorem starE : "*" ++ "errors.errorString" = "*errors.errorString" := by decide
theorem rowE (u : TypeId) (h : Tryd.prog.typeName? 3 u = some "*errors.errorString") : u = 106 :=
  typeName_ptr_named (nm := "errors.errorString") (by rw [starE]; kernel_rfl) (by kernel_rfl) (by decide) u (by rw [starE]; exact h)
theorem cellsE : Tryd.prog.cellsOf 108 = 1 := by kernel_rfl
theorem cellsS : Tryd.prog.cellsOf 9 = 1 := by kernel_rfl
theorem undE : ∃ f : Field, Tryd.prog.underlying 108 = some (.struct #[f]) ∧ f.type = 9 ∧ f.offset = 0 := ⟨_, Tryd.underlying108, rfl, rfl⟩
abbrev laidL7 : List (String × DataW Unit) := [("math/bits.deBruijn32tab", Rows.laid_math_bits_deBruijn32tab), ("math/bits.deBruijn64tab", Rows.laid_math_bits_deBruijn64tab), ("internal/strconv.uint64pow10", Rows.laid_internal_strconv_uint64pow10), ("unicode/utf8.acceptRanges", Rows.laid_unicode_utf8_acceptRanges), ("strconv.ErrRange", Rows.laid_strconv_ErrRange), ("strconv.ErrSyntax", Rows.laid_strconv_ErrSyntax), ("unicode/utf8.first", Rows.laid_unicode_utf8_first)]
theorem of_laid7 {W : World} (h0 : laidMetH Tryd.prog laidL7 W) : Gl2 W := by
  rw [MakeChecks.laidMetH_plain _ _ _ (by kernel_rfl)] at h0
  have h2 := (h0.tail).tail
  have h3 := h2.tail
  have h4 := h3.tail
  have h5 := h4.tail
  obtain ⟨f, hf1, hf2, hf3⟩ := undE
  refine ⟨?_, ?_, ?_⟩
  · exact Lib.tabIs_of_head (t := 102) (e := 70) (n := 20) gPow tPow Tryd.underlying102 Tryd.underlying70 (by kernel_rfl) (by kernel_rfl) (rest := _) h2
  · obtain ⟨a, s, hv, -⟩ := laid_sentinel h4 gER tER Tryd.underlying39 rowE Tryd.underlying106 hf1 hf2 hf3 Tryd.underlying9 cellsE cellsS
    exact ⟨_, _, hv⟩
  · obtain ⟨a, s, hv, -⟩ := laid_sentinel h5 gES tES Tryd.underlying39 rowE Tryd.underlying106 hf1 hf2 hf3 Tryd.underlying9 cellsE cellsS
    exact ⟨_, _, hv⟩
end Go.Proofs.YtogbeegkhgkdaaaDoor.Pure
