/-
  NARROWER THAN 'FOR EVERY INPUT', by the rows' own cells (each row's printed sentence says how): TableAgrees: laid · TableValid: laid · TableBinds: laid · TableLays: laid · TableAsks: laid · TableWrites: laid · TableReads: laid · TableBack: laid · TableRead: laid · TableFirst: laid · TableNumbers: laid · TableLike: laid · TableSays: laid.
  DERIVED. THE GIVEN ROWS OF THIS SEAT. 13 by the template 'for every input the law returns true; each argument reads behind the call as it read before'; 0 by the template 'total and deterministic' (their statements: YtppojbafagneeaaDoorTotals.lean).
  GIVEN WITH THE SEED: the statements are not yours to turn. If you find one false, say at which input.
  Laid BY PROGRAM, IN A SANDBOX (cutbox-rows.mjs): the forced cells as the released guide's own fill.sh prints them over the translation 2ecc2ec6ee58b6bc… (all of the seat's roots in one cut). By AI agents, Wed Nov 11 2026. No macro, syntax, notation, axiom, sorry.
-/
import Derived.Test.YtppojbafagneeaaDoorChecked
import GoSem.PinnedTables
import GoSem.Claim
import GoSem.ClaimJoined
import GoSem.ClaimMapViews
import Derived.JoinedTies
import Derived.KernelRfl
namespace Go.Proofs.YtppojbafagneeaaDoor
/- THE CELL 'sum', in the pinned program and in every row, IS THE sha256 OF THE DUMP (.gsa) THAT YtppojbafagneeaaDoorProg.lean LOADS. Nothing in Lean hashes anything: it is a label: what it is worth is what the hold of that sum in a sandbox is worth. -/
noncomputable def Tryd.pinned : Pinned := { name := "ytppojbafagneeaadoor", sum := "2ecc2ec6ee58b6bc1f6796448e21f7627bf0737ae35e0a80a2fbabac34212d1e", checked := Tryd.checked }
namespace Rows
def none {H : Type} : Left H := { results := [], args := [] }

/- WHAT THE LISTED PACKAGE-LEVEL VARIABLES READ AS WHEN THE CALL BEGINS. Each datum BY PROGRAM (the guide's laid-datum.mjs) off the statement by which the dump's own 'gosem.cut.vars' lays the variable. In a bare row this is a premise. The card (YtppojbafagneeaaDoorCards.lean) ties it to the program's text. -/
def laid_payoff_payofflaw05_behind {H : Type} : DataW H := .agg [.lit (.bool true), .lit (.int .i64 (-77177))]
def laid_payoff_payofflaw05_other {H : Type} : DataW H := .agg [.lit (.bool true), .lit (.int .i64 99)]
def laid_math_bits_deBruijn32tab {H : Type} : DataW H := .agg [.lit (.int .u8 0), .lit (.int .u8 1), .lit (.int .u8 28), .lit (.int .u8 2), .lit (.int .u8 29), .lit (.int .u8 14), .lit (.int .u8 24), .lit (.int .u8 3), .lit (.int .u8 30), .lit (.int .u8 22), .lit (.int .u8 20), .lit (.int .u8 15), .lit (.int .u8 25), .lit (.int .u8 17), .lit (.int .u8 4), .lit (.int .u8 8), .lit (.int .u8 31), .lit (.int .u8 27), .lit (.int .u8 13), .lit (.int .u8 23), .lit (.int .u8 21), .lit (.int .u8 19), .lit (.int .u8 16), .lit (.int .u8 7), .lit (.int .u8 26), .lit (.int .u8 12), .lit (.int .u8 18), .lit (.int .u8 6), .lit (.int .u8 11), .lit (.int .u8 5), .lit (.int .u8 10), .lit (.int .u8 9)]
def laid_math_bits_deBruijn64tab {H : Type} : DataW H := .agg [.lit (.int .u8 0), .lit (.int .u8 1), .lit (.int .u8 56), .lit (.int .u8 2), .lit (.int .u8 57), .lit (.int .u8 49), .lit (.int .u8 28), .lit (.int .u8 3), .lit (.int .u8 61), .lit (.int .u8 58), .lit (.int .u8 42), .lit (.int .u8 50), .lit (.int .u8 38), .lit (.int .u8 29), .lit (.int .u8 17), .lit (.int .u8 4), .lit (.int .u8 62), .lit (.int .u8 47), .lit (.int .u8 59), .lit (.int .u8 36), .lit (.int .u8 45), .lit (.int .u8 43), .lit (.int .u8 51), .lit (.int .u8 22), .lit (.int .u8 53), .lit (.int .u8 39), .lit (.int .u8 33), .lit (.int .u8 30), .lit (.int .u8 24), .lit (.int .u8 18), .lit (.int .u8 12), .lit (.int .u8 5), .lit (.int .u8 63), .lit (.int .u8 55), .lit (.int .u8 48), .lit (.int .u8 27), .lit (.int .u8 60), .lit (.int .u8 41), .lit (.int .u8 37), .lit (.int .u8 16), .lit (.int .u8 46), .lit (.int .u8 35), .lit (.int .u8 44), .lit (.int .u8 21), .lit (.int .u8 52), .lit (.int .u8 32), .lit (.int .u8 23), .lit (.int .u8 11), .lit (.int .u8 54), .lit (.int .u8 26), .lit (.int .u8 40), .lit (.int .u8 15), .lit (.int .u8 34), .lit (.int .u8 20), .lit (.int .u8 31), .lit (.int .u8 10), .lit (.int .u8 25), .lit (.int .u8 14), .lit (.int .u8 19), .lit (.int .u8 9), .lit (.int .u8 13), .lit (.int .u8 8), .lit (.int .u8 7), .lit (.int .u8 6)]
def laid_internal_strconv_uint64pow10 {H : Type} : DataW H := .agg [.lit (.int .u64 1), .lit (.int .u64 10), .lit (.int .u64 100), .lit (.int .u64 1000), .lit (.int .u64 10000), .lit (.int .u64 100000), .lit (.int .u64 1000000), .lit (.int .u64 10000000), .lit (.int .u64 100000000), .lit (.int .u64 1000000000), .lit (.int .u64 10000000000), .lit (.int .u64 100000000000), .lit (.int .u64 1000000000000), .lit (.int .u64 10000000000000), .lit (.int .u64 100000000000000), .lit (.int .u64 1000000000000000), .lit (.int .u64 10000000000000000), .lit (.int .u64 100000000000000000), .lit (.int .u64 1000000000000000000), .lit (.int .u64 10000000000000000000)]
def laid_unicode_utf8_acceptRanges {H : Type} : DataW H := .agg [.agg [.lit (.int .u8 128), .lit (.int .u8 191)], .agg [.lit (.int .u8 160), .lit (.int .u8 191)], .agg [.lit (.int .u8 128), .lit (.int .u8 159)], .agg [.lit (.int .u8 144), .lit (.int .u8 191)], .agg [.lit (.int .u8 128), .lit (.int .u8 143)], .agg [.lit (.int .u8 0), .lit (.int .u8 0)], .agg [.lit (.int .u8 0), .lit (.int .u8 0)], .agg [.lit (.int .u8 0), .lit (.int .u8 0)], .agg [.lit (.int .u8 0), .lit (.int .u8 0)], .agg [.lit (.int .u8 0), .lit (.int .u8 0)], .agg [.lit (.int .u8 0), .lit (.int .u8 0)], .agg [.lit (.int .u8 0), .lit (.int .u8 0)], .agg [.lit (.int .u8 0), .lit (.int .u8 0)], .agg [.lit (.int .u8 0), .lit (.int .u8 0)], .agg [.lit (.int .u8 0), .lit (.int .u8 0)], .agg [.lit (.int .u8 0), .lit (.int .u8 0)]]
def laid_strconv_ErrRange {H : Type} : DataW H := .iface "*errors.errorString" (.ptr (.agg [.lit (.string [118, 97, 108, 117, 101, 32, 111, 117, 116, 32, 111, 102, 32, 114, 97, 110, 103, 101])]))
def laid_strconv_ErrSyntax {H : Type} : DataW H := .iface "*errors.errorString" (.ptr (.agg [.lit (.string [105, 110, 118, 97, 108, 105, 100, 32, 115, 121, 110, 116, 97, 120])]))
/-- One of Go's own tables, pinned by name: the form's constant. -/
def laid_unicode_utf8_first : DataW Unit := Go.Pinned.utf8First

/-- 'payofflaw05.TableAgrees': WHATEVER THE INPUT: true; the input reads as it did. -/
def tableAgreesSpec : ChangeSpec := { name := "tableAgrees", fn := fun _ => fun
  | [d1, d2, d3] => { results := [.lit (.bool true)], args := [d1, d2, d3] }
  | _ => none }
def tableAgreesRow : OpenClaim := { program := "ytppojbafagneeaadoor", sum := "2ecc2ec6ee58b6bc1f6796448e21f7627bf0737ae35e0a80a2fbabac34212d1e", func := "payoff/payofflaw05.TableAgrees", spec := "tableAgrees", named := ["payoff/payofflaw05.behind"], apart := false, laid := [("payoff/payofflaw05.behind", laid_payoff_payofflaw05_behind)] }
def TableAgreesSaid : Prop := tableAgreesRow.holds Tryd.pinned (OpenSpec.ofChange tableAgreesSpec)

/-- ITS FALSE NEIGHBOUR: 'it returns false'. Refute it at one input. -/
def tableAgreesWrong : ChangeSpec := { name := "tableAgrees", fn := fun _ => fun
  | [d1, d2, d3] => { results := [.lit (.bool false)], args := [d1, d2, d3] }
  | _ => none }
def TableAgreesWrongFalsely : Prop := tableAgreesRow.holds Tryd.pinned (OpenSpec.ofChange tableAgreesWrong)

/-- 'payofflaw05.TableValid': WHATEVER THE INPUT: true; the input reads as it did. -/
def tableValidSpec : ChangeSpec := { name := "tableValid", fn := fun _ => fun
  | [d] => { results := [.lit (.bool true)], args := [d] }
  | _ => none }
def tableValidRow : OpenClaim := { program := "ytppojbafagneeaadoor", sum := "2ecc2ec6ee58b6bc1f6796448e21f7627bf0737ae35e0a80a2fbabac34212d1e", func := "payoff/payofflaw05.TableValid", spec := "tableValid", named := ["payoff/payofflaw05.behind"], apart := false, laid := [("payoff/payofflaw05.behind", laid_payoff_payofflaw05_behind)] }
def TableValidSaid : Prop := tableValidRow.holds Tryd.pinned (OpenSpec.ofChange tableValidSpec)

/-- ITS FALSE NEIGHBOUR: 'it returns false'. Refute it at one input. -/
def tableValidWrong : ChangeSpec := { name := "tableValid", fn := fun _ => fun
  | [d] => { results := [.lit (.bool false)], args := [d] }
  | _ => none }
def TableValidWrongFalsely : Prop := tableValidRow.holds Tryd.pinned (OpenSpec.ofChange tableValidWrong)

/-- 'payofflaw05.TableBinds': WHATEVER THE INPUT: true; the input reads as it did. -/
def tableBindsSpec : ChangeSpec := { name := "tableBinds", fn := fun _ => fun
  | [d1, d2, d3] => { results := [.lit (.bool true)], args := [d1, d2, d3] }
  | _ => none }
def tableBindsRow : OpenClaim := { program := "ytppojbafagneeaadoor", sum := "2ecc2ec6ee58b6bc1f6796448e21f7627bf0737ae35e0a80a2fbabac34212d1e", func := "payoff/payofflaw05.TableBinds", spec := "tableBinds", named := ["payoff/payofflaw05.behind", "payoff/payofflaw05.other"], apart := false, laid := [("payoff/payofflaw05.behind", laid_payoff_payofflaw05_behind), ("payoff/payofflaw05.other", laid_payoff_payofflaw05_other)] }
def TableBindsSaid : Prop := tableBindsRow.holds Tryd.pinned (OpenSpec.ofChange tableBindsSpec)

/-- ITS FALSE NEIGHBOUR: 'it returns false'. Refute it at one input. -/
def tableBindsWrong : ChangeSpec := { name := "tableBinds", fn := fun _ => fun
  | [d1, d2, d3] => { results := [.lit (.bool false)], args := [d1, d2, d3] }
  | _ => none }
def TableBindsWrongFalsely : Prop := tableBindsRow.holds Tryd.pinned (OpenSpec.ofChange tableBindsWrong)

/-- 'payofflaw05.TableLays': WHATEVER THE INPUT: true; the input reads as it did. -/
def tableLaysSpec : ChangeSpec := { name := "tableLays", fn := fun _ => fun
  | [d1, d2, d3] => { results := [.lit (.bool true)], args := [d1, d2, d3] }
  | _ => none }
def tableLaysRow : OpenClaim := { program := "ytppojbafagneeaadoor", sum := "2ecc2ec6ee58b6bc1f6796448e21f7627bf0737ae35e0a80a2fbabac34212d1e", func := "payoff/payofflaw05.TableLays", spec := "tableLays", named := ["payoff/payofflaw05.behind", "payoff/payofflaw05.other"], apart := false, laid := [("payoff/payofflaw05.behind", laid_payoff_payofflaw05_behind), ("payoff/payofflaw05.other", laid_payoff_payofflaw05_other)] }
def TableLaysSaid : Prop := tableLaysRow.holds Tryd.pinned (OpenSpec.ofChange tableLaysSpec)

/-- ITS FALSE NEIGHBOUR: 'it returns false'. Refute it at one input. -/
def tableLaysWrong : ChangeSpec := { name := "tableLays", fn := fun _ => fun
  | [d1, d2, d3] => { results := [.lit (.bool false)], args := [d1, d2, d3] }
  | _ => none }
def TableLaysWrongFalsely : Prop := tableLaysRow.holds Tryd.pinned (OpenSpec.ofChange tableLaysWrong)

/-- 'payofflaw05.TableAsks': WHATEVER THE INPUT: true; the input reads as it did. -/
def tableAsksSpec : ChangeSpec := { name := "tableAsks", fn := fun _ => fun
  | [d1, d2, d3] => { results := [.lit (.bool true)], args := [d1, d2, d3] }
  | _ => none }
def tableAsksRow : OpenClaim := { program := "ytppojbafagneeaadoor", sum := "2ecc2ec6ee58b6bc1f6796448e21f7627bf0737ae35e0a80a2fbabac34212d1e", func := "payoff/payofflaw05.TableAsks", spec := "tableAsks", named := ["payoff/payofflaw05.behind", "payoff/payofflaw05.other"], apart := false, laid := [("payoff/payofflaw05.behind", laid_payoff_payofflaw05_behind), ("payoff/payofflaw05.other", laid_payoff_payofflaw05_other)] }
def TableAsksSaid : Prop := tableAsksRow.holds Tryd.pinned (OpenSpec.ofChange tableAsksSpec)

/-- ITS FALSE NEIGHBOUR: 'it returns false'. Refute it at one input. -/
def tableAsksWrong : ChangeSpec := { name := "tableAsks", fn := fun _ => fun
  | [d1, d2, d3] => { results := [.lit (.bool false)], args := [d1, d2, d3] }
  | _ => none }
def TableAsksWrongFalsely : Prop := tableAsksRow.holds Tryd.pinned (OpenSpec.ofChange tableAsksWrong)

/-- 'payofflaw05.TableWrites': WHATEVER THE INPUT: true; the input reads as it did. -/
def tableWritesSpec : ChangeSpec := { name := "tableWrites", fn := fun _ => fun
  | [d] => { results := [.lit (.bool true)], args := [d] }
  | _ => none }
def tableWritesRow : OpenClaim := { program := "ytppojbafagneeaadoor", sum := "2ecc2ec6ee58b6bc1f6796448e21f7627bf0737ae35e0a80a2fbabac34212d1e", func := "payoff/payofflaw05.TableWrites", spec := "tableWrites", inPlace := ["internal/abi.NoEscape", "internal/bytealg.MakeNoZero"], named := ["payoff/payofflaw05.behind", "internal/strconv.uint64pow10", "math/bits.deBruijn32tab", "math/bits.deBruijn64tab"], apart := false, laid := [("math/bits.deBruijn32tab", laid_math_bits_deBruijn32tab), ("math/bits.deBruijn64tab", laid_math_bits_deBruijn64tab), ("internal/strconv.uint64pow10", laid_internal_strconv_uint64pow10), ("payoff/payofflaw05.behind", laid_payoff_payofflaw05_behind)] }
def TableWritesSaid : Prop := tableWritesRow.holds Tryd.pinned (OpenSpec.ofChange tableWritesSpec)

/-- ITS FALSE NEIGHBOUR: 'it returns false'. Refute it at one input. -/
def tableWritesWrong : ChangeSpec := { name := "tableWrites", fn := fun _ => fun
  | [d] => { results := [.lit (.bool false)], args := [d] }
  | _ => none }
def TableWritesWrongFalsely : Prop := tableWritesRow.holds Tryd.pinned (OpenSpec.ofChange tableWritesWrong)

/-- 'payofflaw05.TableReads': WHATEVER THE INPUT: true; the input reads as it did. -/
def tableReadsSpec : ChangeSpec := { name := "tableReads", fn := fun _ => fun
  | [d] => { results := [.lit (.bool true)], args := [d] }
  | _ => none }
def tableReadsRow : OpenClaim := { program := "ytppojbafagneeaadoor", sum := "2ecc2ec6ee58b6bc1f6796448e21f7627bf0737ae35e0a80a2fbabac34212d1e", func := "payoff/payofflaw05.TableReads", spec := "tableReads", inPlace := ["internal/bytealg.IndexByteString", "internal/bytealg.CountString", "internal/bytealg.IndexString", "internal/abi.NoEscape", "internal/bytealg.MakeNoZero"], named := ["internal/bytealg.MaxLen", "unicode/utf8.first", "unicode/utf8.acceptRanges", "strconv.ErrSyntax", "strconv.ErrRange", "internal/strconv.uint64pow10", "math/bits.deBruijn32tab", "math/bits.deBruijn64tab", "payoff/payofflaw05.other"], apart := false, laid := [("math/bits.deBruijn32tab", laid_math_bits_deBruijn32tab), ("math/bits.deBruijn64tab", laid_math_bits_deBruijn64tab), ("internal/strconv.uint64pow10", laid_internal_strconv_uint64pow10), ("unicode/utf8.acceptRanges", laid_unicode_utf8_acceptRanges), ("strconv.ErrRange", laid_strconv_ErrRange), ("strconv.ErrSyntax", laid_strconv_ErrSyntax), ("payoff/payofflaw05.other", laid_payoff_payofflaw05_other), ("unicode/utf8.first", laid_unicode_utf8_first)] }
def TableReadsSaid : Prop := tableReadsRow.holds Tryd.pinned (OpenSpec.ofChange tableReadsSpec)

/-- ITS FALSE NEIGHBOUR: 'it returns false'. Refute it at one input. -/
def tableReadsWrong : ChangeSpec := { name := "tableReads", fn := fun _ => fun
  | [d] => { results := [.lit (.bool false)], args := [d] }
  | _ => none }
def TableReadsWrongFalsely : Prop := tableReadsRow.holds Tryd.pinned (OpenSpec.ofChange tableReadsWrong)

/-- 'payofflaw05.TableBack': WHATEVER THE INPUT: true; the input reads as it did. -/
def tableBackSpec : ChangeSpec := { name := "tableBack", fn := fun _ => fun
  | [d] => { results := [.lit (.bool true)], args := [d] }
  | _ => none }
def tableBackRow : OpenClaim := { program := "ytppojbafagneeaadoor", sum := "2ecc2ec6ee58b6bc1f6796448e21f7627bf0737ae35e0a80a2fbabac34212d1e", func := "payoff/payofflaw05.TableBack", spec := "tableBack", inPlace := ["internal/abi.NoEscape", "internal/bytealg.MakeNoZero", "internal/bytealg.IndexByteString", "internal/bytealg.CountString", "internal/bytealg.IndexString"], named := ["payoff/payofflaw05.behind", "internal/strconv.uint64pow10", "math/bits.deBruijn32tab", "math/bits.deBruijn64tab", "internal/bytealg.MaxLen", "unicode/utf8.first", "unicode/utf8.acceptRanges", "strconv.ErrSyntax", "strconv.ErrRange"], apart := false, laid := [("math/bits.deBruijn32tab", laid_math_bits_deBruijn32tab), ("math/bits.deBruijn64tab", laid_math_bits_deBruijn64tab), ("internal/strconv.uint64pow10", laid_internal_strconv_uint64pow10), ("unicode/utf8.acceptRanges", laid_unicode_utf8_acceptRanges), ("strconv.ErrRange", laid_strconv_ErrRange), ("strconv.ErrSyntax", laid_strconv_ErrSyntax), ("payoff/payofflaw05.behind", laid_payoff_payofflaw05_behind), ("unicode/utf8.first", laid_unicode_utf8_first)] }
def TableBackSaid : Prop := tableBackRow.holds Tryd.pinned (OpenSpec.ofChange tableBackSpec)

/-- ITS FALSE NEIGHBOUR: 'it returns false'. Refute it at one input. -/
def tableBackWrong : ChangeSpec := { name := "tableBack", fn := fun _ => fun
  | [d] => { results := [.lit (.bool false)], args := [d] }
  | _ => none }
def TableBackWrongFalsely : Prop := tableBackRow.holds Tryd.pinned (OpenSpec.ofChange tableBackWrong)

/-- 'payofflaw05.TableRead': WHATEVER THE INPUT: true; the input reads as it did. -/
def tableReadSpec : ChangeSpec := { name := "tableRead", fn := fun _ => fun
  | [d] => { results := [.lit (.bool true)], args := [d] }
  | _ => none }
def tableReadRow : OpenClaim := { program := "ytppojbafagneeaadoor", sum := "2ecc2ec6ee58b6bc1f6796448e21f7627bf0737ae35e0a80a2fbabac34212d1e", func := "payoff/payofflaw05.TableRead", spec := "tableRead", inPlace := ["internal/abi.NoEscape", "internal/bytealg.MakeNoZero", "internal/bytealg.IndexByteString", "internal/bytealg.CountString", "internal/bytealg.IndexString"], named := ["payoff/payofflaw05.behind", "internal/strconv.uint64pow10", "math/bits.deBruijn32tab", "math/bits.deBruijn64tab", "internal/bytealg.MaxLen", "unicode/utf8.first", "unicode/utf8.acceptRanges", "strconv.ErrSyntax", "strconv.ErrRange"], apart := false, laid := [("math/bits.deBruijn32tab", laid_math_bits_deBruijn32tab), ("math/bits.deBruijn64tab", laid_math_bits_deBruijn64tab), ("internal/strconv.uint64pow10", laid_internal_strconv_uint64pow10), ("unicode/utf8.acceptRanges", laid_unicode_utf8_acceptRanges), ("strconv.ErrRange", laid_strconv_ErrRange), ("strconv.ErrSyntax", laid_strconv_ErrSyntax), ("payoff/payofflaw05.behind", laid_payoff_payofflaw05_behind), ("unicode/utf8.first", laid_unicode_utf8_first)] }
def TableReadSaid : Prop := tableReadRow.holds Tryd.pinned (OpenSpec.ofChange tableReadSpec)

/-- ITS FALSE NEIGHBOUR: 'it returns false'. Refute it at one input. -/
def tableReadWrong : ChangeSpec := { name := "tableRead", fn := fun _ => fun
  | [d] => { results := [.lit (.bool false)], args := [d] }
  | _ => none }
def TableReadWrongFalsely : Prop := tableReadRow.holds Tryd.pinned (OpenSpec.ofChange tableReadWrong)

/-- 'payofflaw05.TableFirst': WHATEVER THE INPUT: true; the input reads as it did. -/
def tableFirstSpec : ChangeSpec := { name := "tableFirst", fn := fun _ => fun
  | [d1, d2] => { results := [.lit (.bool true)], args := [d1, d2] }
  | _ => none }
def tableFirstRow : OpenClaim := { program := "ytppojbafagneeaadoor", sum := "2ecc2ec6ee58b6bc1f6796448e21f7627bf0737ae35e0a80a2fbabac34212d1e", func := "payoff/payofflaw05.TableFirst", spec := "tableFirst", inPlace := ["internal/abi.NoEscape", "internal/bytealg.MakeNoZero", "internal/bytealg.IndexByteString", "internal/bytealg.CountString", "internal/bytealg.IndexString"], named := ["payoff/payofflaw05.behind", "internal/strconv.uint64pow10", "math/bits.deBruijn32tab", "math/bits.deBruijn64tab", "internal/bytealg.MaxLen", "unicode/utf8.first", "unicode/utf8.acceptRanges", "strconv.ErrSyntax", "strconv.ErrRange"], apart := false, laid := [("math/bits.deBruijn32tab", laid_math_bits_deBruijn32tab), ("math/bits.deBruijn64tab", laid_math_bits_deBruijn64tab), ("internal/strconv.uint64pow10", laid_internal_strconv_uint64pow10), ("unicode/utf8.acceptRanges", laid_unicode_utf8_acceptRanges), ("strconv.ErrRange", laid_strconv_ErrRange), ("strconv.ErrSyntax", laid_strconv_ErrSyntax), ("payoff/payofflaw05.behind", laid_payoff_payofflaw05_behind), ("unicode/utf8.first", laid_unicode_utf8_first)] }
def TableFirstSaid : Prop := tableFirstRow.holds Tryd.pinned (OpenSpec.ofChange tableFirstSpec)

/-- ITS FALSE NEIGHBOUR: 'it returns false'. Refute it at one input. -/
def tableFirstWrong : ChangeSpec := { name := "tableFirst", fn := fun _ => fun
  | [d1, d2] => { results := [.lit (.bool false)], args := [d1, d2] }
  | _ => none }
def TableFirstWrongFalsely : Prop := tableFirstRow.holds Tryd.pinned (OpenSpec.ofChange tableFirstWrong)

/-- 'payofflaw05.TableNumbers': WHATEVER THE INPUT: true; the input reads as it did. -/
def tableNumbersSpec : ChangeSpec := { name := "tableNumbers", fn := fun _ => fun
  | [d1, d2] => { results := [.lit (.bool true)], args := [d1, d2] }
  | _ => none }
def tableNumbersRow : OpenClaim := { program := "ytppojbafagneeaadoor", sum := "2ecc2ec6ee58b6bc1f6796448e21f7627bf0737ae35e0a80a2fbabac34212d1e", func := "payoff/payofflaw05.TableNumbers", spec := "tableNumbers", inPlace := ["internal/abi.NoEscape", "internal/bytealg.MakeNoZero", "internal/bytealg.IndexByteString", "internal/bytealg.CountString", "internal/bytealg.IndexString"], named := ["internal/strconv.uint64pow10", "math/bits.deBruijn32tab", "math/bits.deBruijn64tab", "internal/bytealg.MaxLen", "unicode/utf8.first", "unicode/utf8.acceptRanges", "strconv.ErrSyntax", "strconv.ErrRange"], apart := false, laid := [("math/bits.deBruijn32tab", laid_math_bits_deBruijn32tab), ("math/bits.deBruijn64tab", laid_math_bits_deBruijn64tab), ("internal/strconv.uint64pow10", laid_internal_strconv_uint64pow10), ("unicode/utf8.acceptRanges", laid_unicode_utf8_acceptRanges), ("strconv.ErrRange", laid_strconv_ErrRange), ("strconv.ErrSyntax", laid_strconv_ErrSyntax), ("unicode/utf8.first", laid_unicode_utf8_first)] }
def TableNumbersSaid : Prop := tableNumbersRow.holds Tryd.pinned (OpenSpec.ofChange tableNumbersSpec)

/-- ITS FALSE NEIGHBOUR: 'it returns false'. Refute it at one input. -/
def tableNumbersWrong : ChangeSpec := { name := "tableNumbers", fn := fun _ => fun
  | [d1, d2] => { results := [.lit (.bool false)], args := [d1, d2] }
  | _ => none }
def TableNumbersWrongFalsely : Prop := tableNumbersRow.holds Tryd.pinned (OpenSpec.ofChange tableNumbersWrong)

/-- 'payofflaw05.TableLike': WHATEVER THE INPUT: true; the input reads as it did. -/
def tableLikeSpec : ChangeSpec := { name := "tableLike", fn := fun _ => fun
  | [d1, d2, d3] => { results := [.lit (.bool true)], args := [d1, d2, d3] }
  | _ => none }
def tableLikeRow : OpenClaim := { program := "ytppojbafagneeaadoor", sum := "2ecc2ec6ee58b6bc1f6796448e21f7627bf0737ae35e0a80a2fbabac34212d1e", func := "payoff/payofflaw05.TableLike", spec := "tableLike", inPlace := ["internal/abi.NoEscape", "internal/bytealg.MakeNoZero", "internal/bytealg.IndexByteString", "internal/bytealg.CountString", "internal/bytealg.IndexString"], named := ["payoff/payofflaw05.behind", "internal/strconv.uint64pow10", "math/bits.deBruijn32tab", "math/bits.deBruijn64tab", "internal/bytealg.MaxLen", "unicode/utf8.first", "unicode/utf8.acceptRanges", "strconv.ErrSyntax", "strconv.ErrRange"], apart := false, laid := [("math/bits.deBruijn32tab", laid_math_bits_deBruijn32tab), ("math/bits.deBruijn64tab", laid_math_bits_deBruijn64tab), ("internal/strconv.uint64pow10", laid_internal_strconv_uint64pow10), ("unicode/utf8.acceptRanges", laid_unicode_utf8_acceptRanges), ("strconv.ErrRange", laid_strconv_ErrRange), ("strconv.ErrSyntax", laid_strconv_ErrSyntax), ("payoff/payofflaw05.behind", laid_payoff_payofflaw05_behind), ("unicode/utf8.first", laid_unicode_utf8_first)] }
def TableLikeSaid : Prop := tableLikeRow.holds Tryd.pinned (OpenSpec.ofChange tableLikeSpec)

/-- ITS FALSE NEIGHBOUR: 'it returns false'. Refute it at one input. -/
def tableLikeWrong : ChangeSpec := { name := "tableLike", fn := fun _ => fun
  | [d1, d2, d3] => { results := [.lit (.bool false)], args := [d1, d2, d3] }
  | _ => none }
def TableLikeWrongFalsely : Prop := tableLikeRow.holds Tryd.pinned (OpenSpec.ofChange tableLikeWrong)

/-- 'payofflaw05.TableSays': WHATEVER THE INPUT: true; the input reads as it did. -/
def tableSaysSpec : ChangeSpec := { name := "tableSays", fn := fun _ => fun
  | [d1, d2, d3, d4, d5] => { results := [.lit (.bool true)], args := [d1, d2, d3, d4, d5] }
  | _ => none }
def tableSaysRow : OpenClaim := { program := "ytppojbafagneeaadoor", sum := "2ecc2ec6ee58b6bc1f6796448e21f7627bf0737ae35e0a80a2fbabac34212d1e", func := "payoff/payofflaw05.TableSays", spec := "tableSays", inPlace := ["internal/abi.NoEscape", "internal/bytealg.MakeNoZero", "internal/bytealg.IndexByteString", "internal/bytealg.CountString", "internal/bytealg.IndexString"], named := ["payoff/payofflaw05.behind", "internal/strconv.uint64pow10", "math/bits.deBruijn32tab", "math/bits.deBruijn64tab", "internal/bytealg.MaxLen", "unicode/utf8.first", "unicode/utf8.acceptRanges", "strconv.ErrSyntax", "strconv.ErrRange"], apart := false, laid := [("math/bits.deBruijn32tab", laid_math_bits_deBruijn32tab), ("math/bits.deBruijn64tab", laid_math_bits_deBruijn64tab), ("internal/strconv.uint64pow10", laid_internal_strconv_uint64pow10), ("unicode/utf8.acceptRanges", laid_unicode_utf8_acceptRanges), ("strconv.ErrRange", laid_strconv_ErrRange), ("strconv.ErrSyntax", laid_strconv_ErrSyntax), ("payoff/payofflaw05.behind", laid_payoff_payofflaw05_behind), ("unicode/utf8.first", laid_unicode_utf8_first)] }
def TableSaysSaid : Prop := tableSaysRow.holds Tryd.pinned (OpenSpec.ofChange tableSaysSpec)

/-- ITS FALSE NEIGHBOUR: 'it returns false'. Refute it at one input. -/
def tableSaysWrong : ChangeSpec := { name := "tableSays", fn := fun _ => fun
  | [d1, d2, d3, d4, d5] => { results := [.lit (.bool false)], args := [d1, d2, d3, d4, d5] }
  | _ => none }
def TableSaysWrongFalsely : Prop := tableSaysRow.holds Tryd.pinned (OpenSpec.ofChange tableSaysWrong)

/- THE SECOND FORM. 'bulk': how many values and letters a reading holds, each counted each time it is reached (what is shared counts as often as it is met; a slice's spare places count too). A statement '..UptoSaid' is the law's where the arguments, and the package variables that the reading takes, are together of bulk at most 1048576: NARROWER than '..Said'. Prove '..Said' where nothing that the law and all that it calls make is longer than what came in: it says more and counts as full. Else prove '..UptoSaid'. A law counts once. -/
mutual
def uptoBulk {H : Type} : DataW H → Nat
  | .lit (.string bytes) => bytes.length + 1
  | .lit _ => 1
  | .nil => 1
  | .ptr d => uptoBulk d + 1
  | .slice elems spare => uptoBulkAll elems + uptoBulkAll spare + 1
  | .agg parts => uptoBulkAll parts + 1
  | .iface _ d => uptoBulk d + 1
  | .map entries => uptoBulkEntries entries + 1
  | .held _ => 1
def uptoBulkAll {H : Type} : List (DataW H) → Nat
  | [] => 0
  | d :: r => uptoBulk d + uptoBulkAll r
def uptoBulkEntries {H : Type} : List (Lit × DataW H) → Nat
  | [] => 0
  | x :: r => uptoBulkEntry x + uptoBulkEntries r
def uptoBulkEntry {H : Type} : Lit × DataW H → Nat
  | (.string bytes, d) => bytes.length + uptoBulk d + 1
  | (_, d) => uptoBulk d + 1
 end
def uptoSmall : (H : Type) → List (DataW H) → Bool := fun _ ds => decide (uptoBulkAll ds ≤ 1048576)
def OpenSpec.upto (s : _root_.Go.ChangeSpec) : _root_.Go.OpenSpec := { _root_.Go.OpenSpec.ofChange s with cond := some uptoSmall }

/-- 'payofflaw05.TableAgrees', WHERE WHAT IT READS IS OF BULK AT MOST 1048576: true; the input reads as it did. -/
def tableAgreesUptoRow : OpenClaim := { program := "ytppojbafagneeaadoor", sum := "2ecc2ec6ee58b6bc1f6796448e21f7627bf0737ae35e0a80a2fbabac34212d1e", func := "payoff/payofflaw05.TableAgrees", spec := "tableAgrees", named := ["payoff/payofflaw05.behind"], apart := false, laid := [("payoff/payofflaw05.behind", laid_payoff_payofflaw05_behind)], narrowed := true }
def TableAgreesUptoSaid : Prop := tableAgreesUptoRow.holds Tryd.pinned (OpenSpec.upto tableAgreesSpec)

/-- 'payofflaw05.TableValid', WHERE WHAT IT READS IS OF BULK AT MOST 1048576: true; the input reads as it did. -/
def tableValidUptoRow : OpenClaim := { program := "ytppojbafagneeaadoor", sum := "2ecc2ec6ee58b6bc1f6796448e21f7627bf0737ae35e0a80a2fbabac34212d1e", func := "payoff/payofflaw05.TableValid", spec := "tableValid", named := ["payoff/payofflaw05.behind"], apart := false, laid := [("payoff/payofflaw05.behind", laid_payoff_payofflaw05_behind)], narrowed := true }
def TableValidUptoSaid : Prop := tableValidUptoRow.holds Tryd.pinned (OpenSpec.upto tableValidSpec)

/-- 'payofflaw05.TableBinds', WHERE WHAT IT READS IS OF BULK AT MOST 1048576: true; the input reads as it did. -/
def tableBindsUptoRow : OpenClaim := { program := "ytppojbafagneeaadoor", sum := "2ecc2ec6ee58b6bc1f6796448e21f7627bf0737ae35e0a80a2fbabac34212d1e", func := "payoff/payofflaw05.TableBinds", spec := "tableBinds", named := ["payoff/payofflaw05.behind", "payoff/payofflaw05.other"], apart := false, laid := [("payoff/payofflaw05.behind", laid_payoff_payofflaw05_behind), ("payoff/payofflaw05.other", laid_payoff_payofflaw05_other)], narrowed := true }
def TableBindsUptoSaid : Prop := tableBindsUptoRow.holds Tryd.pinned (OpenSpec.upto tableBindsSpec)

/-- 'payofflaw05.TableLays', WHERE WHAT IT READS IS OF BULK AT MOST 1048576: true; the input reads as it did. -/
def tableLaysUptoRow : OpenClaim := { program := "ytppojbafagneeaadoor", sum := "2ecc2ec6ee58b6bc1f6796448e21f7627bf0737ae35e0a80a2fbabac34212d1e", func := "payoff/payofflaw05.TableLays", spec := "tableLays", named := ["payoff/payofflaw05.behind", "payoff/payofflaw05.other"], apart := false, laid := [("payoff/payofflaw05.behind", laid_payoff_payofflaw05_behind), ("payoff/payofflaw05.other", laid_payoff_payofflaw05_other)], narrowed := true }
def TableLaysUptoSaid : Prop := tableLaysUptoRow.holds Tryd.pinned (OpenSpec.upto tableLaysSpec)

/-- 'payofflaw05.TableAsks', WHERE WHAT IT READS IS OF BULK AT MOST 1048576: true; the input reads as it did. -/
def tableAsksUptoRow : OpenClaim := { program := "ytppojbafagneeaadoor", sum := "2ecc2ec6ee58b6bc1f6796448e21f7627bf0737ae35e0a80a2fbabac34212d1e", func := "payoff/payofflaw05.TableAsks", spec := "tableAsks", named := ["payoff/payofflaw05.behind", "payoff/payofflaw05.other"], apart := false, laid := [("payoff/payofflaw05.behind", laid_payoff_payofflaw05_behind), ("payoff/payofflaw05.other", laid_payoff_payofflaw05_other)], narrowed := true }
def TableAsksUptoSaid : Prop := tableAsksUptoRow.holds Tryd.pinned (OpenSpec.upto tableAsksSpec)

/-- 'payofflaw05.TableWrites', WHERE WHAT IT READS IS OF BULK AT MOST 1048576: true; the input reads as it did. -/
def tableWritesUptoRow : OpenClaim := { program := "ytppojbafagneeaadoor", sum := "2ecc2ec6ee58b6bc1f6796448e21f7627bf0737ae35e0a80a2fbabac34212d1e", func := "payoff/payofflaw05.TableWrites", spec := "tableWrites", inPlace := ["internal/abi.NoEscape", "internal/bytealg.MakeNoZero"], named := ["payoff/payofflaw05.behind", "internal/strconv.uint64pow10", "math/bits.deBruijn32tab", "math/bits.deBruijn64tab"], apart := false, laid := [("math/bits.deBruijn32tab", laid_math_bits_deBruijn32tab), ("math/bits.deBruijn64tab", laid_math_bits_deBruijn64tab), ("internal/strconv.uint64pow10", laid_internal_strconv_uint64pow10), ("payoff/payofflaw05.behind", laid_payoff_payofflaw05_behind)], narrowed := true }
def TableWritesUptoSaid : Prop := tableWritesUptoRow.holds Tryd.pinned (OpenSpec.upto tableWritesSpec)

/-- 'payofflaw05.TableReads', WHERE WHAT IT READS IS OF BULK AT MOST 1048576: true; the input reads as it did. -/
def tableReadsUptoRow : OpenClaim := { program := "ytppojbafagneeaadoor", sum := "2ecc2ec6ee58b6bc1f6796448e21f7627bf0737ae35e0a80a2fbabac34212d1e", func := "payoff/payofflaw05.TableReads", spec := "tableReads", inPlace := ["internal/bytealg.IndexByteString", "internal/bytealg.CountString", "internal/bytealg.IndexString", "internal/abi.NoEscape", "internal/bytealg.MakeNoZero"], named := ["internal/bytealg.MaxLen", "unicode/utf8.first", "unicode/utf8.acceptRanges", "strconv.ErrSyntax", "strconv.ErrRange", "internal/strconv.uint64pow10", "math/bits.deBruijn32tab", "math/bits.deBruijn64tab", "payoff/payofflaw05.other"], apart := false, laid := [("math/bits.deBruijn32tab", laid_math_bits_deBruijn32tab), ("math/bits.deBruijn64tab", laid_math_bits_deBruijn64tab), ("internal/strconv.uint64pow10", laid_internal_strconv_uint64pow10), ("unicode/utf8.acceptRanges", laid_unicode_utf8_acceptRanges), ("strconv.ErrRange", laid_strconv_ErrRange), ("strconv.ErrSyntax", laid_strconv_ErrSyntax), ("payoff/payofflaw05.other", laid_payoff_payofflaw05_other), ("unicode/utf8.first", laid_unicode_utf8_first)], narrowed := true }
def TableReadsUptoSaid : Prop := tableReadsUptoRow.holds Tryd.pinned (OpenSpec.upto tableReadsSpec)

/-- 'payofflaw05.TableBack', WHERE WHAT IT READS IS OF BULK AT MOST 1048576: true; the input reads as it did. -/
def tableBackUptoRow : OpenClaim := { program := "ytppojbafagneeaadoor", sum := "2ecc2ec6ee58b6bc1f6796448e21f7627bf0737ae35e0a80a2fbabac34212d1e", func := "payoff/payofflaw05.TableBack", spec := "tableBack", inPlace := ["internal/abi.NoEscape", "internal/bytealg.MakeNoZero", "internal/bytealg.IndexByteString", "internal/bytealg.CountString", "internal/bytealg.IndexString"], named := ["payoff/payofflaw05.behind", "internal/strconv.uint64pow10", "math/bits.deBruijn32tab", "math/bits.deBruijn64tab", "internal/bytealg.MaxLen", "unicode/utf8.first", "unicode/utf8.acceptRanges", "strconv.ErrSyntax", "strconv.ErrRange"], apart := false, laid := [("math/bits.deBruijn32tab", laid_math_bits_deBruijn32tab), ("math/bits.deBruijn64tab", laid_math_bits_deBruijn64tab), ("internal/strconv.uint64pow10", laid_internal_strconv_uint64pow10), ("unicode/utf8.acceptRanges", laid_unicode_utf8_acceptRanges), ("strconv.ErrRange", laid_strconv_ErrRange), ("strconv.ErrSyntax", laid_strconv_ErrSyntax), ("payoff/payofflaw05.behind", laid_payoff_payofflaw05_behind), ("unicode/utf8.first", laid_unicode_utf8_first)], narrowed := true }
def TableBackUptoSaid : Prop := tableBackUptoRow.holds Tryd.pinned (OpenSpec.upto tableBackSpec)

/-- 'payofflaw05.TableRead', WHERE WHAT IT READS IS OF BULK AT MOST 1048576: true; the input reads as it did. -/
def tableReadUptoRow : OpenClaim := { program := "ytppojbafagneeaadoor", sum := "2ecc2ec6ee58b6bc1f6796448e21f7627bf0737ae35e0a80a2fbabac34212d1e", func := "payoff/payofflaw05.TableRead", spec := "tableRead", inPlace := ["internal/abi.NoEscape", "internal/bytealg.MakeNoZero", "internal/bytealg.IndexByteString", "internal/bytealg.CountString", "internal/bytealg.IndexString"], named := ["payoff/payofflaw05.behind", "internal/strconv.uint64pow10", "math/bits.deBruijn32tab", "math/bits.deBruijn64tab", "internal/bytealg.MaxLen", "unicode/utf8.first", "unicode/utf8.acceptRanges", "strconv.ErrSyntax", "strconv.ErrRange"], apart := false, laid := [("math/bits.deBruijn32tab", laid_math_bits_deBruijn32tab), ("math/bits.deBruijn64tab", laid_math_bits_deBruijn64tab), ("internal/strconv.uint64pow10", laid_internal_strconv_uint64pow10), ("unicode/utf8.acceptRanges", laid_unicode_utf8_acceptRanges), ("strconv.ErrRange", laid_strconv_ErrRange), ("strconv.ErrSyntax", laid_strconv_ErrSyntax), ("payoff/payofflaw05.behind", laid_payoff_payofflaw05_behind), ("unicode/utf8.first", laid_unicode_utf8_first)], narrowed := true }
def TableReadUptoSaid : Prop := tableReadUptoRow.holds Tryd.pinned (OpenSpec.upto tableReadSpec)

/-- 'payofflaw05.TableFirst', WHERE WHAT IT READS IS OF BULK AT MOST 1048576: true; the input reads as it did. -/
def tableFirstUptoRow : OpenClaim := { program := "ytppojbafagneeaadoor", sum := "2ecc2ec6ee58b6bc1f6796448e21f7627bf0737ae35e0a80a2fbabac34212d1e", func := "payoff/payofflaw05.TableFirst", spec := "tableFirst", inPlace := ["internal/abi.NoEscape", "internal/bytealg.MakeNoZero", "internal/bytealg.IndexByteString", "internal/bytealg.CountString", "internal/bytealg.IndexString"], named := ["payoff/payofflaw05.behind", "internal/strconv.uint64pow10", "math/bits.deBruijn32tab", "math/bits.deBruijn64tab", "internal/bytealg.MaxLen", "unicode/utf8.first", "unicode/utf8.acceptRanges", "strconv.ErrSyntax", "strconv.ErrRange"], apart := false, laid := [("math/bits.deBruijn32tab", laid_math_bits_deBruijn32tab), ("math/bits.deBruijn64tab", laid_math_bits_deBruijn64tab), ("internal/strconv.uint64pow10", laid_internal_strconv_uint64pow10), ("unicode/utf8.acceptRanges", laid_unicode_utf8_acceptRanges), ("strconv.ErrRange", laid_strconv_ErrRange), ("strconv.ErrSyntax", laid_strconv_ErrSyntax), ("payoff/payofflaw05.behind", laid_payoff_payofflaw05_behind), ("unicode/utf8.first", laid_unicode_utf8_first)], narrowed := true }
def TableFirstUptoSaid : Prop := tableFirstUptoRow.holds Tryd.pinned (OpenSpec.upto tableFirstSpec)

/-- 'payofflaw05.TableNumbers', WHERE WHAT IT READS IS OF BULK AT MOST 1048576: true; the input reads as it did. -/
def tableNumbersUptoRow : OpenClaim := { program := "ytppojbafagneeaadoor", sum := "2ecc2ec6ee58b6bc1f6796448e21f7627bf0737ae35e0a80a2fbabac34212d1e", func := "payoff/payofflaw05.TableNumbers", spec := "tableNumbers", inPlace := ["internal/abi.NoEscape", "internal/bytealg.MakeNoZero", "internal/bytealg.IndexByteString", "internal/bytealg.CountString", "internal/bytealg.IndexString"], named := ["internal/strconv.uint64pow10", "math/bits.deBruijn32tab", "math/bits.deBruijn64tab", "internal/bytealg.MaxLen", "unicode/utf8.first", "unicode/utf8.acceptRanges", "strconv.ErrSyntax", "strconv.ErrRange"], apart := false, laid := [("math/bits.deBruijn32tab", laid_math_bits_deBruijn32tab), ("math/bits.deBruijn64tab", laid_math_bits_deBruijn64tab), ("internal/strconv.uint64pow10", laid_internal_strconv_uint64pow10), ("unicode/utf8.acceptRanges", laid_unicode_utf8_acceptRanges), ("strconv.ErrRange", laid_strconv_ErrRange), ("strconv.ErrSyntax", laid_strconv_ErrSyntax), ("unicode/utf8.first", laid_unicode_utf8_first)], narrowed := true }
def TableNumbersUptoSaid : Prop := tableNumbersUptoRow.holds Tryd.pinned (OpenSpec.upto tableNumbersSpec)

/-- 'payofflaw05.TableLike', WHERE WHAT IT READS IS OF BULK AT MOST 1048576: true; the input reads as it did. -/
def tableLikeUptoRow : OpenClaim := { program := "ytppojbafagneeaadoor", sum := "2ecc2ec6ee58b6bc1f6796448e21f7627bf0737ae35e0a80a2fbabac34212d1e", func := "payoff/payofflaw05.TableLike", spec := "tableLike", inPlace := ["internal/abi.NoEscape", "internal/bytealg.MakeNoZero", "internal/bytealg.IndexByteString", "internal/bytealg.CountString", "internal/bytealg.IndexString"], named := ["payoff/payofflaw05.behind", "internal/strconv.uint64pow10", "math/bits.deBruijn32tab", "math/bits.deBruijn64tab", "internal/bytealg.MaxLen", "unicode/utf8.first", "unicode/utf8.acceptRanges", "strconv.ErrSyntax", "strconv.ErrRange"], apart := false, laid := [("math/bits.deBruijn32tab", laid_math_bits_deBruijn32tab), ("math/bits.deBruijn64tab", laid_math_bits_deBruijn64tab), ("internal/strconv.uint64pow10", laid_internal_strconv_uint64pow10), ("unicode/utf8.acceptRanges", laid_unicode_utf8_acceptRanges), ("strconv.ErrRange", laid_strconv_ErrRange), ("strconv.ErrSyntax", laid_strconv_ErrSyntax), ("payoff/payofflaw05.behind", laid_payoff_payofflaw05_behind), ("unicode/utf8.first", laid_unicode_utf8_first)], narrowed := true }
def TableLikeUptoSaid : Prop := tableLikeUptoRow.holds Tryd.pinned (OpenSpec.upto tableLikeSpec)

/-- 'payofflaw05.TableSays', WHERE WHAT IT READS IS OF BULK AT MOST 1048576: true; the input reads as it did. -/
def tableSaysUptoRow : OpenClaim := { program := "ytppojbafagneeaadoor", sum := "2ecc2ec6ee58b6bc1f6796448e21f7627bf0737ae35e0a80a2fbabac34212d1e", func := "payoff/payofflaw05.TableSays", spec := "tableSays", inPlace := ["internal/abi.NoEscape", "internal/bytealg.MakeNoZero", "internal/bytealg.IndexByteString", "internal/bytealg.CountString", "internal/bytealg.IndexString"], named := ["payoff/payofflaw05.behind", "internal/strconv.uint64pow10", "math/bits.deBruijn32tab", "math/bits.deBruijn64tab", "internal/bytealg.MaxLen", "unicode/utf8.first", "unicode/utf8.acceptRanges", "strconv.ErrSyntax", "strconv.ErrRange"], apart := false, laid := [("math/bits.deBruijn32tab", laid_math_bits_deBruijn32tab), ("math/bits.deBruijn64tab", laid_math_bits_deBruijn64tab), ("internal/strconv.uint64pow10", laid_internal_strconv_uint64pow10), ("unicode/utf8.acceptRanges", laid_unicode_utf8_acceptRanges), ("strconv.ErrRange", laid_strconv_ErrRange), ("strconv.ErrSyntax", laid_strconv_ErrSyntax), ("payoff/payofflaw05.behind", laid_payoff_payofflaw05_behind), ("unicode/utf8.first", laid_unicode_utf8_first)], narrowed := true }
def TableSaysUptoSaid : Prop := tableSaysUptoRow.holds Tryd.pinned (OpenSpec.upto tableSaysSpec)

end Rows
end Go.Proofs.YtppojbafagneeaaDoor
