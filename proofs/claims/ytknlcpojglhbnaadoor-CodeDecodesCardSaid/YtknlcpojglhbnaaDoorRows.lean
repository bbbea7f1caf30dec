/-
  NARROWER THAN 'FOR EVERY INPUT', by the rows' own cells (each row's printed sentence says how): CodeFinds: laid · CodeValids: laid · CodeTable: laid · CodeNames: laid · CodeEncodes: laid · CodeParts: laid · CodeDecodes: laid · CodeBack: laid · CodeOnly: laid · CodeCut: laid · CodeOdd: laid.
  DERIVED. THE GIVEN ROWS OF THIS SEAT. 11 by the template 'for every input the law returns true; each argument reads behind the call as it read before'; 0 by the template 'total and deterministic' (their statements: YtknlcpojglhbnaaDoorTotals.lean).
  GIVEN WITH THE SEED: the statements are not yours to turn. If you find one false, say at which input.
  Laid BY PROGRAM, IN A SANDBOX (cutbox-rows.mjs): the forced cells as the released guide's own fill.sh prints them over the translation dd893e82ddd6130a… (all of the seat's roots in one cut). By AI agents, Wed Nov 11 2026. No macro, syntax, notation, axiom, sorry.
-/
import Derived.Test.YtknlcpojglhbnaaDoorChecked
import GoSem.Claim
import GoSem.ClaimJoined
import GoSem.ClaimMapViews
import Derived.JoinedTies
import Derived.KernelRfl
namespace Go.Proofs.YtknlcpojglhbnaaDoor
/- THE CELL 'sum', in the pinned program and in every row, IS THE sha256 OF THE DUMP (.gsa) THAT YtknlcpojglhbnaaDoorProg.lean LOADS. Nothing in Lean hashes anything: it is a label: what it is worth is what the hold of that sum in a sandbox is worth. -/
noncomputable def Tryd.pinned : Pinned := { name := "ytknlcpojglhbnaadoor", sum := "dd893e82ddd6130a46473ea5483bee1a6f3c20d3121b342df7e9428d758afa62", checked := Tryd.checked }
namespace Rows
def none {H : Type} : Left H := { results := [], args := [] }

/- WHAT THE LISTED PACKAGE-LEVEL VARIABLES READ AS WHEN THE CALL BEGINS. Each datum BY PROGRAM (the guide's laid-datum.mjs) off the statement by which the dump's own 'gosem.cut.vars' lays the variable. In a bare row this is a premise. The card (YtknlcpojglhbnaaDoorCards.lean) ties it to the program's text. -/
def laid_payoff_payoffref11_table {H : Type} : DataW H := .agg [.agg [.lit (.string [101, 110, 100]), .lit (.int .i64 (-1)), .lit (.int .i64 (-1)), .lit (.int .i64 0), .lit (.int .i64 0)], .agg [.lit (.string [99, 111, 110, 115, 116]), .lit (.int .i64 16383), .lit (.int .i64 (-1)), .lit (.int .i64 0), .lit (.int .i64 1)], .agg [.lit (.string [98, 111, 111, 108]), .lit (.int .i64 1), .lit (.int .i64 (-1)), .lit (.int .i64 0), .lit (.int .i64 1)], .agg [.lit (.string [111, 98, 115]), .lit (.int .i64 63), .lit (.int .i64 3660), .lit (.int .i64 0), .lit (.int .i64 1)], .agg [.lit (.string [108, 111, 97, 100]), .lit (.int .i64 32767), .lit (.int .i64 (-1)), .lit (.int .i64 0), .lit (.int .i64 1)], .agg [.lit (.string [115, 116, 111, 114, 101]), .lit (.int .i64 32767), .lit (.int .i64 (-1)), .lit (.int .i64 1), .lit (.int .i64 0)], .agg [.lit (.string [107, 101, 101, 112]), .lit (.int .i64 16383), .lit (.int .i64 (-1)), .lit (.int .i64 1), .lit (.int .i64 1)], .agg [.lit (.string [103, 101, 116]), .lit (.int .i64 16383), .lit (.int .i64 (-1)), .lit (.int .i64 0), .lit (.int .i64 1)], .agg [.lit (.string [100, 114, 111, 112]), .lit (.int .i64 (-1)), .lit (.int .i64 (-1)), .lit (.int .i64 1), .lit (.int .i64 0)], .agg [.lit (.string [97, 100, 100]), .lit (.int .i64 (-1)), .lit (.int .i64 (-1)), .lit (.int .i64 2), .lit (.int .i64 1)], .agg [.lit (.string [115, 117, 98]), .lit (.int .i64 (-1)), .lit (.int .i64 (-1)), .lit (.int .i64 2), .lit (.int .i64 1)], .agg [.lit (.string [109, 117, 108]), .lit (.int .i64 (-1)), .lit (.int .i64 (-1)), .lit (.int .i64 2), .lit (.int .i64 1)], .agg [.lit (.string [110, 101, 103]), .lit (.int .i64 (-1)), .lit (.int .i64 (-1)), .lit (.int .i64 1), .lit (.int .i64 1)], .agg [.lit (.string [100, 105, 118]), .lit (.int .i64 (-1)), .lit (.int .i64 (-1)), .lit (.int .i64 2), .lit (.int .i64 1)], .agg [.lit (.string [109, 111, 100]), .lit (.int .i64 (-1)), .lit (.int .i64 (-1)), .lit (.int .i64 2), .lit (.int .i64 1)], .agg [.lit (.string [97, 98, 115]), .lit (.int .i64 (-1)), .lit (.int .i64 (-1)), .lit (.int .i64 1), .lit (.int .i64 1)], .agg [.lit (.string [109, 105, 110]), .lit (.int .i64 (-1)), .lit (.int .i64 (-1)), .lit (.int .i64 2), .lit (.int .i64 1)], .agg [.lit (.string [109, 97, 120]), .lit (.int .i64 (-1)), .lit (.int .i64 (-1)), .lit (.int .i64 2), .lit (.int .i64 1)], .agg [.lit (.string [114, 97, 116, 105, 111]), .lit (.int .i64 4), .lit (.int .i64 (-1)), .lit (.int .i64 3), .lit (.int .i64 1)], .agg [.lit (.string [108, 116]), .lit (.int .i64 (-1)), .lit (.int .i64 (-1)), .lit (.int .i64 2), .lit (.int .i64 1)], .agg [.lit (.string [108, 101]), .lit (.int .i64 (-1)), .lit (.int .i64 (-1)), .lit (.int .i64 2), .lit (.int .i64 1)], .agg [.lit (.string [103, 116]), .lit (.int .i64 (-1)), .lit (.int .i64 (-1)), .lit (.int .i64 2), .lit (.int .i64 1)], .agg [.lit (.string [103, 101]), .lit (.int .i64 (-1)), .lit (.int .i64 (-1)), .lit (.int .i64 2), .lit (.int .i64 1)], .agg [.lit (.string [101, 113]), .lit (.int .i64 (-1)), .lit (.int .i64 (-1)), .lit (.int .i64 2), .lit (.int .i64 1)], .agg [.lit (.string [110, 101]), .lit (.int .i64 (-1)), .lit (.int .i64 (-1)), .lit (.int .i64 2), .lit (.int .i64 1)], .agg [.lit (.string [110, 111, 116]), .lit (.int .i64 (-1)), .lit (.int .i64 (-1)), .lit (.int .i64 1), .lit (.int .i64 1)], .agg [.lit (.string [106, 117, 109, 112]), .lit (.int .i64 262143), .lit (.int .i64 (-1)), .lit (.int .i64 0), .lit (.int .i64 0)], .agg [.lit (.string [122, 101, 114, 111]), .lit (.int .i64 262143), .lit (.int .i64 (-1)), .lit (.int .i64 1), .lit (.int .i64 0)], .agg [.lit (.string [102, 108, 111, 119]), .lit (.int .i64 4095), .lit (.int .i64 (-1)), .lit (.int .i64 1), .lit (.int .i64 0)]]
def laid_payoff_code_kinds {H : Type} : DataW H := .agg [.agg [.lit (.string [101, 110, 100]), .lit (.int .i64 0), .lit (.int .i64 0), .lit (.int .i64 0), .lit (.int .i64 0), .lit (.int .i64 0)], .agg [.lit (.string [99, 111, 110, 115, 116]), .lit (.int .i64 1), .lit (.int .i64 16383), .lit (.int .i64 0), .lit (.int .i64 0), .lit (.int .i64 1)], .agg [.lit (.string [98, 111, 111, 108]), .lit (.int .i64 1), .lit (.int .i64 1), .lit (.int .i64 0), .lit (.int .i64 0), .lit (.int .i64 1)], .agg [.lit (.string [111, 98, 115]), .lit (.int .i64 2), .lit (.int .i64 63), .lit (.int .i64 3660), .lit (.int .i64 0), .lit (.int .i64 1)], .agg [.lit (.string [108, 111, 97, 100]), .lit (.int .i64 1), .lit (.int .i64 32767), .lit (.int .i64 0), .lit (.int .i64 0), .lit (.int .i64 1)], .agg [.lit (.string [115, 116, 111, 114, 101]), .lit (.int .i64 1), .lit (.int .i64 32767), .lit (.int .i64 0), .lit (.int .i64 1), .lit (.int .i64 0)], .agg [.lit (.string [107, 101, 101, 112]), .lit (.int .i64 1), .lit (.int .i64 16383), .lit (.int .i64 0), .lit (.int .i64 1), .lit (.int .i64 1)], .agg [.lit (.string [103, 101, 116]), .lit (.int .i64 1), .lit (.int .i64 16383), .lit (.int .i64 0), .lit (.int .i64 0), .lit (.int .i64 1)], .agg [.lit (.string [100, 114, 111, 112]), .lit (.int .i64 0), .lit (.int .i64 0), .lit (.int .i64 0), .lit (.int .i64 1), .lit (.int .i64 0)], .agg [.lit (.string [97, 100, 100]), .lit (.int .i64 0), .lit (.int .i64 0), .lit (.int .i64 0), .lit (.int .i64 2), .lit (.int .i64 1)], .agg [.lit (.string [115, 117, 98]), .lit (.int .i64 0), .lit (.int .i64 0), .lit (.int .i64 0), .lit (.int .i64 2), .lit (.int .i64 1)], .agg [.lit (.string [109, 117, 108]), .lit (.int .i64 0), .lit (.int .i64 0), .lit (.int .i64 0), .lit (.int .i64 2), .lit (.int .i64 1)], .agg [.lit (.string [110, 101, 103]), .lit (.int .i64 0), .lit (.int .i64 0), .lit (.int .i64 0), .lit (.int .i64 1), .lit (.int .i64 1)], .agg [.lit (.string [100, 105, 118]), .lit (.int .i64 0), .lit (.int .i64 0), .lit (.int .i64 0), .lit (.int .i64 2), .lit (.int .i64 1)], .agg [.lit (.string [109, 111, 100]), .lit (.int .i64 0), .lit (.int .i64 0), .lit (.int .i64 0), .lit (.int .i64 2), .lit (.int .i64 1)], .agg [.lit (.string [97, 98, 115]), .lit (.int .i64 0), .lit (.int .i64 0), .lit (.int .i64 0), .lit (.int .i64 1), .lit (.int .i64 1)], .agg [.lit (.string [109, 105, 110]), .lit (.int .i64 0), .lit (.int .i64 0), .lit (.int .i64 0), .lit (.int .i64 2), .lit (.int .i64 1)], .agg [.lit (.string [109, 97, 120]), .lit (.int .i64 0), .lit (.int .i64 0), .lit (.int .i64 0), .lit (.int .i64 2), .lit (.int .i64 1)], .agg [.lit (.string [114, 97, 116, 105, 111]), .lit (.int .i64 1), .lit (.int .i64 4), .lit (.int .i64 0), .lit (.int .i64 3), .lit (.int .i64 1)], .agg [.lit (.string [108, 116]), .lit (.int .i64 0), .lit (.int .i64 0), .lit (.int .i64 0), .lit (.int .i64 2), .lit (.int .i64 1)], .agg [.lit (.string [108, 101]), .lit (.int .i64 0), .lit (.int .i64 0), .lit (.int .i64 0), .lit (.int .i64 2), .lit (.int .i64 1)], .agg [.lit (.string [103, 116]), .lit (.int .i64 0), .lit (.int .i64 0), .lit (.int .i64 0), .lit (.int .i64 2), .lit (.int .i64 1)], .agg [.lit (.string [103, 101]), .lit (.int .i64 0), .lit (.int .i64 0), .lit (.int .i64 0), .lit (.int .i64 2), .lit (.int .i64 1)], .agg [.lit (.string [101, 113]), .lit (.int .i64 0), .lit (.int .i64 0), .lit (.int .i64 0), .lit (.int .i64 2), .lit (.int .i64 1)], .agg [.lit (.string [110, 101]), .lit (.int .i64 0), .lit (.int .i64 0), .lit (.int .i64 0), .lit (.int .i64 2), .lit (.int .i64 1)], .agg [.lit (.string [110, 111, 116]), .lit (.int .i64 0), .lit (.int .i64 0), .lit (.int .i64 0), .lit (.int .i64 1), .lit (.int .i64 1)], .agg [.lit (.string [106, 117, 109, 112]), .lit (.int .i64 1), .lit (.int .i64 262143), .lit (.int .i64 0), .lit (.int .i64 0), .lit (.int .i64 0)], .agg [.lit (.string [122, 101, 114, 111]), .lit (.int .i64 1), .lit (.int .i64 262143), .lit (.int .i64 0), .lit (.int .i64 1), .lit (.int .i64 0)], .agg [.lit (.string [102, 108, 111, 119]), .lit (.int .i64 1), .lit (.int .i64 4095), .lit (.int .i64 0), .lit (.int .i64 1), .lit (.int .i64 0)]]

/-- 'payofflaw11.CodeFinds': WHATEVER THE INPUT: true; the input reads as it did. -/
def codeFindsSpec : ChangeSpec := { name := "codeFinds", fn := fun _ => fun
  | [d] => { results := [.lit (.bool true)], args := [d] }
  | _ => none }
def codeFindsRow : OpenClaim := { program := "ytknlcpojglhbnaadoor", sum := "dd893e82ddd6130a46473ea5483bee1a6f3c20d3121b342df7e9428d758afa62", func := "payoff/payofflaw11.CodeFinds", spec := "codeFinds", named := ["payoff/code.kinds", "payoff/payoffref11.table"], apart := false, laid := [("payoff/payoffref11.table", laid_payoff_payoffref11_table), ("payoff/code.kinds", laid_payoff_code_kinds)] }
def CodeFindsSaid : Prop := codeFindsRow.holds Tryd.pinned (OpenSpec.ofChange codeFindsSpec)

/-- ITS FALSE NEIGHBOUR: 'it returns false'. Refute it at one input. -/
def codeFindsWrong : ChangeSpec := { name := "codeFinds", fn := fun _ => fun
  | [d] => { results := [.lit (.bool false)], args := [d] }
  | _ => none }
def CodeFindsWrongFalsely : Prop := codeFindsRow.holds Tryd.pinned (OpenSpec.ofChange codeFindsWrong)

/-- 'payofflaw11.CodeValids': WHATEVER THE INPUT: true; the input reads as it did. -/
def codeValidsSpec : ChangeSpec := { name := "codeValids", fn := fun _ => fun
  | [d] => { results := [.lit (.bool true)], args := [d] }
  | _ => none }
def codeValidsRow : OpenClaim := { program := "ytknlcpojglhbnaadoor", sum := "dd893e82ddd6130a46473ea5483bee1a6f3c20d3121b342df7e9428d758afa62", func := "payoff/payofflaw11.CodeValids", spec := "codeValids", named := ["payoff/code.kinds", "payoff/payoffref11.table"], apart := false, laid := [("payoff/payoffref11.table", laid_payoff_payoffref11_table), ("payoff/code.kinds", laid_payoff_code_kinds)] }
def CodeValidsSaid : Prop := codeValidsRow.holds Tryd.pinned (OpenSpec.ofChange codeValidsSpec)

/-- ITS FALSE NEIGHBOUR: 'it returns false'. Refute it at one input. -/
def codeValidsWrong : ChangeSpec := { name := "codeValids", fn := fun _ => fun
  | [d] => { results := [.lit (.bool false)], args := [d] }
  | _ => none }
def CodeValidsWrongFalsely : Prop := codeValidsRow.holds Tryd.pinned (OpenSpec.ofChange codeValidsWrong)

/-- 'payofflaw11.CodeTable': WHATEVER THE INPUT: true; the input reads as it did. -/
def codeTableSpec : ChangeSpec := { name := "codeTable", fn := fun _ => fun
  | [d] => { results := [.lit (.bool true)], args := [d] }
  | _ => none }
def codeTableRow : OpenClaim := { program := "ytknlcpojglhbnaadoor", sum := "dd893e82ddd6130a46473ea5483bee1a6f3c20d3121b342df7e9428d758afa62", func := "payoff/payofflaw11.CodeTable", spec := "codeTable", named := ["payoff/code.kinds", "payoff/payoffref11.table"], apart := false, laid := [("payoff/payoffref11.table", laid_payoff_payoffref11_table), ("payoff/code.kinds", laid_payoff_code_kinds)] }
def CodeTableSaid : Prop := codeTableRow.holds Tryd.pinned (OpenSpec.ofChange codeTableSpec)

/-- ITS FALSE NEIGHBOUR: 'it returns false'. Refute it at one input. -/
def codeTableWrong : ChangeSpec := { name := "codeTable", fn := fun _ => fun
  | [d] => { results := [.lit (.bool false)], args := [d] }
  | _ => none }
def CodeTableWrongFalsely : Prop := codeTableRow.holds Tryd.pinned (OpenSpec.ofChange codeTableWrong)

/-- 'payofflaw11.CodeNames': WHATEVER THE INPUT: true; the input reads as it did. -/
def codeNamesSpec : ChangeSpec := { name := "codeNames", fn := fun _ => fun
  | [d1, d2] => { results := [.lit (.bool true)], args := [d1, d2] }
  | _ => none }
def codeNamesRow : OpenClaim := { program := "ytknlcpojglhbnaadoor", sum := "dd893e82ddd6130a46473ea5483bee1a6f3c20d3121b342df7e9428d758afa62", func := "payoff/payofflaw11.CodeNames", spec := "codeNames", named := ["payoff/code.kinds"], apart := false, laid := [("payoff/code.kinds", laid_payoff_code_kinds)] }
def CodeNamesSaid : Prop := codeNamesRow.holds Tryd.pinned (OpenSpec.ofChange codeNamesSpec)

/-- ITS FALSE NEIGHBOUR: 'it returns false'. Refute it at one input. -/
def codeNamesWrong : ChangeSpec := { name := "codeNames", fn := fun _ => fun
  | [d1, d2] => { results := [.lit (.bool false)], args := [d1, d2] }
  | _ => none }
def CodeNamesWrongFalsely : Prop := codeNamesRow.holds Tryd.pinned (OpenSpec.ofChange codeNamesWrong)

/-- 'payofflaw11.CodeEncodes': WHATEVER THE INPUT: true; the input reads as it did. -/
def codeEncodesSpec : ChangeSpec := { name := "codeEncodes", fn := fun _ => fun
  | [d] => { results := [.lit (.bool true)], args := [d] }
  | _ => none }
def codeEncodesRow : OpenClaim := { program := "ytknlcpojglhbnaadoor", sum := "dd893e82ddd6130a46473ea5483bee1a6f3c20d3121b342df7e9428d758afa62", func := "payoff/payofflaw11.CodeEncodes", spec := "codeEncodes", named := ["payoff/code.kinds", "payoff/payoffref11.table"], apart := false, laid := [("payoff/payoffref11.table", laid_payoff_payoffref11_table), ("payoff/code.kinds", laid_payoff_code_kinds)] }
def CodeEncodesSaid : Prop := codeEncodesRow.holds Tryd.pinned (OpenSpec.ofChange codeEncodesSpec)

/-- ITS FALSE NEIGHBOUR: 'it returns false'. Refute it at one input. -/
def codeEncodesWrong : ChangeSpec := { name := "codeEncodes", fn := fun _ => fun
  | [d] => { results := [.lit (.bool false)], args := [d] }
  | _ => none }
def CodeEncodesWrongFalsely : Prop := codeEncodesRow.holds Tryd.pinned (OpenSpec.ofChange codeEncodesWrong)

/-- 'payofflaw11.CodeParts': WHATEVER THE INPUT: true; the input reads as it did. -/
def codePartsSpec : ChangeSpec := { name := "codeParts", fn := fun _ => fun
  | [d] => { results := [.lit (.bool true)], args := [d] }
  | _ => none }
def codePartsRow : OpenClaim := { program := "ytknlcpojglhbnaadoor", sum := "dd893e82ddd6130a46473ea5483bee1a6f3c20d3121b342df7e9428d758afa62", func := "payoff/payofflaw11.CodeParts", spec := "codeParts", named := ["payoff/code.kinds"], apart := false, laid := [("payoff/code.kinds", laid_payoff_code_kinds)] }
def CodePartsSaid : Prop := codePartsRow.holds Tryd.pinned (OpenSpec.ofChange codePartsSpec)

/-- ITS FALSE NEIGHBOUR: 'it returns false'. Refute it at one input. -/
def codePartsWrong : ChangeSpec := { name := "codeParts", fn := fun _ => fun
  | [d] => { results := [.lit (.bool false)], args := [d] }
  | _ => none }
def CodePartsWrongFalsely : Prop := codePartsRow.holds Tryd.pinned (OpenSpec.ofChange codePartsWrong)

/-- 'payofflaw11.CodeDecodes': WHATEVER THE INPUT: true; the input reads as it did. -/
def codeDecodesSpec : ChangeSpec := { name := "codeDecodes", fn := fun _ => fun
  | [d1, d2] => { results := [.lit (.bool true)], args := [d1, d2] }
  | _ => none }
def codeDecodesRow : OpenClaim := { program := "ytknlcpojglhbnaadoor", sum := "dd893e82ddd6130a46473ea5483bee1a6f3c20d3121b342df7e9428d758afa62", func := "payoff/payofflaw11.CodeDecodes", spec := "codeDecodes", named := ["payoff/code.kinds", "payoff/payoffref11.table"], apart := false, laid := [("payoff/payoffref11.table", laid_payoff_payoffref11_table), ("payoff/code.kinds", laid_payoff_code_kinds)] }
def CodeDecodesSaid : Prop := codeDecodesRow.holds Tryd.pinned (OpenSpec.ofChange codeDecodesSpec)

/-- ITS FALSE NEIGHBOUR: 'it returns false'. Refute it at one input. -/
def codeDecodesWrong : ChangeSpec := { name := "codeDecodes", fn := fun _ => fun
  | [d1, d2] => { results := [.lit (.bool false)], args := [d1, d2] }
  | _ => none }
def CodeDecodesWrongFalsely : Prop := codeDecodesRow.holds Tryd.pinned (OpenSpec.ofChange codeDecodesWrong)

/-- 'payofflaw11.CodeBack': WHATEVER THE INPUT: true; the input reads as it did. -/
def codeBackSpec : ChangeSpec := { name := "codeBack", fn := fun _ => fun
  | [d1, d2] => { results := [.lit (.bool true)], args := [d1, d2] }
  | _ => none }
def codeBackRow : OpenClaim := { program := "ytknlcpojglhbnaadoor", sum := "dd893e82ddd6130a46473ea5483bee1a6f3c20d3121b342df7e9428d758afa62", func := "payoff/payofflaw11.CodeBack", spec := "codeBack", named := ["payoff/code.kinds"], apart := false, laid := [("payoff/code.kinds", laid_payoff_code_kinds)] }
def CodeBackSaid : Prop := codeBackRow.holds Tryd.pinned (OpenSpec.ofChange codeBackSpec)

/-- ITS FALSE NEIGHBOUR: 'it returns false'. Refute it at one input. -/
def codeBackWrong : ChangeSpec := { name := "codeBack", fn := fun _ => fun
  | [d1, d2] => { results := [.lit (.bool false)], args := [d1, d2] }
  | _ => none }
def CodeBackWrongFalsely : Prop := codeBackRow.holds Tryd.pinned (OpenSpec.ofChange codeBackWrong)

/-- 'payofflaw11.CodeOnly': WHATEVER THE INPUT: true; the input reads as it did. -/
def codeOnlySpec : ChangeSpec := { name := "codeOnly", fn := fun _ => fun
  | [d1, d2] => { results := [.lit (.bool true)], args := [d1, d2] }
  | _ => none }
def codeOnlyRow : OpenClaim := { program := "ytknlcpojglhbnaadoor", sum := "dd893e82ddd6130a46473ea5483bee1a6f3c20d3121b342df7e9428d758afa62", func := "payoff/payofflaw11.CodeOnly", spec := "codeOnly", named := ["payoff/code.kinds"], apart := false, laid := [("payoff/code.kinds", laid_payoff_code_kinds)] }
def CodeOnlySaid : Prop := codeOnlyRow.holds Tryd.pinned (OpenSpec.ofChange codeOnlySpec)

/-- ITS FALSE NEIGHBOUR: 'it returns false'. Refute it at one input. -/
def codeOnlyWrong : ChangeSpec := { name := "codeOnly", fn := fun _ => fun
  | [d1, d2] => { results := [.lit (.bool false)], args := [d1, d2] }
  | _ => none }
def CodeOnlyWrongFalsely : Prop := codeOnlyRow.holds Tryd.pinned (OpenSpec.ofChange codeOnlyWrong)

/-- 'payofflaw11.CodeCut': WHATEVER THE INPUT: true; the input reads as it did. -/
def codeCutSpec : ChangeSpec := { name := "codeCut", fn := fun _ => fun
  | [d1, d2] => { results := [.lit (.bool true)], args := [d1, d2] }
  | _ => none }
def codeCutRow : OpenClaim := { program := "ytknlcpojglhbnaadoor", sum := "dd893e82ddd6130a46473ea5483bee1a6f3c20d3121b342df7e9428d758afa62", func := "payoff/payofflaw11.CodeCut", spec := "codeCut", named := ["payoff/code.kinds"], apart := false, laid := [("payoff/code.kinds", laid_payoff_code_kinds)] }
def CodeCutSaid : Prop := codeCutRow.holds Tryd.pinned (OpenSpec.ofChange codeCutSpec)

/-- ITS FALSE NEIGHBOUR: 'it returns false'. Refute it at one input. -/
def codeCutWrong : ChangeSpec := { name := "codeCut", fn := fun _ => fun
  | [d1, d2] => { results := [.lit (.bool false)], args := [d1, d2] }
  | _ => none }
def CodeCutWrongFalsely : Prop := codeCutRow.holds Tryd.pinned (OpenSpec.ofChange codeCutWrong)

/-- 'payofflaw11.CodeOdd': WHATEVER THE INPUT: true; the input reads as it did. -/
def codeOddSpec : ChangeSpec := { name := "codeOdd", fn := fun _ => fun
  | [d1, d2, d3] => { results := [.lit (.bool true)], args := [d1, d2, d3] }
  | _ => none }
def codeOddRow : OpenClaim := { program := "ytknlcpojglhbnaadoor", sum := "dd893e82ddd6130a46473ea5483bee1a6f3c20d3121b342df7e9428d758afa62", func := "payoff/payofflaw11.CodeOdd", spec := "codeOdd", named := ["payoff/code.kinds"], apart := false, laid := [("payoff/code.kinds", laid_payoff_code_kinds)] }
def CodeOddSaid : Prop := codeOddRow.holds Tryd.pinned (OpenSpec.ofChange codeOddSpec)

/-- ITS FALSE NEIGHBOUR: 'it returns false'. Refute it at one input. -/
def codeOddWrong : ChangeSpec := { name := "codeOdd", fn := fun _ => fun
  | [d1, d2, d3] => { results := [.lit (.bool false)], args := [d1, d2, d3] }
  | _ => none }
def CodeOddWrongFalsely : Prop := codeOddRow.holds Tryd.pinned (OpenSpec.ofChange codeOddWrong)

/- THE SECOND FORM. 'bulk': how many values and letters a reading holds, each counted each time it is reached (what is shared counts as often as it is met; a slice's spare places count too). A statement '..UptoSaid' is the law's where the arguments, and the package variables that the reading takes, are together of bulk at most 1048576: NARROWER than '..Said'. Prove '..Said' where nothing that the law and all that it calls make is longer than what came in: it says more and counts as full. Else prove '..UptoSaid'. A law counts once. -/
mutual
def uptoBulk {H : Type} : DataW H → Nat
  | .lit (.string bytes) => bytes.length + 1
  | .lit _ => 1
  | .nil => 1
  | .ptr d => uptoBulk d + 1
  | .slice elems spare => uptoBulkAll elems + uptoBulkAll spare + 1
  | .agg parts => uptoBulkAll parts + 1
  | .iface _ d => uptoBulk d + 1
  | .map entries => uptoBulkEntries entries + 1
  | .held _ => 1
def uptoBulkAll {H : Type} : List (DataW H) → Nat
  | [] => 0
  | d :: r => uptoBulk d + uptoBulkAll r
def uptoBulkEntries {H : Type} : List (Lit × DataW H) → Nat
  | [] => 0
  | x :: r => uptoBulkEntry x + uptoBulkEntries r
def uptoBulkEntry {H : Type} : Lit × DataW H → Nat
  | (.string bytes, d) => bytes.length + uptoBulk d + 1
  | (_, d) => uptoBulk d + 1
 end
def uptoSmall : (H : Type) → List (DataW H) → Bool := fun _ ds => decide (uptoBulkAll ds ≤ 1048576)
def OpenSpec.upto (s : _root_.Go.ChangeSpec) : _root_.Go.OpenSpec := { _root_.Go.OpenSpec.ofChange s with cond := some uptoSmall }

/-- 'payofflaw11.CodeFinds', WHERE WHAT IT READS IS OF BULK AT MOST 1048576: true; the input reads as it did. -/
def codeFindsUptoRow : OpenClaim := { program := "ytknlcpojglhbnaadoor", sum := "dd893e82ddd6130a46473ea5483bee1a6f3c20d3121b342df7e9428d758afa62", func := "payoff/payofflaw11.CodeFinds", spec := "codeFinds", named := ["payoff/code.kinds", "payoff/payoffref11.table"], apart := false, laid := [("payoff/payoffref11.table", laid_payoff_payoffref11_table), ("payoff/code.kinds", laid_payoff_code_kinds)], narrowed := true }
def CodeFindsUptoSaid : Prop := codeFindsUptoRow.holds Tryd.pinned (OpenSpec.upto codeFindsSpec)

/-- 'payofflaw11.CodeValids', WHERE WHAT IT READS IS OF BULK AT MOST 1048576: true; the input reads as it did. -/
def codeValidsUptoRow : OpenClaim := { program := "ytknlcpojglhbnaadoor", sum := "dd893e82ddd6130a46473ea5483bee1a6f3c20d3121b342df7e9428d758afa62", func := "payoff/payofflaw11.CodeValids", spec := "codeValids", named := ["payoff/code.kinds", "payoff/payoffref11.table"], apart := false, laid := [("payoff/payoffref11.table", laid_payoff_payoffref11_table), ("payoff/code.kinds", laid_payoff_code_kinds)], narrowed := true }
def CodeValidsUptoSaid : Prop := codeValidsUptoRow.holds Tryd.pinned (OpenSpec.upto codeValidsSpec)

/-- 'payofflaw11.CodeTable', WHERE WHAT IT READS IS OF BULK AT MOST 1048576: true; the input reads as it did. -/
def codeTableUptoRow : OpenClaim := { program := "ytknlcpojglhbnaadoor", sum := "dd893e82ddd6130a46473ea5483bee1a6f3c20d3121b342df7e9428d758afa62", func := "payoff/payofflaw11.CodeTable", spec := "codeTable", named := ["payoff/code.kinds", "payoff/payoffref11.table"], apart := false, laid := [("payoff/payoffref11.table", laid_payoff_payoffref11_table), ("payoff/code.kinds", laid_payoff_code_kinds)], narrowed := true }
def CodeTableUptoSaid : Prop := codeTableUptoRow.holds Tryd.pinned (OpenSpec.upto codeTableSpec)

/-- 'payofflaw11.CodeNames', WHERE WHAT IT READS IS OF BULK AT MOST 1048576: true; the input reads as it did. -/
def codeNamesUptoRow : OpenClaim := { program := "ytknlcpojglhbnaadoor", sum := "dd893e82ddd6130a46473ea5483bee1a6f3c20d3121b342df7e9428d758afa62", func := "payoff/payofflaw11.CodeNames", spec := "codeNames", named := ["payoff/code.kinds"], apart := false, laid := [("payoff/code.kinds", laid_payoff_code_kinds)], narrowed := true }
def CodeNamesUptoSaid : Prop := codeNamesUptoRow.holds Tryd.pinned (OpenSpec.upto codeNamesSpec)

/-- 'payofflaw11.CodeEncodes', WHERE WHAT IT READS IS OF BULK AT MOST 1048576: true; the input reads as it did. -/
def codeEncodesUptoRow : OpenClaim := { program := "ytknlcpojglhbnaadoor", sum := "dd893e82ddd6130a46473ea5483bee1a6f3c20d3121b342df7e9428d758afa62", func := "payoff/payofflaw11.CodeEncodes", spec := "codeEncodes", named := ["payoff/code.kinds", "payoff/payoffref11.table"], apart := false, laid := [("payoff/payoffref11.table", laid_payoff_payoffref11_table), ("payoff/code.kinds", laid_payoff_code_kinds)], narrowed := true }
def CodeEncodesUptoSaid : Prop := codeEncodesUptoRow.holds Tryd.pinned (OpenSpec.upto codeEncodesSpec)

/-- 'payofflaw11.CodeParts', WHERE WHAT IT READS IS OF BULK AT MOST 1048576: true; the input reads as it did. -/
def codePartsUptoRow : OpenClaim := { program := "ytknlcpojglhbnaadoor", sum := "dd893e82ddd6130a46473ea5483bee1a6f3c20d3121b342df7e9428d758afa62", func := "payoff/payofflaw11.CodeParts", spec := "codeParts", named := ["payoff/code.kinds"], apart := false, laid := [("payoff/code.kinds", laid_payoff_code_kinds)], narrowed := true }
def CodePartsUptoSaid : Prop := codePartsUptoRow.holds Tryd.pinned (OpenSpec.upto codePartsSpec)

/-- 'payofflaw11.CodeDecodes', WHERE WHAT IT READS IS OF BULK AT MOST 1048576: true; the input reads as it did. -/
def codeDecodesUptoRow : OpenClaim := { program := "ytknlcpojglhbnaadoor", sum := "dd893e82ddd6130a46473ea5483bee1a6f3c20d3121b342df7e9428d758afa62", func := "payoff/payofflaw11.CodeDecodes", spec := "codeDecodes", named := ["payoff/code.kinds", "payoff/payoffref11.table"], apart := false, laid := [("payoff/payoffref11.table", laid_payoff_payoffref11_table), ("payoff/code.kinds", laid_payoff_code_kinds)], narrowed := true }
def CodeDecodesUptoSaid : Prop := codeDecodesUptoRow.holds Tryd.pinned (OpenSpec.upto codeDecodesSpec)

/-- 'payofflaw11.CodeBack', WHERE WHAT IT READS IS OF BULK AT MOST 1048576: true; the input reads as it did. -/
def codeBackUptoRow : OpenClaim := { program := "ytknlcpojglhbnaadoor", sum := "dd893e82ddd6130a46473ea5483bee1a6f3c20d3121b342df7e9428d758afa62", func := "payoff/payofflaw11.CodeBack", spec := "codeBack", named := ["payoff/code.kinds"], apart := false, laid := [("payoff/code.kinds", laid_payoff_code_kinds)], narrowed := true }
def CodeBackUptoSaid : Prop := codeBackUptoRow.holds Tryd.pinned (OpenSpec.upto codeBackSpec)

/-- 'payofflaw11.CodeOnly', WHERE WHAT IT READS IS OF BULK AT MOST 1048576: true; the input reads as it did. -/
def codeOnlyUptoRow : OpenClaim := { program := "ytknlcpojglhbnaadoor", sum := "dd893e82ddd6130a46473ea5483bee1a6f3c20d3121b342df7e9428d758afa62", func := "payoff/payofflaw11.CodeOnly", spec := "codeOnly", named := ["payoff/code.kinds"], apart := false, laid := [("payoff/code.kinds", laid_payoff_code_kinds)], narrowed := true }
def CodeOnlyUptoSaid : Prop := codeOnlyUptoRow.holds Tryd.pinned (OpenSpec.upto codeOnlySpec)

/-- 'payofflaw11.CodeCut', WHERE WHAT IT READS IS OF BULK AT MOST 1048576: true; the input reads as it did. -/
def codeCutUptoRow : OpenClaim := { program := "ytknlcpojglhbnaadoor", sum := "dd893e82ddd6130a46473ea5483bee1a6f3c20d3121b342df7e9428d758afa62", func := "payoff/payofflaw11.CodeCut", spec := "codeCut", named := ["payoff/code.kinds"], apart := false, laid := [("payoff/code.kinds", laid_payoff_code_kinds)], narrowed := true }
def CodeCutUptoSaid : Prop := codeCutUptoRow.holds Tryd.pinned (OpenSpec.upto codeCutSpec)

/-- 'payofflaw11.CodeOdd', WHERE WHAT IT READS IS OF BULK AT MOST 1048576: true; the input reads as it did. -/
def codeOddUptoRow : OpenClaim := { program := "ytknlcpojglhbnaadoor", sum := "dd893e82ddd6130a46473ea5483bee1a6f3c20d3121b342df7e9428d758afa62", func := "payoff/payofflaw11.CodeOdd", spec := "codeOdd", named := ["payoff/code.kinds"], apart := false, laid := [("payoff/code.kinds", laid_payoff_code_kinds)], narrowed := true }
def CodeOddUptoSaid : Prop := codeOddUptoRow.holds Tryd.pinned (OpenSpec.upto codeOddSpec)

end Rows
end Go.Proofs.YtknlcpojglhbnaaDoor
