/-
  NARROWER THAN 'FOR EVERY INPUT', by the rows' own cells (each row's printed sentence says how): FnValidTable: laid · FnOldRows: laid · FnExactValidTable: laid · FnTableRows: laid · FnExactOldRows: laid · FnRewriteRowsSteps: laid · FnInsertRowRewrite: laid · FnAlterTable: laid · FnInsertRow: laid · FnRewriteRows: laid · FnExactAlterTable: laid · FnExactInsertRow: laid.
  DERIVED. THE GIVEN ROWS OF THIS SEAT. 12 by the template 'for every input the law returns true; each argument reads behind the call as it read before'; 0 by the template 'total and deterministic' (their statements: YthhlkedkeefgnaaDoorTotals.lean).
  GIVEN WITH THE SEED: the statements are not yours to turn. If you find one false, say at which input.
  Laid BY PROGRAM, IN A SANDBOX (cutbox-rows.mjs): the forced cells as the released guide's own fill.sh prints them over the translation 16a1b1d566e5e128… (all of the seat's roots in one cut). By AI agents, Wed Nov 11 2026. No macro, syntax, notation, axiom, sorry.
-/
import Derived.Test.YthhlkedkeefgnaaDoorChecked
import GoSem.Claim
import GoSem.ClaimJoined
import GoSem.ClaimMapViews
import Derived.JoinedTies
import Derived.KernelRfl
namespace Go.Proofs.YthhlkedkeefgnaaDoor
/- THE CELL 'sum', in the pinned program and in every row, IS THE sha256 OF THE DUMP (.gsa) THAT YthhlkedkeefgnaaDoorProg.lean LOADS. Nothing in Lean hashes anything: it is a label: what it is worth is what the hold of that sum in a sandbox is worth. -/
noncomputable def Tryd.pinned : Pinned := { name := "ythhlkedkeefgnaadoor", sum := "16a1b1d566e5e1286d6b59a90656cdd87f765941453b2851000c4fae3060f8b8", checked := Tryd.checked }
namespace Rows
def none {H : Type} : Left H := { results := [], args := [] }

/- WHAT THE LISTED PACKAGE-LEVEL VARIABLES READ AS WHEN THE CALL BEGINS. Each datum BY PROGRAM (the guide's laid-datum.mjs) off the statement by which the dump's own 'gosem.cut.vars' lays the variable. In a bare row this is a premise. The card (YthhlkedkeefgnaaDoorCards.lean) ties it to the program's text. -/
def laid_math_bits_deBruijn32tab {H : Type} : DataW H := .agg [.lit (.int .u8 0), .lit (.int .u8 1), .lit (.int .u8 28), .lit (.int .u8 2), .lit (.int .u8 29), .lit (.int .u8 14), .lit (.int .u8 24), .lit (.int .u8 3), .lit (.int .u8 30), .lit (.int .u8 22), .lit (.int .u8 20), .lit (.int .u8 15), .lit (.int .u8 25), .lit (.int .u8 17), .lit (.int .u8 4), .lit (.int .u8 8), .lit (.int .u8 31), .lit (.int .u8 27), .lit (.int .u8 13), .lit (.int .u8 23), .lit (.int .u8 21), .lit (.int .u8 19), .lit (.int .u8 16), .lit (.int .u8 7), .lit (.int .u8 26), .lit (.int .u8 12), .lit (.int .u8 18), .lit (.int .u8 6), .lit (.int .u8 11), .lit (.int .u8 5), .lit (.int .u8 10), .lit (.int .u8 9)]
def laid_math_bits_deBruijn64tab {H : Type} : DataW H := .agg [.lit (.int .u8 0), .lit (.int .u8 1), .lit (.int .u8 56), .lit (.int .u8 2), .lit (.int .u8 57), .lit (.int .u8 49), .lit (.int .u8 28), .lit (.int .u8 3), .lit (.int .u8 61), .lit (.int .u8 58), .lit (.int .u8 42), .lit (.int .u8 50), .lit (.int .u8 38), .lit (.int .u8 29), .lit (.int .u8 17), .lit (.int .u8 4), .lit (.int .u8 62), .lit (.int .u8 47), .lit (.int .u8 59), .lit (.int .u8 36), .lit (.int .u8 45), .lit (.int .u8 43), .lit (.int .u8 51), .lit (.int .u8 22), .lit (.int .u8 53), .lit (.int .u8 39), .lit (.int .u8 33), .lit (.int .u8 30), .lit (.int .u8 24), .lit (.int .u8 18), .lit (.int .u8 12), .lit (.int .u8 5), .lit (.int .u8 63), .lit (.int .u8 55), .lit (.int .u8 48), .lit (.int .u8 27), .lit (.int .u8 60), .lit (.int .u8 41), .lit (.int .u8 37), .lit (.int .u8 16), .lit (.int .u8 46), .lit (.int .u8 35), .lit (.int .u8 44), .lit (.int .u8 21), .lit (.int .u8 52), .lit (.int .u8 32), .lit (.int .u8 23), .lit (.int .u8 11), .lit (.int .u8 54), .lit (.int .u8 26), .lit (.int .u8 40), .lit (.int .u8 15), .lit (.int .u8 34), .lit (.int .u8 20), .lit (.int .u8 31), .lit (.int .u8 10), .lit (.int .u8 25), .lit (.int .u8 14), .lit (.int .u8 19), .lit (.int .u8 9), .lit (.int .u8 13), .lit (.int .u8 8), .lit (.int .u8 7), .lit (.int .u8 6)]
def laid_internal_strconv_uint64pow10 {H : Type} : DataW H := .agg [.lit (.int .u64 1), .lit (.int .u64 10), .lit (.int .u64 100), .lit (.int .u64 1000), .lit (.int .u64 10000), .lit (.int .u64 100000), .lit (.int .u64 1000000), .lit (.int .u64 10000000), .lit (.int .u64 100000000), .lit (.int .u64 1000000000), .lit (.int .u64 10000000000), .lit (.int .u64 100000000000), .lit (.int .u64 1000000000000), .lit (.int .u64 10000000000000), .lit (.int .u64 100000000000000), .lit (.int .u64 1000000000000000), .lit (.int .u64 10000000000000000), .lit (.int .u64 100000000000000000), .lit (.int .u64 1000000000000000000), .lit (.int .u64 10000000000000000000)]

/-- 'laws.FnValidTable': WHATEVER THE INPUT: true; the input reads as it did. -/
def fnValidTableSpec : ChangeSpec := { name := "fnValidTable", fn := fun _ => fun
  | [d] => { results := [.lit (.bool true)], args := [d] }
  | _ => none }
def fnValidTableRow : OpenClaim := { program := "ythhlkedkeefgnaadoor", sum := "16a1b1d566e5e1286d6b59a90656cdd87f765941453b2851000c4fae3060f8b8", func := "loop.example/schemamigration/laws.FnValidTable", spec := "fnValidTable", inPlace := ["slices.overlaps[loop.example/schemamigration/impl.Column]"], recurses := true, named := ["internal/strconv.uint64pow10", "math/bits.deBruijn32tab", "math/bits.deBruijn64tab"], apart := false, laid := [("math/bits.deBruijn32tab", laid_math_bits_deBruijn32tab), ("math/bits.deBruijn64tab", laid_math_bits_deBruijn64tab), ("internal/strconv.uint64pow10", laid_internal_strconv_uint64pow10)] }
def FnValidTableSaid : Prop := fnValidTableRow.holds Tryd.pinned (OpenSpec.ofChange fnValidTableSpec)

/-- ITS FALSE NEIGHBOUR: 'it returns false'. Refute it at one input. -/
def fnValidTableWrong : ChangeSpec := { name := "fnValidTable", fn := fun _ => fun
  | [d] => { results := [.lit (.bool false)], args := [d] }
  | _ => none }
def FnValidTableWrongFalsely : Prop := fnValidTableRow.holds Tryd.pinned (OpenSpec.ofChange fnValidTableWrong)

/-- 'laws.FnOldRows': WHATEVER THE INPUT: true; the input reads as it did. -/
def fnOldRowsSpec : ChangeSpec := { name := "fnOldRows", fn := fun _ => fun
  | [d] => { results := [.lit (.bool true)], args := [d] }
  | _ => none }
def fnOldRowsRow : OpenClaim := { program := "ythhlkedkeefgnaadoor", sum := "16a1b1d566e5e1286d6b59a90656cdd87f765941453b2851000c4fae3060f8b8", func := "loop.example/schemamigration/laws.FnOldRows", spec := "fnOldRows", inPlace := ["slices.overlaps[loop.example/schemamigration/impl.Column]", "slices.overlaps[loop.example/schemamigration/impl.Value]"], recurses := true, named := ["internal/strconv.uint64pow10", "math/bits.deBruijn32tab", "math/bits.deBruijn64tab"], apart := false, laid := [("math/bits.deBruijn32tab", laid_math_bits_deBruijn32tab), ("math/bits.deBruijn64tab", laid_math_bits_deBruijn64tab), ("internal/strconv.uint64pow10", laid_internal_strconv_uint64pow10)] }
def FnOldRowsSaid : Prop := fnOldRowsRow.holds Tryd.pinned (OpenSpec.ofChange fnOldRowsSpec)

/-- ITS FALSE NEIGHBOUR: 'it returns false'. Refute it at one input. -/
def fnOldRowsWrong : ChangeSpec := { name := "fnOldRows", fn := fun _ => fun
  | [d] => { results := [.lit (.bool false)], args := [d] }
  | _ => none }
def FnOldRowsWrongFalsely : Prop := fnOldRowsRow.holds Tryd.pinned (OpenSpec.ofChange fnOldRowsWrong)

/-- 'laws.FnExactValidTable': WHATEVER THE INPUT: true; the input reads as it did. -/
def fnExactValidTableSpec : ChangeSpec := { name := "fnExactValidTable", fn := fun _ => fun
  | [d] => { results := [.lit (.bool true)], args := [d] }
  | _ => none }
def fnExactValidTableRow : OpenClaim := { program := "ythhlkedkeefgnaadoor", sum := "16a1b1d566e5e1286d6b59a90656cdd87f765941453b2851000c4fae3060f8b8", func := "loop.example/schemamigration/laws.FnExactValidTable", spec := "fnExactValidTable", inPlace := ["slices.overlaps[loop.example/schemamigration/impl.Column]"], recurses := true, named := ["internal/strconv.uint64pow10", "math/bits.deBruijn32tab", "math/bits.deBruijn64tab"], apart := false, laid := [("math/bits.deBruijn32tab", laid_math_bits_deBruijn32tab), ("math/bits.deBruijn64tab", laid_math_bits_deBruijn64tab), ("internal/strconv.uint64pow10", laid_internal_strconv_uint64pow10)] }
def FnExactValidTableSaid : Prop := fnExactValidTableRow.holds Tryd.pinned (OpenSpec.ofChange fnExactValidTableSpec)

/-- ITS FALSE NEIGHBOUR: 'it returns false'. Refute it at one input. -/
def fnExactValidTableWrong : ChangeSpec := { name := "fnExactValidTable", fn := fun _ => fun
  | [d] => { results := [.lit (.bool false)], args := [d] }
  | _ => none }
def FnExactValidTableWrongFalsely : Prop := fnExactValidTableRow.holds Tryd.pinned (OpenSpec.ofChange fnExactValidTableWrong)

/-- 'laws.FnTableRows': WHATEVER THE INPUT: true; the input reads as it did. -/
def fnTableRowsSpec : ChangeSpec := { name := "fnTableRows", fn := fun _ => fun
  | [d] => { results := [.lit (.bool true)], args := [d] }
  | _ => none }
def fnTableRowsRow : OpenClaim := { program := "ythhlkedkeefgnaadoor", sum := "16a1b1d566e5e1286d6b59a90656cdd87f765941453b2851000c4fae3060f8b8", func := "loop.example/schemamigration/laws.FnTableRows", spec := "fnTableRows", inPlace := ["slices.overlaps[loop.example/schemamigration/impl.Column]", "slices.overlaps[loop.example/schemamigration/impl.Value]"], recurses := true, named := ["internal/strconv.uint64pow10", "math/bits.deBruijn32tab", "math/bits.deBruijn64tab"], apart := false, laid := [("math/bits.deBruijn32tab", laid_math_bits_deBruijn32tab), ("math/bits.deBruijn64tab", laid_math_bits_deBruijn64tab), ("internal/strconv.uint64pow10", laid_internal_strconv_uint64pow10)] }
def FnTableRowsSaid : Prop := fnTableRowsRow.holds Tryd.pinned (OpenSpec.ofChange fnTableRowsSpec)

/-- ITS FALSE NEIGHBOUR: 'it returns false'. Refute it at one input. -/
def fnTableRowsWrong : ChangeSpec := { name := "fnTableRows", fn := fun _ => fun
  | [d] => { results := [.lit (.bool false)], args := [d] }
  | _ => none }
def FnTableRowsWrongFalsely : Prop := fnTableRowsRow.holds Tryd.pinned (OpenSpec.ofChange fnTableRowsWrong)

/-- 'laws.FnExactOldRows': WHATEVER THE INPUT: true; the input reads as it did. -/
def fnExactOldRowsSpec : ChangeSpec := { name := "fnExactOldRows", fn := fun _ => fun
  | [d] => { results := [.lit (.bool true)], args := [d] }
  | _ => none }
def fnExactOldRowsRow : OpenClaim := { program := "ythhlkedkeefgnaadoor", sum := "16a1b1d566e5e1286d6b59a90656cdd87f765941453b2851000c4fae3060f8b8", func := "loop.example/schemamigration/laws.FnExactOldRows", spec := "fnExactOldRows", inPlace := ["slices.overlaps[loop.example/schemamigration/impl.Column]"], recurses := true, named := ["internal/strconv.uint64pow10", "math/bits.deBruijn32tab", "math/bits.deBruijn64tab"], apart := false, laid := [("math/bits.deBruijn32tab", laid_math_bits_deBruijn32tab), ("math/bits.deBruijn64tab", laid_math_bits_deBruijn64tab), ("internal/strconv.uint64pow10", laid_internal_strconv_uint64pow10)] }
def FnExactOldRowsSaid : Prop := fnExactOldRowsRow.holds Tryd.pinned (OpenSpec.ofChange fnExactOldRowsSpec)

/-- ITS FALSE NEIGHBOUR: 'it returns false'. Refute it at one input. -/
def fnExactOldRowsWrong : ChangeSpec := { name := "fnExactOldRows", fn := fun _ => fun
  | [d] => { results := [.lit (.bool false)], args := [d] }
  | _ => none }
def FnExactOldRowsWrongFalsely : Prop := fnExactOldRowsRow.holds Tryd.pinned (OpenSpec.ofChange fnExactOldRowsWrong)

/-- 'laws.FnRewriteRowsSteps': WHATEVER THE INPUT: true; the input reads as it did. -/
def fnRewriteRowsStepsSpec : ChangeSpec := { name := "fnRewriteRowsSteps", fn := fun _ => fun
  | [d] => { results := [.lit (.bool true)], args := [d] }
  | _ => none }
def fnRewriteRowsStepsRow : OpenClaim := { program := "ythhlkedkeefgnaadoor", sum := "16a1b1d566e5e1286d6b59a90656cdd87f765941453b2851000c4fae3060f8b8", func := "loop.example/schemamigration/laws.FnRewriteRowsSteps", spec := "fnRewriteRowsSteps", inPlace := ["slices.overlaps[loop.example/schemamigration/impl.Column]", "slices.overlaps[loop.example/schemamigration/impl.Value]"], recurses := true, named := ["internal/strconv.uint64pow10", "math/bits.deBruijn32tab", "math/bits.deBruijn64tab"], apart := false, laid := [("math/bits.deBruijn32tab", laid_math_bits_deBruijn32tab), ("math/bits.deBruijn64tab", laid_math_bits_deBruijn64tab), ("internal/strconv.uint64pow10", laid_internal_strconv_uint64pow10)] }
def FnRewriteRowsStepsSaid : Prop := fnRewriteRowsStepsRow.holds Tryd.pinned (OpenSpec.ofChange fnRewriteRowsStepsSpec)

/-- ITS FALSE NEIGHBOUR: 'it returns false'. Refute it at one input. -/
def fnRewriteRowsStepsWrong : ChangeSpec := { name := "fnRewriteRowsSteps", fn := fun _ => fun
  | [d] => { results := [.lit (.bool false)], args := [d] }
  | _ => none }
def FnRewriteRowsStepsWrongFalsely : Prop := fnRewriteRowsStepsRow.holds Tryd.pinned (OpenSpec.ofChange fnRewriteRowsStepsWrong)

/-- 'laws.FnInsertRowRewrite': WHATEVER THE INPUT: true; the input reads as it did. -/
def fnInsertRowRewriteSpec : ChangeSpec := { name := "fnInsertRowRewrite", fn := fun _ => fun
  | [d] => { results := [.lit (.bool true)], args := [d] }
  | _ => none }
def fnInsertRowRewriteRow : OpenClaim := { program := "ythhlkedkeefgnaadoor", sum := "16a1b1d566e5e1286d6b59a90656cdd87f765941453b2851000c4fae3060f8b8", func := "loop.example/schemamigration/laws.FnInsertRowRewrite", spec := "fnInsertRowRewrite", inPlace := ["slices.overlaps[loop.example/schemamigration/impl.Column]", "slices.overlaps[loop.example/schemamigration/impl.Value]"], recurses := true, named := ["internal/strconv.uint64pow10", "math/bits.deBruijn32tab", "math/bits.deBruijn64tab"], apart := false, laid := [("math/bits.deBruijn32tab", laid_math_bits_deBruijn32tab), ("math/bits.deBruijn64tab", laid_math_bits_deBruijn64tab), ("internal/strconv.uint64pow10", laid_internal_strconv_uint64pow10)] }
def FnInsertRowRewriteSaid : Prop := fnInsertRowRewriteRow.holds Tryd.pinned (OpenSpec.ofChange fnInsertRowRewriteSpec)

/-- ITS FALSE NEIGHBOUR: 'it returns false'. Refute it at one input. -/
def fnInsertRowRewriteWrong : ChangeSpec := { name := "fnInsertRowRewrite", fn := fun _ => fun
  | [d] => { results := [.lit (.bool false)], args := [d] }
  | _ => none }
def FnInsertRowRewriteWrongFalsely : Prop := fnInsertRowRewriteRow.holds Tryd.pinned (OpenSpec.ofChange fnInsertRowRewriteWrong)

/-- 'laws.FnAlterTable': WHATEVER THE INPUT: true; the input reads as it did. -/
def fnAlterTableSpec : ChangeSpec := { name := "fnAlterTable", fn := fun _ => fun
  | [d] => { results := [.lit (.bool true)], args := [d] }
  | _ => none }
def fnAlterTableRow : OpenClaim := { program := "ythhlkedkeefgnaadoor", sum := "16a1b1d566e5e1286d6b59a90656cdd87f765941453b2851000c4fae3060f8b8", func := "loop.example/schemamigration/laws.FnAlterTable", spec := "fnAlterTable", inPlace := ["slices.overlaps[loop.example/schemamigration/impl.Column]", "slices.overlaps[loop.example/schemamigration/impl.Value]"], recurses := true, named := ["internal/strconv.uint64pow10", "math/bits.deBruijn32tab", "math/bits.deBruijn64tab"], apart := false, laid := [("math/bits.deBruijn32tab", laid_math_bits_deBruijn32tab), ("math/bits.deBruijn64tab", laid_math_bits_deBruijn64tab), ("internal/strconv.uint64pow10", laid_internal_strconv_uint64pow10)] }
def FnAlterTableSaid : Prop := fnAlterTableRow.holds Tryd.pinned (OpenSpec.ofChange fnAlterTableSpec)

/-- ITS FALSE NEIGHBOUR: 'it returns false'. Refute it at one input. -/
def fnAlterTableWrong : ChangeSpec := { name := "fnAlterTable", fn := fun _ => fun
  | [d] => { results := [.lit (.bool false)], args := [d] }
  | _ => none }
def FnAlterTableWrongFalsely : Prop := fnAlterTableRow.holds Tryd.pinned (OpenSpec.ofChange fnAlterTableWrong)

/-- 'laws.FnInsertRow': WHATEVER THE INPUT: true; the input reads as it did. -/
def fnInsertRowSpec : ChangeSpec := { name := "fnInsertRow", fn := fun _ => fun
  | [d] => { results := [.lit (.bool true)], args := [d] }
  | _ => none }
def fnInsertRowRow : OpenClaim := { program := "ythhlkedkeefgnaadoor", sum := "16a1b1d566e5e1286d6b59a90656cdd87f765941453b2851000c4fae3060f8b8", func := "loop.example/schemamigration/laws.FnInsertRow", spec := "fnInsertRow", inPlace := ["slices.overlaps[loop.example/schemamigration/impl.Column]", "slices.overlaps[loop.example/schemamigration/impl.Value]"], recurses := true, named := ["internal/strconv.uint64pow10", "math/bits.deBruijn32tab", "math/bits.deBruijn64tab"], apart := false, laid := [("math/bits.deBruijn32tab", laid_math_bits_deBruijn32tab), ("math/bits.deBruijn64tab", laid_math_bits_deBruijn64tab), ("internal/strconv.uint64pow10", laid_internal_strconv_uint64pow10)] }
def FnInsertRowSaid : Prop := fnInsertRowRow.holds Tryd.pinned (OpenSpec.ofChange fnInsertRowSpec)

/-- ITS FALSE NEIGHBOUR: 'it returns false'. Refute it at one input. -/
def fnInsertRowWrong : ChangeSpec := { name := "fnInsertRow", fn := fun _ => fun
  | [d] => { results := [.lit (.bool false)], args := [d] }
  | _ => none }
def FnInsertRowWrongFalsely : Prop := fnInsertRowRow.holds Tryd.pinned (OpenSpec.ofChange fnInsertRowWrong)

/-- 'laws.FnRewriteRows': WHATEVER THE INPUT: true; the input reads as it did. -/
def fnRewriteRowsSpec : ChangeSpec := { name := "fnRewriteRows", fn := fun _ => fun
  | [d] => { results := [.lit (.bool true)], args := [d] }
  | _ => none }
def fnRewriteRowsRow : OpenClaim := { program := "ythhlkedkeefgnaadoor", sum := "16a1b1d566e5e1286d6b59a90656cdd87f765941453b2851000c4fae3060f8b8", func := "loop.example/schemamigration/laws.FnRewriteRows", spec := "fnRewriteRows", inPlace := ["slices.overlaps[loop.example/schemamigration/impl.Column]", "slices.overlaps[loop.example/schemamigration/impl.Value]"], recurses := true, named := ["internal/strconv.uint64pow10", "math/bits.deBruijn32tab", "math/bits.deBruijn64tab"], apart := false, laid := [("math/bits.deBruijn32tab", laid_math_bits_deBruijn32tab), ("math/bits.deBruijn64tab", laid_math_bits_deBruijn64tab), ("internal/strconv.uint64pow10", laid_internal_strconv_uint64pow10)] }
def FnRewriteRowsSaid : Prop := fnRewriteRowsRow.holds Tryd.pinned (OpenSpec.ofChange fnRewriteRowsSpec)

/-- ITS FALSE NEIGHBOUR: 'it returns false'. Refute it at one input. -/
def fnRewriteRowsWrong : ChangeSpec := { name := "fnRewriteRows", fn := fun _ => fun
  | [d] => { results := [.lit (.bool false)], args := [d] }
  | _ => none }
def FnRewriteRowsWrongFalsely : Prop := fnRewriteRowsRow.holds Tryd.pinned (OpenSpec.ofChange fnRewriteRowsWrong)

/-- 'laws.FnExactAlterTable': WHATEVER THE INPUT: true; the input reads as it did. -/
def fnExactAlterTableSpec : ChangeSpec := { name := "fnExactAlterTable", fn := fun _ => fun
  | [d1, d2] => { results := [.lit (.bool true)], args := [d1, d2] }
  | _ => none }
def fnExactAlterTableRow : OpenClaim := { program := "ythhlkedkeefgnaadoor", sum := "16a1b1d566e5e1286d6b59a90656cdd87f765941453b2851000c4fae3060f8b8", func := "loop.example/schemamigration/laws.FnExactAlterTable", spec := "fnExactAlterTable", inPlace := ["slices.overlaps[loop.example/schemamigration/impl.Column]"], recurses := true, named := ["internal/strconv.uint64pow10", "math/bits.deBruijn32tab", "math/bits.deBruijn64tab"], apart := false, laid := [("math/bits.deBruijn32tab", laid_math_bits_deBruijn32tab), ("math/bits.deBruijn64tab", laid_math_bits_deBruijn64tab), ("internal/strconv.uint64pow10", laid_internal_strconv_uint64pow10)] }
def FnExactAlterTableSaid : Prop := fnExactAlterTableRow.holds Tryd.pinned (OpenSpec.ofChange fnExactAlterTableSpec)

/-- ITS FALSE NEIGHBOUR: 'it returns false'. Refute it at one input. -/
def fnExactAlterTableWrong : ChangeSpec := { name := "fnExactAlterTable", fn := fun _ => fun
  | [d1, d2] => { results := [.lit (.bool false)], args := [d1, d2] }
  | _ => none }
def FnExactAlterTableWrongFalsely : Prop := fnExactAlterTableRow.holds Tryd.pinned (OpenSpec.ofChange fnExactAlterTableWrong)

/-- 'laws.FnExactInsertRow': WHATEVER THE INPUT: true; the input reads as it did. -/
def fnExactInsertRowSpec : ChangeSpec := { name := "fnExactInsertRow", fn := fun _ => fun
  | [d1, d2] => { results := [.lit (.bool true)], args := [d1, d2] }
  | _ => none }
def fnExactInsertRowRow : OpenClaim := { program := "ythhlkedkeefgnaadoor", sum := "16a1b1d566e5e1286d6b59a90656cdd87f765941453b2851000c4fae3060f8b8", func := "loop.example/schemamigration/laws.FnExactInsertRow", spec := "fnExactInsertRow", inPlace := ["slices.overlaps[loop.example/schemamigration/impl.Column]"], recurses := true, named := ["internal/strconv.uint64pow10", "math/bits.deBruijn32tab", "math/bits.deBruijn64tab"], apart := false, laid := [("math/bits.deBruijn32tab", laid_math_bits_deBruijn32tab), ("math/bits.deBruijn64tab", laid_math_bits_deBruijn64tab), ("internal/strconv.uint64pow10", laid_internal_strconv_uint64pow10)] }
def FnExactInsertRowSaid : Prop := fnExactInsertRowRow.holds Tryd.pinned (OpenSpec.ofChange fnExactInsertRowSpec)

/-- ITS FALSE NEIGHBOUR: 'it returns false'. Refute it at one input. -/
def fnExactInsertRowWrong : ChangeSpec := { name := "fnExactInsertRow", fn := fun _ => fun
  | [d1, d2] => { results := [.lit (.bool false)], args := [d1, d2] }
  | _ => none }
def FnExactInsertRowWrongFalsely : Prop := fnExactInsertRowRow.holds Tryd.pinned (OpenSpec.ofChange fnExactInsertRowWrong)

/- THE SECOND FORM. 'bulk': how many values and letters a reading holds, each counted each time it is reached (what is shared counts as often as it is met; a slice's spare places count too). A statement '..UptoSaid' is the law's where the arguments, and the package variables that the reading takes, are together of bulk at most 1048576: NARROWER than '..Said'. Prove '..Said' where nothing that the law and all that it calls make is longer than what came in: it says more and counts as full. Else prove '..UptoSaid'. A law counts once. -/
mutual
def uptoBulk {H : Type} : DataW H → Nat
  | .lit (.string bytes) => bytes.length + 1
  | .lit _ => 1
  | .nil => 1
  | .ptr d => uptoBulk d + 1
  | .slice elems spare => uptoBulkAll elems + uptoBulkAll spare + 1
  | .agg parts => uptoBulkAll parts + 1
  | .iface _ d => uptoBulk d + 1
  | .map entries => uptoBulkEntries entries + 1
  | .held _ => 1
def uptoBulkAll {H : Type} : List (DataW H) → Nat
  | [] => 0
  | d :: r => uptoBulk d + uptoBulkAll r
def uptoBulkEntries {H : Type} : List (Lit × DataW H) → Nat
  | [] => 0
  | x :: r => uptoBulkEntry x + uptoBulkEntries r
def uptoBulkEntry {H : Type} : Lit × DataW H → Nat
  | (.string bytes, d) => bytes.length + uptoBulk d + 1
  | (_, d) => uptoBulk d + 1
 end
def uptoSmall : (H : Type) → List (DataW H) → Bool := fun _ ds => decide (uptoBulkAll ds ≤ 1048576)
def OpenSpec.upto (s : _root_.Go.ChangeSpec) : _root_.Go.OpenSpec := { _root_.Go.OpenSpec.ofChange s with cond := some uptoSmall }

/-- 'laws.FnValidTable', WHERE WHAT IT READS IS OF BULK AT MOST 1048576: true; the input reads as it did. -/
def fnValidTableUptoRow : OpenClaim := { program := "ythhlkedkeefgnaadoor", sum := "16a1b1d566e5e1286d6b59a90656cdd87f765941453b2851000c4fae3060f8b8", func := "loop.example/schemamigration/laws.FnValidTable", spec := "fnValidTable", inPlace := ["slices.overlaps[loop.example/schemamigration/impl.Column]"], recurses := true, named := ["internal/strconv.uint64pow10", "math/bits.deBruijn32tab", "math/bits.deBruijn64tab"], apart := false, laid := [("math/bits.deBruijn32tab", laid_math_bits_deBruijn32tab), ("math/bits.deBruijn64tab", laid_math_bits_deBruijn64tab), ("internal/strconv.uint64pow10", laid_internal_strconv_uint64pow10)], narrowed := true }
def FnValidTableUptoSaid : Prop := fnValidTableUptoRow.holds Tryd.pinned (OpenSpec.upto fnValidTableSpec)

/-- 'laws.FnOldRows', WHERE WHAT IT READS IS OF BULK AT MOST 1048576: true; the input reads as it did. -/
def fnOldRowsUptoRow : OpenClaim := { program := "ythhlkedkeefgnaadoor", sum := "16a1b1d566e5e1286d6b59a90656cdd87f765941453b2851000c4fae3060f8b8", func := "loop.example/schemamigration/laws.FnOldRows", spec := "fnOldRows", inPlace := ["slices.overlaps[loop.example/schemamigration/impl.Column]", "slices.overlaps[loop.example/schemamigration/impl.Value]"], recurses := true, named := ["internal/strconv.uint64pow10", "math/bits.deBruijn32tab", "math/bits.deBruijn64tab"], apart := false, laid := [("math/bits.deBruijn32tab", laid_math_bits_deBruijn32tab), ("math/bits.deBruijn64tab", laid_math_bits_deBruijn64tab), ("internal/strconv.uint64pow10", laid_internal_strconv_uint64pow10)], narrowed := true }
def FnOldRowsUptoSaid : Prop := fnOldRowsUptoRow.holds Tryd.pinned (OpenSpec.upto fnOldRowsSpec)

/-- 'laws.FnExactValidTable', WHERE WHAT IT READS IS OF BULK AT MOST 1048576: true; the input reads as it did. -/
def fnExactValidTableUptoRow : OpenClaim := { program := "ythhlkedkeefgnaadoor", sum := "16a1b1d566e5e1286d6b59a90656cdd87f765941453b2851000c4fae3060f8b8", func := "loop.example/schemamigration/laws.FnExactValidTable", spec := "fnExactValidTable", inPlace := ["slices.overlaps[loop.example/schemamigration/impl.Column]"], recurses := true, named := ["internal/strconv.uint64pow10", "math/bits.deBruijn32tab", "math/bits.deBruijn64tab"], apart := false, laid := [("math/bits.deBruijn32tab", laid_math_bits_deBruijn32tab), ("math/bits.deBruijn64tab", laid_math_bits_deBruijn64tab), ("internal/strconv.uint64pow10", laid_internal_strconv_uint64pow10)], narrowed := true }
def FnExactValidTableUptoSaid : Prop := fnExactValidTableUptoRow.holds Tryd.pinned (OpenSpec.upto fnExactValidTableSpec)

/-- 'laws.FnTableRows', WHERE WHAT IT READS IS OF BULK AT MOST 1048576: true; the input reads as it did. -/
def fnTableRowsUptoRow : OpenClaim := { program := "ythhlkedkeefgnaadoor", sum := "16a1b1d566e5e1286d6b59a90656cdd87f765941453b2851000c4fae3060f8b8", func := "loop.example/schemamigration/laws.FnTableRows", spec := "fnTableRows", inPlace := ["slices.overlaps[loop.example/schemamigration/impl.Column]", "slices.overlaps[loop.example/schemamigration/impl.Value]"], recurses := true, named := ["internal/strconv.uint64pow10", "math/bits.deBruijn32tab", "math/bits.deBruijn64tab"], apart := false, laid := [("math/bits.deBruijn32tab", laid_math_bits_deBruijn32tab), ("math/bits.deBruijn64tab", laid_math_bits_deBruijn64tab), ("internal/strconv.uint64pow10", laid_internal_strconv_uint64pow10)], narrowed := true }
def FnTableRowsUptoSaid : Prop := fnTableRowsUptoRow.holds Tryd.pinned (OpenSpec.upto fnTableRowsSpec)

/-- 'laws.FnExactOldRows', WHERE WHAT IT READS IS OF BULK AT MOST 1048576: true; the input reads as it did. -/
def fnExactOldRowsUptoRow : OpenClaim := { program := "ythhlkedkeefgnaadoor", sum := "16a1b1d566e5e1286d6b59a90656cdd87f765941453b2851000c4fae3060f8b8", func := "loop.example/schemamigration/laws.FnExactOldRows", spec := "fnExactOldRows", inPlace := ["slices.overlaps[loop.example/schemamigration/impl.Column]"], recurses := true, named := ["internal/strconv.uint64pow10", "math/bits.deBruijn32tab", "math/bits.deBruijn64tab"], apart := false, laid := [("math/bits.deBruijn32tab", laid_math_bits_deBruijn32tab), ("math/bits.deBruijn64tab", laid_math_bits_deBruijn64tab), ("internal/strconv.uint64pow10", laid_internal_strconv_uint64pow10)], narrowed := true }
def FnExactOldRowsUptoSaid : Prop := fnExactOldRowsUptoRow.holds Tryd.pinned (OpenSpec.upto fnExactOldRowsSpec)

/-- 'laws.FnRewriteRowsSteps', WHERE WHAT IT READS IS OF BULK AT MOST 1048576: true; the input reads as it did. -/
def fnRewriteRowsStepsUptoRow : OpenClaim := { program := "ythhlkedkeefgnaadoor", sum := "16a1b1d566e5e1286d6b59a90656cdd87f765941453b2851000c4fae3060f8b8", func := "loop.example/schemamigration/laws.FnRewriteRowsSteps", spec := "fnRewriteRowsSteps", inPlace := ["slices.overlaps[loop.example/schemamigration/impl.Column]", "slices.overlaps[loop.example/schemamigration/impl.Value]"], recurses := true, named := ["internal/strconv.uint64pow10", "math/bits.deBruijn32tab", "math/bits.deBruijn64tab"], apart := false, laid := [("math/bits.deBruijn32tab", laid_math_bits_deBruijn32tab), ("math/bits.deBruijn64tab", laid_math_bits_deBruijn64tab), ("internal/strconv.uint64pow10", laid_internal_strconv_uint64pow10)], narrowed := true }
def FnRewriteRowsStepsUptoSaid : Prop := fnRewriteRowsStepsUptoRow.holds Tryd.pinned (OpenSpec.upto fnRewriteRowsStepsSpec)

/-- 'laws.FnInsertRowRewrite', WHERE WHAT IT READS IS OF BULK AT MOST 1048576: true; the input reads as it did. -/
def fnInsertRowRewriteUptoRow : OpenClaim := { program := "ythhlkedkeefgnaadoor", sum := "16a1b1d566e5e1286d6b59a90656cdd87f765941453b2851000c4fae3060f8b8", func := "loop.example/schemamigration/laws.FnInsertRowRewrite", spec := "fnInsertRowRewrite", inPlace := ["slices.overlaps[loop.example/schemamigration/impl.Column]", "slices.overlaps[loop.example/schemamigration/impl.Value]"], recurses := true, named := ["internal/strconv.uint64pow10", "math/bits.deBruijn32tab", "math/bits.deBruijn64tab"], apart := false, laid := [("math/bits.deBruijn32tab", laid_math_bits_deBruijn32tab), ("math/bits.deBruijn64tab", laid_math_bits_deBruijn64tab), ("internal/strconv.uint64pow10", laid_internal_strconv_uint64pow10)], narrowed := true }
def FnInsertRowRewriteUptoSaid : Prop := fnInsertRowRewriteUptoRow.holds Tryd.pinned (OpenSpec.upto fnInsertRowRewriteSpec)

/-- 'laws.FnAlterTable', WHERE WHAT IT READS IS OF BULK AT MOST 1048576: true; the input reads as it did. -/
def fnAlterTableUptoRow : OpenClaim := { program := "ythhlkedkeefgnaadoor", sum := "16a1b1d566e5e1286d6b59a90656cdd87f765941453b2851000c4fae3060f8b8", func := "loop.example/schemamigration/laws.FnAlterTable", spec := "fnAlterTable", inPlace := ["slices.overlaps[loop.example/schemamigration/impl.Column]", "slices.overlaps[loop.example/schemamigration/impl.Value]"], recurses := true, named := ["internal/strconv.uint64pow10", "math/bits.deBruijn32tab", "math/bits.deBruijn64tab"], apart := false, laid := [("math/bits.deBruijn32tab", laid_math_bits_deBruijn32tab), ("math/bits.deBruijn64tab", laid_math_bits_deBruijn64tab), ("internal/strconv.uint64pow10", laid_internal_strconv_uint64pow10)], narrowed := true }
def FnAlterTableUptoSaid : Prop := fnAlterTableUptoRow.holds Tryd.pinned (OpenSpec.upto fnAlterTableSpec)

/-- 'laws.FnInsertRow', WHERE WHAT IT READS IS OF BULK AT MOST 1048576: true; the input reads as it did. -/
def fnInsertRowUptoRow : OpenClaim := { program := "ythhlkedkeefgnaadoor", sum := "16a1b1d566e5e1286d6b59a90656cdd87f765941453b2851000c4fae3060f8b8", func := "loop.example/schemamigration/laws.FnInsertRow", spec := "fnInsertRow", inPlace := ["slices.overlaps[loop.example/schemamigration/impl.Column]", "slices.overlaps[loop.example/schemamigration/impl.Value]"], recurses := true, named := ["internal/strconv.uint64pow10", "math/bits.deBruijn32tab", "math/bits.deBruijn64tab"], apart := false, laid := [("math/bits.deBruijn32tab", laid_math_bits_deBruijn32tab), ("math/bits.deBruijn64tab", laid_math_bits_deBruijn64tab), ("internal/strconv.uint64pow10", laid_internal_strconv_uint64pow10)], narrowed := true }
def FnInsertRowUptoSaid : Prop := fnInsertRowUptoRow.holds Tryd.pinned (OpenSpec.upto fnInsertRowSpec)

/-- 'laws.FnRewriteRows', WHERE WHAT IT READS IS OF BULK AT MOST 1048576: true; the input reads as it did. -/
def fnRewriteRowsUptoRow : OpenClaim := { program := "ythhlkedkeefgnaadoor", sum := "16a1b1d566e5e1286d6b59a90656cdd87f765941453b2851000c4fae3060f8b8", func := "loop.example/schemamigration/laws.FnRewriteRows", spec := "fnRewriteRows", inPlace := ["slices.overlaps[loop.example/schemamigration/impl.Column]", "slices.overlaps[loop.example/schemamigration/impl.Value]"], recurses := true, named := ["internal/strconv.uint64pow10", "math/bits.deBruijn32tab", "math/bits.deBruijn64tab"], apart := false, laid := [("math/bits.deBruijn32tab", laid_math_bits_deBruijn32tab), ("math/bits.deBruijn64tab", laid_math_bits_deBruijn64tab), ("internal/strconv.uint64pow10", laid_internal_strconv_uint64pow10)], narrowed := true }
def FnRewriteRowsUptoSaid : Prop := fnRewriteRowsUptoRow.holds Tryd.pinned (OpenSpec.upto fnRewriteRowsSpec)

/-- 'laws.FnExactAlterTable', WHERE WHAT IT READS IS OF BULK AT MOST 1048576: true; the input reads as it did. -/
def fnExactAlterTableUptoRow : OpenClaim := { program := "ythhlkedkeefgnaadoor", sum := "16a1b1d566e5e1286d6b59a90656cdd87f765941453b2851000c4fae3060f8b8", func := "loop.example/schemamigration/laws.FnExactAlterTable", spec := "fnExactAlterTable", inPlace := ["slices.overlaps[loop.example/schemamigration/impl.Column]"], recurses := true, named := ["internal/strconv.uint64pow10", "math/bits.deBruijn32tab", "math/bits.deBruijn64tab"], apart := false, laid := [("math/bits.deBruijn32tab", laid_math_bits_deBruijn32tab), ("math/bits.deBruijn64tab", laid_math_bits_deBruijn64tab), ("internal/strconv.uint64pow10", laid_internal_strconv_uint64pow10)], narrowed := true }
def FnExactAlterTableUptoSaid : Prop := fnExactAlterTableUptoRow.holds Tryd.pinned (OpenSpec.upto fnExactAlterTableSpec)

/-- 'laws.FnExactInsertRow', WHERE WHAT IT READS IS OF BULK AT MOST 1048576: true; the input reads as it did. -/
def fnExactInsertRowUptoRow : OpenClaim := { program := "ythhlkedkeefgnaadoor", sum := "16a1b1d566e5e1286d6b59a90656cdd87f765941453b2851000c4fae3060f8b8", func := "loop.example/schemamigration/laws.FnExactInsertRow", spec := "fnExactInsertRow", inPlace := ["slices.overlaps[loop.example/schemamigration/impl.Column]"], recurses := true, named := ["internal/strconv.uint64pow10", "math/bits.deBruijn32tab", "math/bits.deBruijn64tab"], apart := false, laid := [("math/bits.deBruijn32tab", laid_math_bits_deBruijn32tab), ("math/bits.deBruijn64tab", laid_math_bits_deBruijn64tab), ("internal/strconv.uint64pow10", laid_internal_strconv_uint64pow10)], narrowed := true }
def FnExactInsertRowUptoSaid : Prop := fnExactInsertRowUptoRow.holds Tryd.pinned (OpenSpec.upto fnExactInsertRowSpec)

end Rows
end Go.Proofs.YthhlkedkeefgnaaDoor
