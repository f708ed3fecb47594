/-
  No cell of these rows narrows 'for every input' (looked for: loops, veiled, ifaces, maps, wideKeys, modest, calm, conditions, laid).
  DERIVED. THE GIVEN ROWS OF THIS SEAT. 16 by the template 'for every input the law returns true; each argument reads behind the call as it read before'; 0 by the template 'total and deterministic' (their statements: YtoljdhdfijnjiaaTotals.lean).
  GIVEN WITH THE SEED: the statements are not yours to turn. If you find one false, say at which input.
  Laid BY PROGRAM, IN A SANDBOX (cutbox-rows.mjs): the forced cells as the released guide's own fill.sh prints them over the translation 739011862af1d5e2… (all of the seat's roots in one cut). By AI agents, Wed Nov 11 2026. No macro, syntax, notation, axiom, sorry.
-/
import Derived.Test.YtoljdhdfijnjiaaChecked
import GoSem.Claim
import GoSem.ClaimJoined
import GoSem.ClaimMapViews
import Derived.JoinedTies
import Derived.KernelRfl
namespace Go.Proofs.Ytoljdhdfijnjiaa
/- THE CELL 'sum', in the pinned program and in every row, IS THE sha256 OF THE DUMP (.gsa) THAT YtoljdhdfijnjiaaProg.lean LOADS. Nothing in Lean hashes anything: it is a label: what it is worth is what the hold of that sum in a sandbox is worth. -/
noncomputable def Try.pinned : Pinned := { name := "ytoljdhdfijnjiaa", sum := "739011862af1d5e263894184e6eec3d4671a2481fc25afb9abae4d02b1cf014b", checked := Try.checked }
namespace Rows
def none {H : Type} : Left H := { results := [], args := [] }

/-- 'laws.FnPageFree': WHATEVER THE INPUT: true; the input reads as it did. -/
def fnPageFreeSpec : ChangeSpec := { name := "fnPageFree", fn := fun _ => fun
  | [d] => { results := [.lit (.bool true)], args := [d] }
  | _ => none }
def fnPageFreeRow : OpenClaim := { program := "ytoljdhdfijnjiaa", sum := "739011862af1d5e263894184e6eec3d4671a2481fc25afb9abae4d02b1cf014b", func := "loop.example/schemamigration/laws.FnPageFree", spec := "fnPageFree", unfollowed := true, recurses := true, apart := false }
def FnPageFreeSaid : Prop := fnPageFreeRow.holds Try.pinned (OpenSpec.ofChange fnPageFreeSpec)

/-- ITS FALSE NEIGHBOUR: 'it returns false'. Refute it at one input. -/
def fnPageFreeWrong : ChangeSpec := { name := "fnPageFree", fn := fun _ => fun
  | [d] => { results := [.lit (.bool false)], args := [d] }
  | _ => none }
def FnPageFreeWrongFalsely : Prop := fnPageFreeRow.holds Try.pinned (OpenSpec.ofChange fnPageFreeWrong)

/-- 'laws.FnPutSlotFirst': WHATEVER THE INPUT: true; the input reads as it did. -/
def fnPutSlotFirstSpec : ChangeSpec := { name := "fnPutSlotFirst", fn := fun _ => fun
  | [d] => { results := [.lit (.bool true)], args := [d] }
  | _ => none }
def fnPutSlotFirstRow : OpenClaim := { program := "ytoljdhdfijnjiaa", sum := "739011862af1d5e263894184e6eec3d4671a2481fc25afb9abae4d02b1cf014b", func := "loop.example/schemamigration/laws.FnPutSlotFirst", spec := "fnPutSlotFirst", unfollowed := true, recurses := true, apart := false }
def FnPutSlotFirstSaid : Prop := fnPutSlotFirstRow.holds Try.pinned (OpenSpec.ofChange fnPutSlotFirstSpec)

/-- ITS FALSE NEIGHBOUR: 'it returns false'. Refute it at one input. -/
def fnPutSlotFirstWrong : ChangeSpec := { name := "fnPutSlotFirst", fn := fun _ => fun
  | [d] => { results := [.lit (.bool false)], args := [d] }
  | _ => none }
def FnPutSlotFirstWrongFalsely : Prop := fnPutSlotFirstRow.holds Try.pinned (OpenSpec.ofChange fnPutSlotFirstWrong)

/-- 'laws.FnPutSlot': WHATEVER THE INPUT: true; the input reads as it did. -/
def fnPutSlotSpec : ChangeSpec := { name := "fnPutSlot", fn := fun _ => fun
  | [d] => { results := [.lit (.bool true)], args := [d] }
  | _ => none }
def fnPutSlotRow : OpenClaim := { program := "ytoljdhdfijnjiaa", sum := "739011862af1d5e263894184e6eec3d4671a2481fc25afb9abae4d02b1cf014b", func := "loop.example/schemamigration/laws.FnPutSlot", spec := "fnPutSlot", unfollowed := true, recurses := true, apart := false }
def FnPutSlotSaid : Prop := fnPutSlotRow.holds Try.pinned (OpenSpec.ofChange fnPutSlotSpec)

/-- ITS FALSE NEIGHBOUR: 'it returns false'. Refute it at one input. -/
def fnPutSlotWrong : ChangeSpec := { name := "fnPutSlot", fn := fun _ => fun
  | [d] => { results := [.lit (.bool false)], args := [d] }
  | _ => none }
def FnPutSlotWrongFalsely : Prop := fnPutSlotRow.holds Try.pinned (OpenSpec.ofChange fnPutSlotWrong)

/-- 'laws.FnSetSlot': WHATEVER THE INPUT: true; the input reads as it did. -/
def fnSetSlotSpec : ChangeSpec := { name := "fnSetSlot", fn := fun _ => fun
  | [d] => { results := [.lit (.bool true)], args := [d] }
  | _ => none }
def fnSetSlotRow : OpenClaim := { program := "ytoljdhdfijnjiaa", sum := "739011862af1d5e263894184e6eec3d4671a2481fc25afb9abae4d02b1cf014b", func := "loop.example/schemamigration/laws.FnSetSlot", spec := "fnSetSlot", apart := false }
def FnSetSlotSaid : Prop := fnSetSlotRow.holds Try.pinned (OpenSpec.ofChange fnSetSlotSpec)

/-- ITS FALSE NEIGHBOUR: 'it returns false'. Refute it at one input. -/
def fnSetSlotWrong : ChangeSpec := { name := "fnSetSlot", fn := fun _ => fun
  | [d] => { results := [.lit (.bool false)], args := [d] }
  | _ => none }
def FnSetSlotWrongFalsely : Prop := fnSetSlotRow.holds Try.pinned (OpenSpec.ofChange fnSetSlotWrong)

/-- 'laws.FnClearSlot': WHATEVER THE INPUT: true; the input reads as it did. -/
def fnClearSlotSpec : ChangeSpec := { name := "fnClearSlot", fn := fun _ => fun
  | [d] => { results := [.lit (.bool true)], args := [d] }
  | _ => none }
def fnClearSlotRow : OpenClaim := { program := "ytoljdhdfijnjiaa", sum := "739011862af1d5e263894184e6eec3d4671a2481fc25afb9abae4d02b1cf014b", func := "loop.example/schemamigration/laws.FnClearSlot", spec := "fnClearSlot", apart := false }
def FnClearSlotSaid : Prop := fnClearSlotRow.holds Try.pinned (OpenSpec.ofChange fnClearSlotSpec)

/-- ITS FALSE NEIGHBOUR: 'it returns false'. Refute it at one input. -/
def fnClearSlotWrong : ChangeSpec := { name := "fnClearSlot", fn := fun _ => fun
  | [d] => { results := [.lit (.bool false)], args := [d] }
  | _ => none }
def FnClearSlotWrongFalsely : Prop := fnClearSlotRow.holds Try.pinned (OpenSpec.ofChange fnClearSlotWrong)

/-- 'laws.FnPutSlotBack': WHATEVER THE INPUT: true; the input reads as it did. -/
def fnPutSlotBackSpec : ChangeSpec := { name := "fnPutSlotBack", fn := fun _ => fun
  | [d] => { results := [.lit (.bool true)], args := [d] }
  | _ => none }
def fnPutSlotBackRow : OpenClaim := { program := "ytoljdhdfijnjiaa", sum := "739011862af1d5e263894184e6eec3d4671a2481fc25afb9abae4d02b1cf014b", func := "loop.example/schemamigration/laws.FnPutSlotBack", spec := "fnPutSlotBack", unfollowed := true, recurses := true, apart := false }
def FnPutSlotBackSaid : Prop := fnPutSlotBackRow.holds Try.pinned (OpenSpec.ofChange fnPutSlotBackSpec)

/-- ITS FALSE NEIGHBOUR: 'it returns false'. Refute it at one input. -/
def fnPutSlotBackWrong : ChangeSpec := { name := "fnPutSlotBack", fn := fun _ => fun
  | [d] => { results := [.lit (.bool false)], args := [d] }
  | _ => none }
def FnPutSlotBackWrongFalsely : Prop := fnPutSlotBackRow.holds Try.pinned (OpenSpec.ofChange fnPutSlotBackWrong)

/-- 'laws.FnExactClearSlot': WHATEVER THE INPUT: true; the input reads as it did. -/
def fnExactClearSlotSpec : ChangeSpec := { name := "fnExactClearSlot", fn := fun _ => fun
  | [d1, d2] => { results := [.lit (.bool true)], args := [d1, d2] }
  | _ => none }
def fnExactClearSlotRow : OpenClaim := { program := "ytoljdhdfijnjiaa", sum := "739011862af1d5e263894184e6eec3d4671a2481fc25afb9abae4d02b1cf014b", func := "loop.example/schemamigration/laws.FnExactClearSlot", spec := "fnExactClearSlot", apart := false }
def FnExactClearSlotSaid : Prop := fnExactClearSlotRow.holds Try.pinned (OpenSpec.ofChange fnExactClearSlotSpec)

/-- ITS FALSE NEIGHBOUR: 'it returns false'. Refute it at one input. -/
def fnExactClearSlotWrong : ChangeSpec := { name := "fnExactClearSlot", fn := fun _ => fun
  | [d1, d2] => { results := [.lit (.bool false)], args := [d1, d2] }
  | _ => none }
def FnExactClearSlotWrongFalsely : Prop := fnExactClearSlotRow.holds Try.pinned (OpenSpec.ofChange fnExactClearSlotWrong)

/-- 'laws.FnExactSetSlot': WHATEVER THE INPUT: true; the input reads as it did. -/
def fnExactSetSlotSpec : ChangeSpec := { name := "fnExactSetSlot", fn := fun _ => fun
  | [d1, d2, d3] => { results := [.lit (.bool true)], args := [d1, d2, d3] }
  | _ => none }
def fnExactSetSlotRow : OpenClaim := { program := "ytoljdhdfijnjiaa", sum := "739011862af1d5e263894184e6eec3d4671a2481fc25afb9abae4d02b1cf014b", func := "loop.example/schemamigration/laws.FnExactSetSlot", spec := "fnExactSetSlot", apart := false }
def FnExactSetSlotSaid : Prop := fnExactSetSlotRow.holds Try.pinned (OpenSpec.ofChange fnExactSetSlotSpec)

/-- ITS FALSE NEIGHBOUR: 'it returns false'. Refute it at one input. -/
def fnExactSetSlotWrong : ChangeSpec := { name := "fnExactSetSlot", fn := fun _ => fun
  | [d1, d2, d3] => { results := [.lit (.bool false)], args := [d1, d2, d3] }
  | _ => none }
def FnExactSetSlotWrongFalsely : Prop := fnExactSetSlotRow.holds Try.pinned (OpenSpec.ofChange fnExactSetSlotWrong)

/-- 'laws.FnExactPutSlot': WHATEVER THE INPUT: true; the input reads as it did. -/
def fnExactPutSlotSpec : ChangeSpec := { name := "fnExactPutSlot", fn := fun _ => fun
  | [d1, d2] => { results := [.lit (.bool true)], args := [d1, d2] }
  | _ => none }
def fnExactPutSlotRow : OpenClaim := { program := "ytoljdhdfijnjiaa", sum := "739011862af1d5e263894184e6eec3d4671a2481fc25afb9abae4d02b1cf014b", func := "loop.example/schemamigration/laws.FnExactPutSlot", spec := "fnExactPutSlot", unfollowed := true, recurses := true, apart := false }
def FnExactPutSlotSaid : Prop := fnExactPutSlotRow.holds Try.pinned (OpenSpec.ofChange fnExactPutSlotSpec)

/-- ITS FALSE NEIGHBOUR: 'it returns false'. Refute it at one input. -/
def fnExactPutSlotWrong : ChangeSpec := { name := "fnExactPutSlot", fn := fun _ => fun
  | [d1, d2] => { results := [.lit (.bool false)], args := [d1, d2] }
  | _ => none }
def FnExactPutSlotWrongFalsely : Prop := fnExactPutSlotRow.holds Try.pinned (OpenSpec.ofChange fnExactPutSlotWrong)

/-- 'laws.FnHeapInsertFirst': WHATEVER THE INPUT: true; the input reads as it did. -/
def fnHeapInsertFirstSpec : ChangeSpec := { name := "fnHeapInsertFirst", fn := fun _ => fun
  | [d] => { results := [.lit (.bool true)], args := [d] }
  | _ => none }
def fnHeapInsertFirstRow : OpenClaim := { program := "ytoljdhdfijnjiaa", sum := "739011862af1d5e263894184e6eec3d4671a2481fc25afb9abae4d02b1cf014b", func := "loop.example/schemamigration/laws.FnHeapInsertFirst", spec := "fnHeapInsertFirst", unfollowed := true, recurses := true, apart := false }
def FnHeapInsertFirstSaid : Prop := fnHeapInsertFirstRow.holds Try.pinned (OpenSpec.ofChange fnHeapInsertFirstSpec)

/-- ITS FALSE NEIGHBOUR: 'it returns false'. Refute it at one input. -/
def fnHeapInsertFirstWrong : ChangeSpec := { name := "fnHeapInsertFirst", fn := fun _ => fun
  | [d] => { results := [.lit (.bool false)], args := [d] }
  | _ => none }
def FnHeapInsertFirstWrongFalsely : Prop := fnHeapInsertFirstRow.holds Try.pinned (OpenSpec.ofChange fnHeapInsertFirstWrong)

/-- 'laws.FnHeapInsert': WHATEVER THE INPUT: true; the input reads as it did. -/
def fnHeapInsertSpec : ChangeSpec := { name := "fnHeapInsert", fn := fun _ => fun
  | [d] => { results := [.lit (.bool true)], args := [d] }
  | _ => none }
def fnHeapInsertRow : OpenClaim := { program := "ytoljdhdfijnjiaa", sum := "739011862af1d5e263894184e6eec3d4671a2481fc25afb9abae4d02b1cf014b", func := "loop.example/schemamigration/laws.FnHeapInsert", spec := "fnHeapInsert", unfollowed := true, recurses := true, apart := false }
def FnHeapInsertSaid : Prop := fnHeapInsertRow.holds Try.pinned (OpenSpec.ofChange fnHeapInsertSpec)

/-- ITS FALSE NEIGHBOUR: 'it returns false'. Refute it at one input. -/
def fnHeapInsertWrong : ChangeSpec := { name := "fnHeapInsert", fn := fun _ => fun
  | [d] => { results := [.lit (.bool false)], args := [d] }
  | _ => none }
def FnHeapInsertWrongFalsely : Prop := fnHeapInsertRow.holds Try.pinned (OpenSpec.ofChange fnHeapInsertWrong)

/-- 'laws.FnHeapDelete': WHATEVER THE INPUT: true; the input reads as it did. -/
def fnHeapDeleteSpec : ChangeSpec := { name := "fnHeapDelete", fn := fun _ => fun
  | [d] => { results := [.lit (.bool true)], args := [d] }
  | _ => none }
def fnHeapDeleteRow : OpenClaim := { program := "ytoljdhdfijnjiaa", sum := "739011862af1d5e263894184e6eec3d4671a2481fc25afb9abae4d02b1cf014b", func := "loop.example/schemamigration/laws.FnHeapDelete", spec := "fnHeapDelete", apart := false }
def FnHeapDeleteSaid : Prop := fnHeapDeleteRow.holds Try.pinned (OpenSpec.ofChange fnHeapDeleteSpec)

/-- ITS FALSE NEIGHBOUR: 'it returns false'. Refute it at one input. -/
def fnHeapDeleteWrong : ChangeSpec := { name := "fnHeapDelete", fn := fun _ => fun
  | [d] => { results := [.lit (.bool false)], args := [d] }
  | _ => none }
def FnHeapDeleteWrongFalsely : Prop := fnHeapDeleteRow.holds Try.pinned (OpenSpec.ofChange fnHeapDeleteWrong)

/-- 'laws.FnExactHeapDelete': WHATEVER THE INPUT: true; the input reads as it did. -/
def fnExactHeapDeleteSpec : ChangeSpec := { name := "fnExactHeapDelete", fn := fun _ => fun
  | [d1, d2] => { results := [.lit (.bool true)], args := [d1, d2] }
  | _ => none }
def fnExactHeapDeleteRow : OpenClaim := { program := "ytoljdhdfijnjiaa", sum := "739011862af1d5e263894184e6eec3d4671a2481fc25afb9abae4d02b1cf014b", func := "loop.example/schemamigration/laws.FnExactHeapDelete", spec := "fnExactHeapDelete", apart := false }
def FnExactHeapDeleteSaid : Prop := fnExactHeapDeleteRow.holds Try.pinned (OpenSpec.ofChange fnExactHeapDeleteSpec)

/-- ITS FALSE NEIGHBOUR: 'it returns false'. Refute it at one input. -/
def fnExactHeapDeleteWrong : ChangeSpec := { name := "fnExactHeapDelete", fn := fun _ => fun
  | [d1, d2] => { results := [.lit (.bool false)], args := [d1, d2] }
  | _ => none }
def FnExactHeapDeleteWrongFalsely : Prop := fnExactHeapDeleteRow.holds Try.pinned (OpenSpec.ofChange fnExactHeapDeleteWrong)

/-- 'laws.FnExactHeapInsert': WHATEVER THE INPUT: true; the input reads as it did. -/
def fnExactHeapInsertSpec : ChangeSpec := { name := "fnExactHeapInsert", fn := fun _ => fun
  | [d1, d2] => { results := [.lit (.bool true)], args := [d1, d2] }
  | _ => none }
def fnExactHeapInsertRow : OpenClaim := { program := "ytoljdhdfijnjiaa", sum := "739011862af1d5e263894184e6eec3d4671a2481fc25afb9abae4d02b1cf014b", func := "loop.example/schemamigration/laws.FnExactHeapInsert", spec := "fnExactHeapInsert", unfollowed := true, recurses := true, apart := false }
def FnExactHeapInsertSaid : Prop := fnExactHeapInsertRow.holds Try.pinned (OpenSpec.ofChange fnExactHeapInsertSpec)

/-- ITS FALSE NEIGHBOUR: 'it returns false'. Refute it at one input. -/
def fnExactHeapInsertWrong : ChangeSpec := { name := "fnExactHeapInsert", fn := fun _ => fun
  | [d1, d2] => { results := [.lit (.bool false)], args := [d1, d2] }
  | _ => none }
def FnExactHeapInsertWrongFalsely : Prop := fnExactHeapInsertRow.holds Try.pinned (OpenSpec.ofChange fnExactHeapInsertWrong)

/-- 'laws.FnHeapUpdate': WHATEVER THE INPUT: true; the input reads as it did. -/
def fnHeapUpdateSpec : ChangeSpec := { name := "fnHeapUpdate", fn := fun _ => fun
  | [d] => { results := [.lit (.bool true)], args := [d] }
  | _ => none }
def fnHeapUpdateRow : OpenClaim := { program := "ytoljdhdfijnjiaa", sum := "739011862af1d5e263894184e6eec3d4671a2481fc25afb9abae4d02b1cf014b", func := "loop.example/schemamigration/laws.FnHeapUpdate", spec := "fnHeapUpdate", unfollowed := true, recurses := true, apart := false }
def FnHeapUpdateSaid : Prop := fnHeapUpdateRow.holds Try.pinned (OpenSpec.ofChange fnHeapUpdateSpec)

/-- ITS FALSE NEIGHBOUR: 'it returns false'. Refute it at one input. -/
def fnHeapUpdateWrong : ChangeSpec := { name := "fnHeapUpdate", fn := fun _ => fun
  | [d] => { results := [.lit (.bool false)], args := [d] }
  | _ => none }
def FnHeapUpdateWrongFalsely : Prop := fnHeapUpdateRow.holds Try.pinned (OpenSpec.ofChange fnHeapUpdateWrong)

/-- 'laws.FnExactHeapUpdate': WHATEVER THE INPUT: true; the input reads as it did. -/
def fnExactHeapUpdateSpec : ChangeSpec := { name := "fnExactHeapUpdate", fn := fun _ => fun
  | [d1, d2, d3] => { results := [.lit (.bool true)], args := [d1, d2, d3] }
  | _ => none }
def fnExactHeapUpdateRow : OpenClaim := { program := "ytoljdhdfijnjiaa", sum := "739011862af1d5e263894184e6eec3d4671a2481fc25afb9abae4d02b1cf014b", func := "loop.example/schemamigration/laws.FnExactHeapUpdate", spec := "fnExactHeapUpdate", unfollowed := true, recurses := true, apart := false }
def FnExactHeapUpdateSaid : Prop := fnExactHeapUpdateRow.holds Try.pinned (OpenSpec.ofChange fnExactHeapUpdateSpec)

/-- ITS FALSE NEIGHBOUR: 'it returns false'. Refute it at one input. -/
def fnExactHeapUpdateWrong : ChangeSpec := { name := "fnExactHeapUpdate", fn := fun _ => fun
  | [d1, d2, d3] => { results := [.lit (.bool false)], args := [d1, d2, d3] }
  | _ => none }
def FnExactHeapUpdateWrongFalsely : Prop := fnExactHeapUpdateRow.holds Try.pinned (OpenSpec.ofChange fnExactHeapUpdateWrong)

/- THE SECOND FORM. 'bulk': how many values and letters a reading holds, each counted each time it is reached (what is shared counts as often as it is met; a slice's spare places count too). A statement '..UptoSaid' is the law's where the arguments, and the package variables that the reading takes, are together of bulk at most 1048576: NARROWER than '..Said'. Prove '..Said' where nothing that the law and all that it calls make is longer than what came in: it says more and counts as full. Else prove '..UptoSaid'. A law counts once. -/
mutual
def uptoBulk {H : Type} : DataW H → Nat
  | .lit (.string bytes) => bytes.length + 1
  | .lit _ => 1
  | .nil => 1
  | .ptr d => uptoBulk d + 1
  | .slice elems spare => uptoBulkAll elems + uptoBulkAll spare + 1
  | .agg parts => uptoBulkAll parts + 1
  | .iface _ d => uptoBulk d + 1
  | .map entries => uptoBulkEntries entries + 1
  | .held _ => 1
def uptoBulkAll {H : Type} : List (DataW H) → Nat
  | [] => 0
  | d :: r => uptoBulk d + uptoBulkAll r
def uptoBulkEntries {H : Type} : List (Lit × DataW H) → Nat
  | [] => 0
  | x :: r => uptoBulkEntry x + uptoBulkEntries r
def uptoBulkEntry {H : Type} : Lit × DataW H → Nat
  | (.string bytes, d) => bytes.length + uptoBulk d + 1
  | (_, d) => uptoBulk d + 1
 end
def uptoSmall : (H : Type) → List (DataW H) → Bool := fun _ ds => decide (uptoBulkAll ds ≤ 1048576)
def OpenSpec.upto (s : _root_.Go.ChangeSpec) : _root_.Go.OpenSpec := { _root_.Go.OpenSpec.ofChange s with cond := some uptoSmall }

/-- 'laws.FnPageFree', WHERE WHAT IT READS IS OF BULK AT MOST 1048576: true; the input reads as it did. -/
def fnPageFreeUptoRow : OpenClaim := { program := "ytoljdhdfijnjiaa", sum := "739011862af1d5e263894184e6eec3d4671a2481fc25afb9abae4d02b1cf014b", func := "loop.example/schemamigration/laws.FnPageFree", spec := "fnPageFree", unfollowed := true, recurses := true, apart := false, narrowed := true }
def FnPageFreeUptoSaid : Prop := fnPageFreeUptoRow.holds Try.pinned (OpenSpec.upto fnPageFreeSpec)

/-- 'laws.FnPutSlotFirst', WHERE WHAT IT READS IS OF BULK AT MOST 1048576: true; the input reads as it did. -/
def fnPutSlotFirstUptoRow : OpenClaim := { program := "ytoljdhdfijnjiaa", sum := "739011862af1d5e263894184e6eec3d4671a2481fc25afb9abae4d02b1cf014b", func := "loop.example/schemamigration/laws.FnPutSlotFirst", spec := "fnPutSlotFirst", unfollowed := true, recurses := true, apart := false, narrowed := true }
def FnPutSlotFirstUptoSaid : Prop := fnPutSlotFirstUptoRow.holds Try.pinned (OpenSpec.upto fnPutSlotFirstSpec)

/-- 'laws.FnPutSlot', WHERE WHAT IT READS IS OF BULK AT MOST 1048576: true; the input reads as it did. -/
def fnPutSlotUptoRow : OpenClaim := { program := "ytoljdhdfijnjiaa", sum := "739011862af1d5e263894184e6eec3d4671a2481fc25afb9abae4d02b1cf014b", func := "loop.example/schemamigration/laws.FnPutSlot", spec := "fnPutSlot", unfollowed := true, recurses := true, apart := false, narrowed := true }
def FnPutSlotUptoSaid : Prop := fnPutSlotUptoRow.holds Try.pinned (OpenSpec.upto fnPutSlotSpec)

/-- 'laws.FnSetSlot', WHERE WHAT IT READS IS OF BULK AT MOST 1048576: true; the input reads as it did. -/
def fnSetSlotUptoRow : OpenClaim := { program := "ytoljdhdfijnjiaa", sum := "739011862af1d5e263894184e6eec3d4671a2481fc25afb9abae4d02b1cf014b", func := "loop.example/schemamigration/laws.FnSetSlot", spec := "fnSetSlot", apart := false, narrowed := true }
def FnSetSlotUptoSaid : Prop := fnSetSlotUptoRow.holds Try.pinned (OpenSpec.upto fnSetSlotSpec)

/-- 'laws.FnClearSlot', WHERE WHAT IT READS IS OF BULK AT MOST 1048576: true; the input reads as it did. -/
def fnClearSlotUptoRow : OpenClaim := { program := "ytoljdhdfijnjiaa", sum := "739011862af1d5e263894184e6eec3d4671a2481fc25afb9abae4d02b1cf014b", func := "loop.example/schemamigration/laws.FnClearSlot", spec := "fnClearSlot", apart := false, narrowed := true }
def FnClearSlotUptoSaid : Prop := fnClearSlotUptoRow.holds Try.pinned (OpenSpec.upto fnClearSlotSpec)

/-- 'laws.FnPutSlotBack', WHERE WHAT IT READS IS OF BULK AT MOST 1048576: true; the input reads as it did. -/
def fnPutSlotBackUptoRow : OpenClaim := { program := "ytoljdhdfijnjiaa", sum := "739011862af1d5e263894184e6eec3d4671a2481fc25afb9abae4d02b1cf014b", func := "loop.example/schemamigration/laws.FnPutSlotBack", spec := "fnPutSlotBack", unfollowed := true, recurses := true, apart := false, narrowed := true }
def FnPutSlotBackUptoSaid : Prop := fnPutSlotBackUptoRow.holds Try.pinned (OpenSpec.upto fnPutSlotBackSpec)

/-- 'laws.FnExactClearSlot', WHERE WHAT IT READS IS OF BULK AT MOST 1048576: true; the input reads as it did. -/
def fnExactClearSlotUptoRow : OpenClaim := { program := "ytoljdhdfijnjiaa", sum := "739011862af1d5e263894184e6eec3d4671a2481fc25afb9abae4d02b1cf014b", func := "loop.example/schemamigration/laws.FnExactClearSlot", spec := "fnExactClearSlot", apart := false, narrowed := true }
def FnExactClearSlotUptoSaid : Prop := fnExactClearSlotUptoRow.holds Try.pinned (OpenSpec.upto fnExactClearSlotSpec)

/-- 'laws.FnExactSetSlot', WHERE WHAT IT READS IS OF BULK AT MOST 1048576: true; the input reads as it did. -/
def fnExactSetSlotUptoRow : OpenClaim := { program := "ytoljdhdfijnjiaa", sum := "739011862af1d5e263894184e6eec3d4671a2481fc25afb9abae4d02b1cf014b", func := "loop.example/schemamigration/laws.FnExactSetSlot", spec := "fnExactSetSlot", apart := false, narrowed := true }
def FnExactSetSlotUptoSaid : Prop := fnExactSetSlotUptoRow.holds Try.pinned (OpenSpec.upto fnExactSetSlotSpec)

/-- 'laws.FnExactPutSlot', WHERE WHAT IT READS IS OF BULK AT MOST 1048576: true; the input reads as it did. -/
def fnExactPutSlotUptoRow : OpenClaim := { program := "ytoljdhdfijnjiaa", sum := "739011862af1d5e263894184e6eec3d4671a2481fc25afb9abae4d02b1cf014b", func := "loop.example/schemamigration/laws.FnExactPutSlot", spec := "fnExactPutSlot", unfollowed := true, recurses := true, apart := false, narrowed := true }
def FnExactPutSlotUptoSaid : Prop := fnExactPutSlotUptoRow.holds Try.pinned (OpenSpec.upto fnExactPutSlotSpec)

/-- 'laws.FnHeapInsertFirst', WHERE WHAT IT READS IS OF BULK AT MOST 1048576: true; the input reads as it did. -/
def fnHeapInsertFirstUptoRow : OpenClaim := { program := "ytoljdhdfijnjiaa", sum := "739011862af1d5e263894184e6eec3d4671a2481fc25afb9abae4d02b1cf014b", func := "loop.example/schemamigration/laws.FnHeapInsertFirst", spec := "fnHeapInsertFirst", unfollowed := true, recurses := true, apart := false, narrowed := true }
def FnHeapInsertFirstUptoSaid : Prop := fnHeapInsertFirstUptoRow.holds Try.pinned (OpenSpec.upto fnHeapInsertFirstSpec)

/-- 'laws.FnHeapInsert', WHERE WHAT IT READS IS OF BULK AT MOST 1048576: true; the input reads as it did. -/
def fnHeapInsertUptoRow : OpenClaim := { program := "ytoljdhdfijnjiaa", sum := "739011862af1d5e263894184e6eec3d4671a2481fc25afb9abae4d02b1cf014b", func := "loop.example/schemamigration/laws.FnHeapInsert", spec := "fnHeapInsert", unfollowed := true, recurses := true, apart := false, narrowed := true }
def FnHeapInsertUptoSaid : Prop := fnHeapInsertUptoRow.holds Try.pinned (OpenSpec.upto fnHeapInsertSpec)

/-- 'laws.FnHeapDelete', WHERE WHAT IT READS IS OF BULK AT MOST 1048576: true; the input reads as it did. -/
def fnHeapDeleteUptoRow : OpenClaim := { program := "ytoljdhdfijnjiaa", sum := "739011862af1d5e263894184e6eec3d4671a2481fc25afb9abae4d02b1cf014b", func := "loop.example/schemamigration/laws.FnHeapDelete", spec := "fnHeapDelete", apart := false, narrowed := true }
def FnHeapDeleteUptoSaid : Prop := fnHeapDeleteUptoRow.holds Try.pinned (OpenSpec.upto fnHeapDeleteSpec)

/-- 'laws.FnExactHeapDelete', WHERE WHAT IT READS IS OF BULK AT MOST 1048576: true; the input reads as it did. -/
def fnExactHeapDeleteUptoRow : OpenClaim := { program := "ytoljdhdfijnjiaa", sum := "739011862af1d5e263894184e6eec3d4671a2481fc25afb9abae4d02b1cf014b", func := "loop.example/schemamigration/laws.FnExactHeapDelete", spec := "fnExactHeapDelete", apart := false, narrowed := true }
def FnExactHeapDeleteUptoSaid : Prop := fnExactHeapDeleteUptoRow.holds Try.pinned (OpenSpec.upto fnExactHeapDeleteSpec)

/-- 'laws.FnExactHeapInsert', WHERE WHAT IT READS IS OF BULK AT MOST 1048576: true; the input reads as it did. -/
def fnExactHeapInsertUptoRow : OpenClaim := { program := "ytoljdhdfijnjiaa", sum := "739011862af1d5e263894184e6eec3d4671a2481fc25afb9abae4d02b1cf014b", func := "loop.example/schemamigration/laws.FnExactHeapInsert", spec := "fnExactHeapInsert", unfollowed := true, recurses := true, apart := false, narrowed := true }
def FnExactHeapInsertUptoSaid : Prop := fnExactHeapInsertUptoRow.holds Try.pinned (OpenSpec.upto fnExactHeapInsertSpec)

/-- 'laws.FnHeapUpdate', WHERE WHAT IT READS IS OF BULK AT MOST 1048576: true; the input reads as it did. -/
def fnHeapUpdateUptoRow : OpenClaim := { program := "ytoljdhdfijnjiaa", sum := "739011862af1d5e263894184e6eec3d4671a2481fc25afb9abae4d02b1cf014b", func := "loop.example/schemamigration/laws.FnHeapUpdate", spec := "fnHeapUpdate", unfollowed := true, recurses := true, apart := false, narrowed := true }
def FnHeapUpdateUptoSaid : Prop := fnHeapUpdateUptoRow.holds Try.pinned (OpenSpec.upto fnHeapUpdateSpec)

/-- 'laws.FnExactHeapUpdate', WHERE WHAT IT READS IS OF BULK AT MOST 1048576: true; the input reads as it did. -/
def fnExactHeapUpdateUptoRow : OpenClaim := { program := "ytoljdhdfijnjiaa", sum := "739011862af1d5e263894184e6eec3d4671a2481fc25afb9abae4d02b1cf014b", func := "loop.example/schemamigration/laws.FnExactHeapUpdate", spec := "fnExactHeapUpdate", unfollowed := true, recurses := true, apart := false, narrowed := true }
def FnExactHeapUpdateUptoSaid : Prop := fnExactHeapUpdateUptoRow.holds Try.pinned (OpenSpec.upto fnExactHeapUpdateSpec)

end Rows
end Go.Proofs.Ytoljdhdfijnjiaa
