/-
  No cell of these rows narrows 'for every input' (looked for: loops, veiled, ifaces, maps, wideKeys, modest, calm, conditions, laid).
  DERIVED. THE GIVEN ROWS OF THIS SEAT. 3 by the template 'for every input the law returns true; each argument reads behind the call as it read before'; 0 by the template 'total and deterministic' (their statements: YtmnjnkcooofgjaaTotals.lean).
  GIVEN WITH THE SEED: the statements are not yours to turn. If you find one false, say at which input.
  Laid BY PROGRAM, IN A SANDBOX (cutbox-rows.mjs): the forced cells as the released guide's own fill.sh prints them over the translation e63b4ea847031048… (all of the seat's roots in one cut). By AI agents, Wed Nov 11 2026. No macro, syntax, notation, axiom, sorry.
-/
import Derived.Test.YtmnjnkcooofgjaaChecked
import GoSem.Claim
import GoSem.ClaimJoined
import GoSem.ClaimMapViews
import Derived.JoinedTies
import Derived.KernelRfl
namespace Go.Proofs.Ytmnjnkcooofgjaa
/- THE CELL 'sum', in the pinned program and in every row, IS THE sha256 OF THE DUMP (.gsa) THAT YtmnjnkcooofgjaaProg.lean LOADS. Nothing in Lean hashes anything: it is a label: what it is worth is what the hold of that sum in a sandbox is worth. -/
noncomputable def Try.pinned : Pinned := { name := "ytmnjnkcooofgjaa", sum := "e63b4ea8470310480f50132a5ab4bbf0f31f0013fc3ec92085b2acb7d92fa949", checked := Try.checked }
namespace Rows
def none {H : Type} : Left H := { results := [], args := [] }

/-- 'laws.FnExactHeapDelete': WHATEVER THE INPUT: true; the input reads as it did. -/
def fnExactHeapDeleteSpec : ChangeSpec := { name := "fnExactHeapDelete", fn := fun _ => fun
  | [d1, d2] => { results := [.lit (.bool true)], args := [d1, d2] }
  | _ => none }
def fnExactHeapDeleteRow : OpenClaim := { program := "ytmnjnkcooofgjaa", sum := "e63b4ea8470310480f50132a5ab4bbf0f31f0013fc3ec92085b2acb7d92fa949", func := "loop.example/schemamigration/laws.FnExactHeapDelete", spec := "fnExactHeapDelete", apart := false }
def FnExactHeapDeleteSaid : Prop := fnExactHeapDeleteRow.holds Try.pinned (OpenSpec.ofChange fnExactHeapDeleteSpec)

/-- ITS FALSE NEIGHBOUR: 'it returns false'. Refute it at one input. -/
def fnExactHeapDeleteWrong : ChangeSpec := { name := "fnExactHeapDelete", fn := fun _ => fun
  | [d1, d2] => { results := [.lit (.bool false)], args := [d1, d2] }
  | _ => none }
def FnExactHeapDeleteWrongFalsely : Prop := fnExactHeapDeleteRow.holds Try.pinned (OpenSpec.ofChange fnExactHeapDeleteWrong)

/-- 'laws.FnExactHeapInsert': WHATEVER THE INPUT: true; the input reads as it did. -/
def fnExactHeapInsertSpec : ChangeSpec := { name := "fnExactHeapInsert", fn := fun _ => fun
  | [d1, d2] => { results := [.lit (.bool true)], args := [d1, d2] }
  | _ => none }
def fnExactHeapInsertRow : OpenClaim := { program := "ytmnjnkcooofgjaa", sum := "e63b4ea8470310480f50132a5ab4bbf0f31f0013fc3ec92085b2acb7d92fa949", func := "loop.example/schemamigration/laws.FnExactHeapInsert", spec := "fnExactHeapInsert", unfollowed := true, recurses := true, apart := false }
def FnExactHeapInsertSaid : Prop := fnExactHeapInsertRow.holds Try.pinned (OpenSpec.ofChange fnExactHeapInsertSpec)

/-- ITS FALSE NEIGHBOUR: 'it returns false'. Refute it at one input. -/
def fnExactHeapInsertWrong : ChangeSpec := { name := "fnExactHeapInsert", fn := fun _ => fun
  | [d1, d2] => { results := [.lit (.bool false)], args := [d1, d2] }
  | _ => none }
def FnExactHeapInsertWrongFalsely : Prop := fnExactHeapInsertRow.holds Try.pinned (OpenSpec.ofChange fnExactHeapInsertWrong)

/-- 'laws.FnExactHeapUpdate': WHATEVER THE INPUT: true; the input reads as it did. -/
def fnExactHeapUpdateSpec : ChangeSpec := { name := "fnExactHeapUpdate", fn := fun _ => fun
  | [d1, d2, d3] => { results := [.lit (.bool true)], args := [d1, d2, d3] }
  | _ => none }
def fnExactHeapUpdateRow : OpenClaim := { program := "ytmnjnkcooofgjaa", sum := "e63b4ea8470310480f50132a5ab4bbf0f31f0013fc3ec92085b2acb7d92fa949", func := "loop.example/schemamigration/laws.FnExactHeapUpdate", spec := "fnExactHeapUpdate", unfollowed := true, recurses := true, apart := false }
def FnExactHeapUpdateSaid : Prop := fnExactHeapUpdateRow.holds Try.pinned (OpenSpec.ofChange fnExactHeapUpdateSpec)

/-- ITS FALSE NEIGHBOUR: 'it returns false'. Refute it at one input. -/
def fnExactHeapUpdateWrong : ChangeSpec := { name := "fnExactHeapUpdate", fn := fun _ => fun
  | [d1, d2, d3] => { results := [.lit (.bool false)], args := [d1, d2, d3] }
  | _ => none }
def FnExactHeapUpdateWrongFalsely : Prop := fnExactHeapUpdateRow.holds Try.pinned (OpenSpec.ofChange fnExactHeapUpdateWrong)

/- THE SECOND FORM. 'bulk': how many values and letters a reading holds, each counted each time it is reached (what is shared counts as often as it is met; a slice's spare places count too). A statement '..UptoSaid' is the law's where the arguments, and the package variables that the reading takes, are together of bulk at most 1048576: NARROWER than '..Said'. Prove '..Said' where nothing that the law and all that it calls make is longer than what came in: it says more and counts as full. Else prove '..UptoSaid'. A law counts once. -/
mutual
def uptoBulk {H : Type} : DataW H → Nat
  | .lit (.string bytes) => bytes.length + 1
  | .lit _ => 1
  | .nil => 1
  | .ptr d => uptoBulk d + 1
  | .slice elems spare => uptoBulkAll elems + uptoBulkAll spare + 1
  | .agg parts => uptoBulkAll parts + 1
  | .iface _ d => uptoBulk d + 1
  | .map entries => uptoBulkEntries entries + 1
  | .held _ => 1
def uptoBulkAll {H : Type} : List (DataW H) → Nat
  | [] => 0
  | d :: r => uptoBulk d + uptoBulkAll r
def uptoBulkEntries {H : Type} : List (Lit × DataW H) → Nat
  | [] => 0
  | x :: r => uptoBulkEntry x + uptoBulkEntries r
def uptoBulkEntry {H : Type} : Lit × DataW H → Nat
  | (.string bytes, d) => bytes.length + uptoBulk d + 1
  | (_, d) => uptoBulk d + 1
 end
def uptoSmall : (H : Type) → List (DataW H) → Bool := fun _ ds => decide (uptoBulkAll ds ≤ 1048576)
def OpenSpec.upto (s : _root_.Go.ChangeSpec) : _root_.Go.OpenSpec := { _root_.Go.OpenSpec.ofChange s with cond := some uptoSmall }

/-- 'laws.FnExactHeapDelete', WHERE WHAT IT READS IS OF BULK AT MOST 1048576: true; the input reads as it did. -/
def fnExactHeapDeleteUptoRow : OpenClaim := { program := "ytmnjnkcooofgjaa", sum := "e63b4ea8470310480f50132a5ab4bbf0f31f0013fc3ec92085b2acb7d92fa949", func := "loop.example/schemamigration/laws.FnExactHeapDelete", spec := "fnExactHeapDelete", apart := false, narrowed := true }
def FnExactHeapDeleteUptoSaid : Prop := fnExactHeapDeleteUptoRow.holds Try.pinned (OpenSpec.upto fnExactHeapDeleteSpec)

/-- 'laws.FnExactHeapInsert', WHERE WHAT IT READS IS OF BULK AT MOST 1048576: true; the input reads as it did. -/
def fnExactHeapInsertUptoRow : OpenClaim := { program := "ytmnjnkcooofgjaa", sum := "e63b4ea8470310480f50132a5ab4bbf0f31f0013fc3ec92085b2acb7d92fa949", func := "loop.example/schemamigration/laws.FnExactHeapInsert", spec := "fnExactHeapInsert", unfollowed := true, recurses := true, apart := false, narrowed := true }
def FnExactHeapInsertUptoSaid : Prop := fnExactHeapInsertUptoRow.holds Try.pinned (OpenSpec.upto fnExactHeapInsertSpec)

/-- 'laws.FnExactHeapUpdate', WHERE WHAT IT READS IS OF BULK AT MOST 1048576: true; the input reads as it did. -/
def fnExactHeapUpdateUptoRow : OpenClaim := { program := "ytmnjnkcooofgjaa", sum := "e63b4ea8470310480f50132a5ab4bbf0f31f0013fc3ec92085b2acb7d92fa949", func := "loop.example/schemamigration/laws.FnExactHeapUpdate", spec := "fnExactHeapUpdate", unfollowed := true, recurses := true, apart := false, narrowed := true }
def FnExactHeapUpdateUptoSaid : Prop := fnExactHeapUpdateUptoRow.holds Try.pinned (OpenSpec.upto fnExactHeapUpdateSpec)

end Rows
end Go.Proofs.Ytmnjnkcooofgjaa
