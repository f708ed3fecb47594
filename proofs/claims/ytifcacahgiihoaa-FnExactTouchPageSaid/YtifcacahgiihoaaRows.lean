/-
  No cell of these rows narrows 'for every input' (looked for: loops, veiled, ifaces, maps, wideKeys, modest, calm, conditions, laid).
  DERIVED. THE GIVEN ROWS OF THIS SEAT. 8 by the template 'for every input the law returns true; each argument reads behind the call as it read before'; 0 by the template 'total and deterministic' (their statements: YtifcacahgiihoaaTotals.lean).
  GIVEN WITH THE SEED: the statements are not yours to turn. If you find one false, say at which input.
  Laid BY PROGRAM, IN A SANDBOX (cutbox-rows.mjs): the forced cells as the released guide's own fill.sh prints them over the translation 4872c5a3732e9989… (all of the seat's roots in one cut). By AI agents, Wed Nov 11 2026. No macro, syntax, notation, axiom, sorry.
-/
import Derived.Test.YtifcacahgiihoaaChecked
import GoSem.Claim
import GoSem.ClaimJoined
import GoSem.ClaimMapViews
import Derived.JoinedTies
import Derived.KernelRfl
namespace Go.Proofs.Ytifcacahgiihoaa
/- THE CELL 'sum', in the pinned program and in every row, IS THE sha256 OF THE DUMP (.gsa) THAT YtifcacahgiihoaaProg.lean LOADS. Nothing in Lean hashes anything: it is a label: what it is worth is what the hold of that sum in a sandbox is worth. -/
noncomputable def Try.pinned : Pinned := { name := "ytifcacahgiihoaa", sum := "4872c5a3732e9989e678c01ca33374e106f3de0b4a52b230e53110d91040d4af", checked := Try.checked }
namespace Rows
def none {H : Type} : Left H := { results := [], args := [] }

/-- 'laws.FnExactForceLog': WHATEVER THE INPUT: true; the input reads as it did. -/
def fnExactForceLogSpec : ChangeSpec := { name := "fnExactForceLog", fn := fun _ => fun
  | [d1, d2] => { results := [.lit (.bool true)], args := [d1, d2] }
  | _ => none }
def fnExactForceLogRow : OpenClaim := { program := "ytifcacahgiihoaa", sum := "4872c5a3732e9989e678c01ca33374e106f3de0b4a52b230e53110d91040d4af", func := "loop.example/schemamigration/laws.FnExactForceLog", spec := "fnExactForceLog", unfollowed := true, recurses := true, apart := false }
def FnExactForceLogSaid : Prop := fnExactForceLogRow.holds Try.pinned (OpenSpec.ofChange fnExactForceLogSpec)

/-- ITS FALSE NEIGHBOUR: 'it returns false'. Refute it at one input. -/
def fnExactForceLogWrong : ChangeSpec := { name := "fnExactForceLog", fn := fun _ => fun
  | [d1, d2] => { results := [.lit (.bool false)], args := [d1, d2] }
  | _ => none }
def FnExactForceLogWrongFalsely : Prop := fnExactForceLogRow.holds Try.pinned (OpenSpec.ofChange fnExactForceLogWrong)

/-- 'laws.FnForceLog': WHATEVER THE INPUT: true; the input reads as it did. -/
def fnForceLogSpec : ChangeSpec := { name := "fnForceLog", fn := fun _ => fun
  | [d] => { results := [.lit (.bool true)], args := [d] }
  | _ => none }
def fnForceLogRow : OpenClaim := { program := "ytifcacahgiihoaa", sum := "4872c5a3732e9989e678c01ca33374e106f3de0b4a52b230e53110d91040d4af", func := "loop.example/schemamigration/laws.FnForceLog", spec := "fnForceLog", unfollowed := true, recurses := true, apart := false }
def FnForceLogSaid : Prop := fnForceLogRow.holds Try.pinned (OpenSpec.ofChange fnForceLogSpec)

/-- ITS FALSE NEIGHBOUR: 'it returns false'. Refute it at one input. -/
def fnForceLogWrong : ChangeSpec := { name := "fnForceLog", fn := fun _ => fun
  | [d] => { results := [.lit (.bool false)], args := [d] }
  | _ => none }
def FnForceLogWrongFalsely : Prop := fnForceLogRow.holds Try.pinned (OpenSpec.ofChange fnForceLogWrong)

/-- 'laws.FnTouchPageOrder': WHATEVER THE INPUT: true; the input reads as it did. -/
def fnTouchPageOrderSpec : ChangeSpec := { name := "fnTouchPageOrder", fn := fun _ => fun
  | [d] => { results := [.lit (.bool true)], args := [d] }
  | _ => none }
def fnTouchPageOrderRow : OpenClaim := { program := "ytifcacahgiihoaa", sum := "4872c5a3732e9989e678c01ca33374e106f3de0b4a52b230e53110d91040d4af", func := "loop.example/schemamigration/laws.FnTouchPageOrder", spec := "fnTouchPageOrder", unfollowed := true, recurses := true, apart := false }
def FnTouchPageOrderSaid : Prop := fnTouchPageOrderRow.holds Try.pinned (OpenSpec.ofChange fnTouchPageOrderSpec)

/-- ITS FALSE NEIGHBOUR: 'it returns false'. Refute it at one input. -/
def fnTouchPageOrderWrong : ChangeSpec := { name := "fnTouchPageOrder", fn := fun _ => fun
  | [d] => { results := [.lit (.bool false)], args := [d] }
  | _ => none }
def FnTouchPageOrderWrongFalsely : Prop := fnTouchPageOrderRow.holds Try.pinned (OpenSpec.ofChange fnTouchPageOrderWrong)

/-- 'laws.FnWritePage': WHATEVER THE INPUT: true; the input reads as it did. -/
def fnWritePageSpec : ChangeSpec := { name := "fnWritePage", fn := fun _ => fun
  | [d] => { results := [.lit (.bool true)], args := [d] }
  | _ => none }
def fnWritePageRow : OpenClaim := { program := "ytifcacahgiihoaa", sum := "4872c5a3732e9989e678c01ca33374e106f3de0b4a52b230e53110d91040d4af", func := "loop.example/schemamigration/laws.FnWritePage", spec := "fnWritePage", unfollowed := true, recurses := true, apart := false }
def FnWritePageSaid : Prop := fnWritePageRow.holds Try.pinned (OpenSpec.ofChange fnWritePageSpec)

/-- ITS FALSE NEIGHBOUR: 'it returns false'. Refute it at one input. -/
def fnWritePageWrong : ChangeSpec := { name := "fnWritePage", fn := fun _ => fun
  | [d] => { results := [.lit (.bool false)], args := [d] }
  | _ => none }
def FnWritePageWrongFalsely : Prop := fnWritePageRow.holds Try.pinned (OpenSpec.ofChange fnWritePageWrong)

/-- 'laws.FnTouchPageStart': WHATEVER THE INPUT: true; the input reads as it did. -/
def fnTouchPageStartSpec : ChangeSpec := { name := "fnTouchPageStart", fn := fun _ => fun
  | [d] => { results := [.lit (.bool true)], args := [d] }
  | _ => none }
def fnTouchPageStartRow : OpenClaim := { program := "ytifcacahgiihoaa", sum := "4872c5a3732e9989e678c01ca33374e106f3de0b4a52b230e53110d91040d4af", func := "loop.example/schemamigration/laws.FnTouchPageStart", spec := "fnTouchPageStart", unfollowed := true, recurses := true, apart := false }
def FnTouchPageStartSaid : Prop := fnTouchPageStartRow.holds Try.pinned (OpenSpec.ofChange fnTouchPageStartSpec)

/-- ITS FALSE NEIGHBOUR: 'it returns false'. Refute it at one input. -/
def fnTouchPageStartWrong : ChangeSpec := { name := "fnTouchPageStart", fn := fun _ => fun
  | [d] => { results := [.lit (.bool false)], args := [d] }
  | _ => none }
def FnTouchPageStartWrongFalsely : Prop := fnTouchPageStartRow.holds Try.pinned (OpenSpec.ofChange fnTouchPageStartWrong)

/-- 'laws.FnTouchPage': WHATEVER THE INPUT: true; the input reads as it did. -/
def fnTouchPageSpec : ChangeSpec := { name := "fnTouchPage", fn := fun _ => fun
  | [d] => { results := [.lit (.bool true)], args := [d] }
  | _ => none }
def fnTouchPageRow : OpenClaim := { program := "ytifcacahgiihoaa", sum := "4872c5a3732e9989e678c01ca33374e106f3de0b4a52b230e53110d91040d4af", func := "loop.example/schemamigration/laws.FnTouchPage", spec := "fnTouchPage", unfollowed := true, recurses := true, apart := false }
def FnTouchPageSaid : Prop := fnTouchPageRow.holds Try.pinned (OpenSpec.ofChange fnTouchPageSpec)

/-- ITS FALSE NEIGHBOUR: 'it returns false'. Refute it at one input. -/
def fnTouchPageWrong : ChangeSpec := { name := "fnTouchPage", fn := fun _ => fun
  | [d] => { results := [.lit (.bool false)], args := [d] }
  | _ => none }
def FnTouchPageWrongFalsely : Prop := fnTouchPageRow.holds Try.pinned (OpenSpec.ofChange fnTouchPageWrong)

/-- 'laws.FnExactWritePage': WHATEVER THE INPUT: true; the input reads as it did. -/
def fnExactWritePageSpec : ChangeSpec := { name := "fnExactWritePage", fn := fun _ => fun
  | [d1, d2] => { results := [.lit (.bool true)], args := [d1, d2] }
  | _ => none }
def fnExactWritePageRow : OpenClaim := { program := "ytifcacahgiihoaa", sum := "4872c5a3732e9989e678c01ca33374e106f3de0b4a52b230e53110d91040d4af", func := "loop.example/schemamigration/laws.FnExactWritePage", spec := "fnExactWritePage", unfollowed := true, recurses := true, apart := false }
def FnExactWritePageSaid : Prop := fnExactWritePageRow.holds Try.pinned (OpenSpec.ofChange fnExactWritePageSpec)

/-- ITS FALSE NEIGHBOUR: 'it returns false'. Refute it at one input. -/
def fnExactWritePageWrong : ChangeSpec := { name := "fnExactWritePage", fn := fun _ => fun
  | [d1, d2] => { results := [.lit (.bool false)], args := [d1, d2] }
  | _ => none }
def FnExactWritePageWrongFalsely : Prop := fnExactWritePageRow.holds Try.pinned (OpenSpec.ofChange fnExactWritePageWrong)

/-- 'laws.FnExactTouchPage': WHATEVER THE INPUT: true; the input reads as it did. -/
def fnExactTouchPageSpec : ChangeSpec := { name := "fnExactTouchPage", fn := fun _ => fun
  | [d1, d2, d3] => { results := [.lit (.bool true)], args := [d1, d2, d3] }
  | _ => none }
def fnExactTouchPageRow : OpenClaim := { program := "ytifcacahgiihoaa", sum := "4872c5a3732e9989e678c01ca33374e106f3de0b4a52b230e53110d91040d4af", func := "loop.example/schemamigration/laws.FnExactTouchPage", spec := "fnExactTouchPage", unfollowed := true, recurses := true, apart := false }
def FnExactTouchPageSaid : Prop := fnExactTouchPageRow.holds Try.pinned (OpenSpec.ofChange fnExactTouchPageSpec)

/-- ITS FALSE NEIGHBOUR: 'it returns false'. Refute it at one input. -/
def fnExactTouchPageWrong : ChangeSpec := { name := "fnExactTouchPage", fn := fun _ => fun
  | [d1, d2, d3] => { results := [.lit (.bool false)], args := [d1, d2, d3] }
  | _ => none }
def FnExactTouchPageWrongFalsely : Prop := fnExactTouchPageRow.holds Try.pinned (OpenSpec.ofChange fnExactTouchPageWrong)

/- THE SECOND FORM. 'bulk': how many values and letters a reading holds, each counted each time it is reached (what is shared counts as often as it is met; a slice's spare places count too). A statement '..UptoSaid' is the law's where the arguments, and the package variables that the reading takes, are together of bulk at most 1048576: NARROWER than '..Said'. Prove '..Said' where nothing that the law and all that it calls make is longer than what came in: it says more and counts as full. Else prove '..UptoSaid'. A law counts once. -/
mutual
def uptoBulk {H : Type} : DataW H → Nat
  | .lit (.string bytes) => bytes.length + 1
  | .lit _ => 1
  | .nil => 1
  | .ptr d => uptoBulk d + 1
  | .slice elems spare => uptoBulkAll elems + uptoBulkAll spare + 1
  | .agg parts => uptoBulkAll parts + 1
  | .iface _ d => uptoBulk d + 1
  | .map entries => uptoBulkEntries entries + 1
  | .held _ => 1
def uptoBulkAll {H : Type} : List (DataW H) → Nat
  | [] => 0
  | d :: r => uptoBulk d + uptoBulkAll r
def uptoBulkEntries {H : Type} : List (Lit × DataW H) → Nat
  | [] => 0
  | x :: r => uptoBulkEntry x + uptoBulkEntries r
def uptoBulkEntry {H : Type} : Lit × DataW H → Nat
  | (.string bytes, d) => bytes.length + uptoBulk d + 1
  | (_, d) => uptoBulk d + 1
 end
def uptoSmall : (H : Type) → List (DataW H) → Bool := fun _ ds => decide (uptoBulkAll ds ≤ 1048576)
def OpenSpec.upto (s : _root_.Go.ChangeSpec) : _root_.Go.OpenSpec := { _root_.Go.OpenSpec.ofChange s with cond := some uptoSmall }

/-- 'laws.FnExactForceLog', WHERE WHAT IT READS IS OF BULK AT MOST 1048576: true; the input reads as it did. -/
def fnExactForceLogUptoRow : OpenClaim := { program := "ytifcacahgiihoaa", sum := "4872c5a3732e9989e678c01ca33374e106f3de0b4a52b230e53110d91040d4af", func := "loop.example/schemamigration/laws.FnExactForceLog", spec := "fnExactForceLog", unfollowed := true, recurses := true, apart := false, narrowed := true }
def FnExactForceLogUptoSaid : Prop := fnExactForceLogUptoRow.holds Try.pinned (OpenSpec.upto fnExactForceLogSpec)

/-- 'laws.FnForceLog', WHERE WHAT IT READS IS OF BULK AT MOST 1048576: true; the input reads as it did. -/
def fnForceLogUptoRow : OpenClaim := { program := "ytifcacahgiihoaa", sum := "4872c5a3732e9989e678c01ca33374e106f3de0b4a52b230e53110d91040d4af", func := "loop.example/schemamigration/laws.FnForceLog", spec := "fnForceLog", unfollowed := true, recurses := true, apart := false, narrowed := true }
def FnForceLogUptoSaid : Prop := fnForceLogUptoRow.holds Try.pinned (OpenSpec.upto fnForceLogSpec)

/-- 'laws.FnTouchPageOrder', WHERE WHAT IT READS IS OF BULK AT MOST 1048576: true; the input reads as it did. -/
def fnTouchPageOrderUptoRow : OpenClaim := { program := "ytifcacahgiihoaa", sum := "4872c5a3732e9989e678c01ca33374e106f3de0b4a52b230e53110d91040d4af", func := "loop.example/schemamigration/laws.FnTouchPageOrder", spec := "fnTouchPageOrder", unfollowed := true, recurses := true, apart := false, narrowed := true }
def FnTouchPageOrderUptoSaid : Prop := fnTouchPageOrderUptoRow.holds Try.pinned (OpenSpec.upto fnTouchPageOrderSpec)

/-- 'laws.FnWritePage', WHERE WHAT IT READS IS OF BULK AT MOST 1048576: true; the input reads as it did. -/
def fnWritePageUptoRow : OpenClaim := { program := "ytifcacahgiihoaa", sum := "4872c5a3732e9989e678c01ca33374e106f3de0b4a52b230e53110d91040d4af", func := "loop.example/schemamigration/laws.FnWritePage", spec := "fnWritePage", unfollowed := true, recurses := true, apart := false, narrowed := true }
def FnWritePageUptoSaid : Prop := fnWritePageUptoRow.holds Try.pinned (OpenSpec.upto fnWritePageSpec)

/-- 'laws.FnTouchPageStart', WHERE WHAT IT READS IS OF BULK AT MOST 1048576: true; the input reads as it did. -/
def fnTouchPageStartUptoRow : OpenClaim := { program := "ytifcacahgiihoaa", sum := "4872c5a3732e9989e678c01ca33374e106f3de0b4a52b230e53110d91040d4af", func := "loop.example/schemamigration/laws.FnTouchPageStart", spec := "fnTouchPageStart", unfollowed := true, recurses := true, apart := false, narrowed := true }
def FnTouchPageStartUptoSaid : Prop := fnTouchPageStartUptoRow.holds Try.pinned (OpenSpec.upto fnTouchPageStartSpec)

/-- 'laws.FnTouchPage', WHERE WHAT IT READS IS OF BULK AT MOST 1048576: true; the input reads as it did. -/
def fnTouchPageUptoRow : OpenClaim := { program := "ytifcacahgiihoaa", sum := "4872c5a3732e9989e678c01ca33374e106f3de0b4a52b230e53110d91040d4af", func := "loop.example/schemamigration/laws.FnTouchPage", spec := "fnTouchPage", unfollowed := true, recurses := true, apart := false, narrowed := true }
def FnTouchPageUptoSaid : Prop := fnTouchPageUptoRow.holds Try.pinned (OpenSpec.upto fnTouchPageSpec)

/-- 'laws.FnExactWritePage', WHERE WHAT IT READS IS OF BULK AT MOST 1048576: true; the input reads as it did. -/
def fnExactWritePageUptoRow : OpenClaim := { program := "ytifcacahgiihoaa", sum := "4872c5a3732e9989e678c01ca33374e106f3de0b4a52b230e53110d91040d4af", func := "loop.example/schemamigration/laws.FnExactWritePage", spec := "fnExactWritePage", unfollowed := true, recurses := true, apart := false, narrowed := true }
def FnExactWritePageUptoSaid : Prop := fnExactWritePageUptoRow.holds Try.pinned (OpenSpec.upto fnExactWritePageSpec)

/-- 'laws.FnExactTouchPage', WHERE WHAT IT READS IS OF BULK AT MOST 1048576: true; the input reads as it did. -/
def fnExactTouchPageUptoRow : OpenClaim := { program := "ytifcacahgiihoaa", sum := "4872c5a3732e9989e678c01ca33374e106f3de0b4a52b230e53110d91040d4af", func := "loop.example/schemamigration/laws.FnExactTouchPage", spec := "fnExactTouchPage", unfollowed := true, recurses := true, apart := false, narrowed := true }
def FnExactTouchPageUptoSaid : Prop := fnExactTouchPageUptoRow.holds Try.pinned (OpenSpec.upto fnExactTouchPageSpec)

end Rows
end Go.Proofs.Ytifcacahgiihoaa
