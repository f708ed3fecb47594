/-
  No cell of these rows narrows 'for every input' (looked for: loops, veiled, ifaces, maps, wideKeys, modest, calm, conditions, laid).
  DERIVED. THE GIVEN ROWS OF THIS SEAT. 11 by the template 'for every input the law returns true; each argument reads behind the call as it read before'; 0 by the template 'total and deterministic' (their statements: YtambkpacecjheaaTotals.lean).
  GIVEN WITH THE SEED: the statements are not yours to turn. If you find one false, say at which input.
  Laid BY PROGRAM, IN A SANDBOX (cutbox-rows.mjs): the forced cells as the released guide's own fill.sh prints them over the translation 4b57647757aabf76… (all of the seat's roots in one cut). By AI agents, Wed Nov 11 2026. No macro, syntax, notation, axiom, sorry.
-/
import Derived.Test.YtambkpacecjheaaChecked
import GoSem.Claim
import GoSem.ClaimJoined
import GoSem.ClaimMapViews
import Derived.JoinedTies
import Derived.KernelRfl
namespace Go.Proofs.Ytambkpacecjheaa
/- THE CELL 'sum', in the pinned program and in every row, IS THE sha256 OF THE DUMP (.gsa) THAT YtambkpacecjheaaProg.lean LOADS. Nothing in Lean hashes anything: it is a label: what it is worth is what the hold of that sum in a sandbox is worth. -/
noncomputable def Try.pinned : Pinned := { name := "ytambkpacecjheaa", sum := "4b57647757aabf766d875c4b823d38d80d52ae77906eb78bffeb51ab84bbde85", checked := Try.checked }
namespace Rows
def none {H : Type} : Left H := { results := [], args := [] }

/-- 'laws.FnExactValidSpace': WHATEVER THE INPUT: true; the input reads as it did. -/
def fnExactValidSpaceSpec : ChangeSpec := { name := "fnExactValidSpace", fn := fun _ => fun
  | [d] => { results := [.lit (.bool true)], args := [d] }
  | _ => none }
def fnExactValidSpaceRow : OpenClaim := { program := "ytambkpacecjheaa", sum := "4b57647757aabf766d875c4b823d38d80d52ae77906eb78bffeb51ab84bbde85", func := "loop.example/schemamigration/laws.FnExactValidSpace", spec := "fnExactValidSpace", apart := false }
def FnExactValidSpaceSaid : Prop := fnExactValidSpaceRow.holds Try.pinned (OpenSpec.ofChange fnExactValidSpaceSpec)

/-- ITS FALSE NEIGHBOUR: 'it returns false'. Refute it at one input. -/
def fnExactValidSpaceWrong : ChangeSpec := { name := "fnExactValidSpace", fn := fun _ => fun
  | [d] => { results := [.lit (.bool false)], args := [d] }
  | _ => none }
def FnExactValidSpaceWrongFalsely : Prop := fnExactValidSpaceRow.holds Try.pinned (OpenSpec.ofChange fnExactValidSpaceWrong)

/-- 'laws.FnExactPagesInUse': WHATEVER THE INPUT: true; the input reads as it did. -/
def fnExactPagesInUseSpec : ChangeSpec := { name := "fnExactPagesInUse", fn := fun _ => fun
  | [d] => { results := [.lit (.bool true)], args := [d] }
  | _ => none }
def fnExactPagesInUseRow : OpenClaim := { program := "ytambkpacecjheaa", sum := "4b57647757aabf766d875c4b823d38d80d52ae77906eb78bffeb51ab84bbde85", func := "loop.example/schemamigration/laws.FnExactPagesInUse", spec := "fnExactPagesInUse", apart := false }
def FnExactPagesInUseSaid : Prop := fnExactPagesInUseRow.holds Try.pinned (OpenSpec.ofChange fnExactPagesInUseSpec)

/-- ITS FALSE NEIGHBOUR: 'it returns false'. Refute it at one input. -/
def fnExactPagesInUseWrong : ChangeSpec := { name := "fnExactPagesInUse", fn := fun _ => fun
  | [d] => { results := [.lit (.bool false)], args := [d] }
  | _ => none }
def FnExactPagesInUseWrongFalsely : Prop := fnExactPagesInUseRow.holds Try.pinned (OpenSpec.ofChange fnExactPagesInUseWrong)

/-- 'laws.FnValidSpace': WHATEVER THE INPUT: true; the input reads as it did. -/
def fnValidSpaceSpec : ChangeSpec := { name := "fnValidSpace", fn := fun _ => fun
  | [d] => { results := [.lit (.bool true)], args := [d] }
  | _ => none }
def fnValidSpaceRow : OpenClaim := { program := "ytambkpacecjheaa", sum := "4b57647757aabf766d875c4b823d38d80d52ae77906eb78bffeb51ab84bbde85", func := "loop.example/schemamigration/laws.FnValidSpace", spec := "fnValidSpace", apart := false }
def FnValidSpaceSaid : Prop := fnValidSpaceRow.holds Try.pinned (OpenSpec.ofChange fnValidSpaceSpec)

/-- ITS FALSE NEIGHBOUR: 'it returns false'. Refute it at one input. -/
def fnValidSpaceWrong : ChangeSpec := { name := "fnValidSpace", fn := fun _ => fun
  | [d] => { results := [.lit (.bool false)], args := [d] }
  | _ => none }
def FnValidSpaceWrongFalsely : Prop := fnValidSpaceRow.holds Try.pinned (OpenSpec.ofChange fnValidSpaceWrong)

/-- 'laws.FnExactHoldPage': WHATEVER THE INPUT: true; the input reads as it did. -/
def fnExactHoldPageSpec : ChangeSpec := { name := "fnExactHoldPage", fn := fun _ => fun
  | [d1, d2, d3] => { results := [.lit (.bool true)], args := [d1, d2, d3] }
  | _ => none }
def fnExactHoldPageRow : OpenClaim := { program := "ytambkpacecjheaa", sum := "4b57647757aabf766d875c4b823d38d80d52ae77906eb78bffeb51ab84bbde85", func := "loop.example/schemamigration/laws.FnExactHoldPage", spec := "fnExactHoldPage", apart := false }
def FnExactHoldPageSaid : Prop := fnExactHoldPageRow.holds Try.pinned (OpenSpec.ofChange fnExactHoldPageSpec)

/-- ITS FALSE NEIGHBOUR: 'it returns false'. Refute it at one input. -/
def fnExactHoldPageWrong : ChangeSpec := { name := "fnExactHoldPage", fn := fun _ => fun
  | [d1, d2, d3] => { results := [.lit (.bool false)], args := [d1, d2, d3] }
  | _ => none }
def FnExactHoldPageWrongFalsely : Prop := fnExactHoldPageRow.holds Try.pinned (OpenSpec.ofChange fnExactHoldPageWrong)

/-- 'laws.FnPagesInUse': WHATEVER THE INPUT: true; the input reads as it did. -/
def fnPagesInUseSpec : ChangeSpec := { name := "fnPagesInUse", fn := fun _ => fun
  | [d] => { results := [.lit (.bool true)], args := [d] }
  | _ => none }
def fnPagesInUseRow : OpenClaim := { program := "ytambkpacecjheaa", sum := "4b57647757aabf766d875c4b823d38d80d52ae77906eb78bffeb51ab84bbde85", func := "loop.example/schemamigration/laws.FnPagesInUse", spec := "fnPagesInUse", apart := false }
def FnPagesInUseSaid : Prop := fnPagesInUseRow.holds Try.pinned (OpenSpec.ofChange fnPagesInUseSpec)

/-- ITS FALSE NEIGHBOUR: 'it returns false'. Refute it at one input. -/
def fnPagesInUseWrong : ChangeSpec := { name := "fnPagesInUse", fn := fun _ => fun
  | [d] => { results := [.lit (.bool false)], args := [d] }
  | _ => none }
def FnPagesInUseWrongFalsely : Prop := fnPagesInUseRow.holds Try.pinned (OpenSpec.ofChange fnPagesInUseWrong)

/-- 'laws.FnExactTakePage': WHATEVER THE INPUT: true; the input reads as it did. -/
def fnExactTakePageSpec : ChangeSpec := { name := "fnExactTakePage", fn := fun _ => fun
  | [d] => { results := [.lit (.bool true)], args := [d] }
  | _ => none }
def fnExactTakePageRow : OpenClaim := { program := "ytambkpacecjheaa", sum := "4b57647757aabf766d875c4b823d38d80d52ae77906eb78bffeb51ab84bbde85", func := "loop.example/schemamigration/laws.FnExactTakePage", spec := "fnExactTakePage", apart := false }
def FnExactTakePageSaid : Prop := fnExactTakePageRow.holds Try.pinned (OpenSpec.ofChange fnExactTakePageSpec)

/-- ITS FALSE NEIGHBOUR: 'it returns false'. Refute it at one input. -/
def fnExactTakePageWrong : ChangeSpec := { name := "fnExactTakePage", fn := fun _ => fun
  | [d] => { results := [.lit (.bool false)], args := [d] }
  | _ => none }
def FnExactTakePageWrongFalsely : Prop := fnExactTakePageRow.holds Try.pinned (OpenSpec.ofChange fnExactTakePageWrong)

/-- 'laws.FnTakePage': WHATEVER THE INPUT: true; the input reads as it did. -/
def fnTakePageSpec : ChangeSpec := { name := "fnTakePage", fn := fun _ => fun
  | [d] => { results := [.lit (.bool true)], args := [d] }
  | _ => none }
def fnTakePageRow : OpenClaim := { program := "ytambkpacecjheaa", sum := "4b57647757aabf766d875c4b823d38d80d52ae77906eb78bffeb51ab84bbde85", func := "loop.example/schemamigration/laws.FnTakePage", spec := "fnTakePage", apart := false }
def FnTakePageSaid : Prop := fnTakePageRow.holds Try.pinned (OpenSpec.ofChange fnTakePageSpec)

/-- ITS FALSE NEIGHBOUR: 'it returns false'. Refute it at one input. -/
def fnTakePageWrong : ChangeSpec := { name := "fnTakePage", fn := fun _ => fun
  | [d] => { results := [.lit (.bool false)], args := [d] }
  | _ => none }
def FnTakePageWrongFalsely : Prop := fnTakePageRow.holds Try.pinned (OpenSpec.ofChange fnTakePageWrong)

/-- 'laws.FnReleasePagesAll': WHATEVER THE INPUT: true; the input reads as it did. -/
def fnReleasePagesAllSpec : ChangeSpec := { name := "fnReleasePagesAll", fn := fun _ => fun
  | [d] => { results := [.lit (.bool true)], args := [d] }
  | _ => none }
def fnReleasePagesAllRow : OpenClaim := { program := "ytambkpacecjheaa", sum := "4b57647757aabf766d875c4b823d38d80d52ae77906eb78bffeb51ab84bbde85", func := "loop.example/schemamigration/laws.FnReleasePagesAll", spec := "fnReleasePagesAll", recurses := true, apart := false }
def FnReleasePagesAllSaid : Prop := fnReleasePagesAllRow.holds Try.pinned (OpenSpec.ofChange fnReleasePagesAllSpec)

/-- ITS FALSE NEIGHBOUR: 'it returns false'. Refute it at one input. -/
def fnReleasePagesAllWrong : ChangeSpec := { name := "fnReleasePagesAll", fn := fun _ => fun
  | [d] => { results := [.lit (.bool false)], args := [d] }
  | _ => none }
def FnReleasePagesAllWrongFalsely : Prop := fnReleasePagesAllRow.holds Try.pinned (OpenSpec.ofChange fnReleasePagesAllWrong)

/-- 'laws.FnExactReleasePages': WHATEVER THE INPUT: true; the input reads as it did. -/
def fnExactReleasePagesSpec : ChangeSpec := { name := "fnExactReleasePages", fn := fun _ => fun
  | [d1, d2] => { results := [.lit (.bool true)], args := [d1, d2] }
  | _ => none }
def fnExactReleasePagesRow : OpenClaim := { program := "ytambkpacecjheaa", sum := "4b57647757aabf766d875c4b823d38d80d52ae77906eb78bffeb51ab84bbde85", func := "loop.example/schemamigration/laws.FnExactReleasePages", spec := "fnExactReleasePages", recurses := true, apart := false }
def FnExactReleasePagesSaid : Prop := fnExactReleasePagesRow.holds Try.pinned (OpenSpec.ofChange fnExactReleasePagesSpec)

/-- ITS FALSE NEIGHBOUR: 'it returns false'. Refute it at one input. -/
def fnExactReleasePagesWrong : ChangeSpec := { name := "fnExactReleasePages", fn := fun _ => fun
  | [d1, d2] => { results := [.lit (.bool false)], args := [d1, d2] }
  | _ => none }
def FnExactReleasePagesWrongFalsely : Prop := fnExactReleasePagesRow.holds Try.pinned (OpenSpec.ofChange fnExactReleasePagesWrong)

/-- 'laws.FnReleasePages': WHATEVER THE INPUT: true; the input reads as it did. -/
def fnReleasePagesSpec : ChangeSpec := { name := "fnReleasePages", fn := fun _ => fun
  | [d] => { results := [.lit (.bool true)], args := [d] }
  | _ => none }
def fnReleasePagesRow : OpenClaim := { program := "ytambkpacecjheaa", sum := "4b57647757aabf766d875c4b823d38d80d52ae77906eb78bffeb51ab84bbde85", func := "loop.example/schemamigration/laws.FnReleasePages", spec := "fnReleasePages", recurses := true, apart := false }
def FnReleasePagesSaid : Prop := fnReleasePagesRow.holds Try.pinned (OpenSpec.ofChange fnReleasePagesSpec)

/-- ITS FALSE NEIGHBOUR: 'it returns false'. Refute it at one input. -/
def fnReleasePagesWrong : ChangeSpec := { name := "fnReleasePages", fn := fun _ => fun
  | [d] => { results := [.lit (.bool false)], args := [d] }
  | _ => none }
def FnReleasePagesWrongFalsely : Prop := fnReleasePagesRow.holds Try.pinned (OpenSpec.ofChange fnReleasePagesWrong)

/-- 'laws.FnHoldPage': WHATEVER THE INPUT: true; the input reads as it did. -/
def fnHoldPageSpec : ChangeSpec := { name := "fnHoldPage", fn := fun _ => fun
  | [d] => { results := [.lit (.bool true)], args := [d] }
  | _ => none }
def fnHoldPageRow : OpenClaim := { program := "ytambkpacecjheaa", sum := "4b57647757aabf766d875c4b823d38d80d52ae77906eb78bffeb51ab84bbde85", func := "loop.example/schemamigration/laws.FnHoldPage", spec := "fnHoldPage", recurses := true, apart := false }
def FnHoldPageSaid : Prop := fnHoldPageRow.holds Try.pinned (OpenSpec.ofChange fnHoldPageSpec)

/-- ITS FALSE NEIGHBOUR: 'it returns false'. Refute it at one input. -/
def fnHoldPageWrong : ChangeSpec := { name := "fnHoldPage", fn := fun _ => fun
  | [d] => { results := [.lit (.bool false)], args := [d] }
  | _ => none }
def FnHoldPageWrongFalsely : Prop := fnHoldPageRow.holds Try.pinned (OpenSpec.ofChange fnHoldPageWrong)

/- THE SECOND FORM. 'bulk': how many values and letters a reading holds, each counted each time it is reached (what is shared counts as often as it is met; a slice's spare places count too). A statement '..UptoSaid' is the law's where the arguments, and the package variables that the reading takes, are together of bulk at most 1048576: NARROWER than '..Said'. Prove '..Said' where nothing that the law and all that it calls make is longer than what came in: it says more and counts as full. Else prove '..UptoSaid'. A law counts once. -/
mutual
def uptoBulk {H : Type} : DataW H → Nat
  | .lit (.string bytes) => bytes.length + 1
  | .lit _ => 1
  | .nil => 1
  | .ptr d => uptoBulk d + 1
  | .slice elems spare => uptoBulkAll elems + uptoBulkAll spare + 1
  | .agg parts => uptoBulkAll parts + 1
  | .iface _ d => uptoBulk d + 1
  | .map entries => uptoBulkEntries entries + 1
  | .held _ => 1
def uptoBulkAll {H : Type} : List (DataW H) → Nat
  | [] => 0
  | d :: r => uptoBulk d + uptoBulkAll r
def uptoBulkEntries {H : Type} : List (Lit × DataW H) → Nat
  | [] => 0
  | x :: r => uptoBulkEntry x + uptoBulkEntries r
def uptoBulkEntry {H : Type} : Lit × DataW H → Nat
  | (.string bytes, d) => bytes.length + uptoBulk d + 1
  | (_, d) => uptoBulk d + 1
 end
def uptoSmall : (H : Type) → List (DataW H) → Bool := fun _ ds => decide (uptoBulkAll ds ≤ 1048576)
def OpenSpec.upto (s : _root_.Go.ChangeSpec) : _root_.Go.OpenSpec := { _root_.Go.OpenSpec.ofChange s with cond := some uptoSmall }

/-- 'laws.FnExactValidSpace', WHERE WHAT IT READS IS OF BULK AT MOST 1048576: true; the input reads as it did. -/
def fnExactValidSpaceUptoRow : OpenClaim := { program := "ytambkpacecjheaa", sum := "4b57647757aabf766d875c4b823d38d80d52ae77906eb78bffeb51ab84bbde85", func := "loop.example/schemamigration/laws.FnExactValidSpace", spec := "fnExactValidSpace", apart := false, narrowed := true }
def FnExactValidSpaceUptoSaid : Prop := fnExactValidSpaceUptoRow.holds Try.pinned (OpenSpec.upto fnExactValidSpaceSpec)

/-- 'laws.FnExactPagesInUse', WHERE WHAT IT READS IS OF BULK AT MOST 1048576: true; the input reads as it did. -/
def fnExactPagesInUseUptoRow : OpenClaim := { program := "ytambkpacecjheaa", sum := "4b57647757aabf766d875c4b823d38d80d52ae77906eb78bffeb51ab84bbde85", func := "loop.example/schemamigration/laws.FnExactPagesInUse", spec := "fnExactPagesInUse", apart := false, narrowed := true }
def FnExactPagesInUseUptoSaid : Prop := fnExactPagesInUseUptoRow.holds Try.pinned (OpenSpec.upto fnExactPagesInUseSpec)

/-- 'laws.FnValidSpace', WHERE WHAT IT READS IS OF BULK AT MOST 1048576: true; the input reads as it did. -/
def fnValidSpaceUptoRow : OpenClaim := { program := "ytambkpacecjheaa", sum := "4b57647757aabf766d875c4b823d38d80d52ae77906eb78bffeb51ab84bbde85", func := "loop.example/schemamigration/laws.FnValidSpace", spec := "fnValidSpace", apart := false, narrowed := true }
def FnValidSpaceUptoSaid : Prop := fnValidSpaceUptoRow.holds Try.pinned (OpenSpec.upto fnValidSpaceSpec)

/-- 'laws.FnExactHoldPage', WHERE WHAT IT READS IS OF BULK AT MOST 1048576: true; the input reads as it did. -/
def fnExactHoldPageUptoRow : OpenClaim := { program := "ytambkpacecjheaa", sum := "4b57647757aabf766d875c4b823d38d80d52ae77906eb78bffeb51ab84bbde85", func := "loop.example/schemamigration/laws.FnExactHoldPage", spec := "fnExactHoldPage", apart := false, narrowed := true }
def FnExactHoldPageUptoSaid : Prop := fnExactHoldPageUptoRow.holds Try.pinned (OpenSpec.upto fnExactHoldPageSpec)

/-- 'laws.FnPagesInUse', WHERE WHAT IT READS IS OF BULK AT MOST 1048576: true; the input reads as it did. -/
def fnPagesInUseUptoRow : OpenClaim := { program := "ytambkpacecjheaa", sum := "4b57647757aabf766d875c4b823d38d80d52ae77906eb78bffeb51ab84bbde85", func := "loop.example/schemamigration/laws.FnPagesInUse", spec := "fnPagesInUse", apart := false, narrowed := true }
def FnPagesInUseUptoSaid : Prop := fnPagesInUseUptoRow.holds Try.pinned (OpenSpec.upto fnPagesInUseSpec)

/-- 'laws.FnExactTakePage', WHERE WHAT IT READS IS OF BULK AT MOST 1048576: true; the input reads as it did. -/
def fnExactTakePageUptoRow : OpenClaim := { program := "ytambkpacecjheaa", sum := "4b57647757aabf766d875c4b823d38d80d52ae77906eb78bffeb51ab84bbde85", func := "loop.example/schemamigration/laws.FnExactTakePage", spec := "fnExactTakePage", apart := false, narrowed := true }
def FnExactTakePageUptoSaid : Prop := fnExactTakePageUptoRow.holds Try.pinned (OpenSpec.upto fnExactTakePageSpec)

/-- 'laws.FnTakePage', WHERE WHAT IT READS IS OF BULK AT MOST 1048576: true; the input reads as it did. -/
def fnTakePageUptoRow : OpenClaim := { program := "ytambkpacecjheaa", sum := "4b57647757aabf766d875c4b823d38d80d52ae77906eb78bffeb51ab84bbde85", func := "loop.example/schemamigration/laws.FnTakePage", spec := "fnTakePage", apart := false, narrowed := true }
def FnTakePageUptoSaid : Prop := fnTakePageUptoRow.holds Try.pinned (OpenSpec.upto fnTakePageSpec)

/-- 'laws.FnReleasePagesAll', WHERE WHAT IT READS IS OF BULK AT MOST 1048576: true; the input reads as it did. -/
def fnReleasePagesAllUptoRow : OpenClaim := { program := "ytambkpacecjheaa", sum := "4b57647757aabf766d875c4b823d38d80d52ae77906eb78bffeb51ab84bbde85", func := "loop.example/schemamigration/laws.FnReleasePagesAll", spec := "fnReleasePagesAll", recurses := true, apart := false, narrowed := true }
def FnReleasePagesAllUptoSaid : Prop := fnReleasePagesAllUptoRow.holds Try.pinned (OpenSpec.upto fnReleasePagesAllSpec)

/-- 'laws.FnExactReleasePages', WHERE WHAT IT READS IS OF BULK AT MOST 1048576: true; the input reads as it did. -/
def fnExactReleasePagesUptoRow : OpenClaim := { program := "ytambkpacecjheaa", sum := "4b57647757aabf766d875c4b823d38d80d52ae77906eb78bffeb51ab84bbde85", func := "loop.example/schemamigration/laws.FnExactReleasePages", spec := "fnExactReleasePages", recurses := true, apart := false, narrowed := true }
def FnExactReleasePagesUptoSaid : Prop := fnExactReleasePagesUptoRow.holds Try.pinned (OpenSpec.upto fnExactReleasePagesSpec)

/-- 'laws.FnReleasePages', WHERE WHAT IT READS IS OF BULK AT MOST 1048576: true; the input reads as it did. -/
def fnReleasePagesUptoRow : OpenClaim := { program := "ytambkpacecjheaa", sum := "4b57647757aabf766d875c4b823d38d80d52ae77906eb78bffeb51ab84bbde85", func := "loop.example/schemamigration/laws.FnReleasePages", spec := "fnReleasePages", recurses := true, apart := false, narrowed := true }
def FnReleasePagesUptoSaid : Prop := fnReleasePagesUptoRow.holds Try.pinned (OpenSpec.upto fnReleasePagesSpec)

/-- 'laws.FnHoldPage', WHERE WHAT IT READS IS OF BULK AT MOST 1048576: true; the input reads as it did. -/
def fnHoldPageUptoRow : OpenClaim := { program := "ytambkpacecjheaa", sum := "4b57647757aabf766d875c4b823d38d80d52ae77906eb78bffeb51ab84bbde85", func := "loop.example/schemamigration/laws.FnHoldPage", spec := "fnHoldPage", recurses := true, apart := false, narrowed := true }
def FnHoldPageUptoSaid : Prop := fnHoldPageUptoRow.holds Try.pinned (OpenSpec.upto fnHoldPageSpec)

end Rows
end Go.Proofs.Ytambkpacecjheaa
