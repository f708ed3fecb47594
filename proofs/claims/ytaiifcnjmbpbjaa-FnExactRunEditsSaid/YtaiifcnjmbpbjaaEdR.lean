/- The rows' arguments of the edits' exact law, opened. No condition. -/
import Derived.Test.YtaiifcnjmbpbjaaOpenB
import Derived.Test.YtaiifcnjmbpbjaaEdXa
import Derived.Test.YtaiifcnjmbpbjaaRowT
namespace Go.Proofs.Ytaiifcnjmbpbjaa
namespace V
open Enc (enc)
set_option linter.unusedVariables false
set_option linter.unusedSimpArgs false
set_option maxHeartbeats 4000000
set_option maxRecDepth 100000
open Go.RowKit
attribute [local irreducible] thA inA FinA eL

open Szd (szd)
open Go.ChangeShapes Go.WideShapes Go.ChangeAt
instance : Opn Try.prog Int 3 := Opn.int Try.underlying3
instance : Opn Try.prog (List Int) 22 := Opn.sl Try.underlying22 (by kernel_rfl) (by decide)
instance : Szd L_Edit := ⟨fun x => szd x.owner ∧ szd x.thing ∧ szd x.old_ ∧ szd x.new_⟩
instance : Opn Try.prog L_Edit 40 := ⟨fun {H en W fuel cs x} h => by
  obtain ⟨hl, hf⟩ := opn_fields Try.underlying40 h
  rw [show Try.prog.cellsOf 40 = 4 by kernel_rfl] at hl
  obtain ⟨n0, y0, h0⟩ := hf 0 _ rfl
  replace h0 : DataW.trod en Try.prog W 0 (fun _ => true) true n0 3 ((cs.drop 0).take (Try.prog.cellsOf 3)) = some y0 := h0
  rw [show Try.prog.cellsOf 3 = 1 by kernel_rfl] at h0
  obtain ⟨a0, g0, s0⟩ := (inferInstance : Opn Try.prog Int 3).opn h0
  obtain ⟨n1, y1, h1⟩ := hf 1 _ rfl
  replace h1 : DataW.trod en Try.prog W 0 (fun _ => true) true n1 3 ((cs.drop 1).take (Try.prog.cellsOf 3)) = some y1 := h1
  rw [show Try.prog.cellsOf 3 = 1 by kernel_rfl] at h1
  obtain ⟨a1, g1, s1⟩ := (inferInstance : Opn Try.prog Int 3).opn h1
  obtain ⟨n2, y2, h2⟩ := hf 2 _ rfl
  replace h2 : DataW.trod en Try.prog W 0 (fun _ => true) true n2 3 ((cs.drop 2).take (Try.prog.cellsOf 3)) = some y2 := h2
  rw [show Try.prog.cellsOf 3 = 1 by kernel_rfl] at h2
  obtain ⟨a2, g2, s2⟩ := (inferInstance : Opn Try.prog Int 3).opn h2
  obtain ⟨n3, y3, h3⟩ := hf 3 _ rfl
  replace h3 : DataW.trod en Try.prog W 0 (fun _ => true) true n3 3 ((cs.drop 3).take (Try.prog.cellsOf 3)) = some y3 := h3
  rw [show Try.prog.cellsOf 3 = 1 by kernel_rfl] at h3
  obtain ⟨a3, g3, s3⟩ := (inferInstance : Opn Try.prog Int 3).opn h3
  refine ⟨⟨a0, a1, a2, a3⟩, ?_, s0, s1, s2, s3⟩
  have := TL.step g0 (TL.step g1 (TL.step g2 (TL.step g3 (TL.fin hl) rfl) rfl) rfl) rfl
  exact this⟩
instance : Opn Try.prog (List L_Edit) 23 := Opn.sl Try.underlying23 (by kernel_rfl) (by decide)
end V
end Go.Proofs.Ytaiifcnjmbpbjaa
