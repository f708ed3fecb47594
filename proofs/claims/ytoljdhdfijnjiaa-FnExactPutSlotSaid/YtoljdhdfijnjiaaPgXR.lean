/- The rows' arguments of the pages' exact laws, opened. No condition. -/
import Derived.Test.YtoljdhdfijnjiaaOpenB
import Derived.Test.YtoljdhdfijnjiaaPgXa
import Derived.Test.YtoljdhdfijnjiaaRowT
namespace Go.Proofs.Ytoljdhdfijnjiaa
namespace V
open Enc (enc)
set_option linter.unusedVariables false
set_option linter.unusedSimpArgs false
set_option maxHeartbeats 4000000
set_option maxRecDepth 100000
open Go.RowKit
attribute [local irreducible] thA inA FinA eL

open Szd (szd)
open Go.ChangeShapes Go.WideShapes Go.ChangeAt
instance : Opn Try.prog Bool 4 := Opn.bool Try.underlying4
instance : Opn Try.prog ByteArray 9 := Opn.str Try.underlying9
instance : Szd L_Slot := ⟨fun x => szd x.live ∧ szd x.data⟩
instance : Opn Try.prog L_Slot 122 := ⟨fun {H en W fuel cs x} h => by
  obtain ⟨hl, hf⟩ := opn_fields Try.underlying122 h
  rw [show Try.prog.cellsOf 122 = 2 by kernel_rfl] at hl
  obtain ⟨n0, y0, h0⟩ := hf 0 _ rfl
  replace h0 : DataW.trod en Try.prog W 0 (fun _ => true) true n0 4 ((cs.drop 0).take (Try.prog.cellsOf 4)) = some y0 := h0
  rw [show Try.prog.cellsOf 4 = 1 by kernel_rfl] at h0
  obtain ⟨a0, g0, s0⟩ := (inferInstance : Opn Try.prog Bool 4).opn h0
  obtain ⟨n1, y1, h1⟩ := hf 1 _ rfl
  replace h1 : DataW.trod en Try.prog W 0 (fun _ => true) true n1 9 ((cs.drop 1).take (Try.prog.cellsOf 9)) = some y1 := h1
  rw [show Try.prog.cellsOf 9 = 1 by kernel_rfl] at h1
  obtain ⟨a1, g1, s1⟩ := (inferInstance : Opn Try.prog ByteArray 9).opn h1
  refine ⟨⟨a0, a1⟩, ?_, s0, s1⟩
  have := TL.step g0 (TL.step g1 (TL.fin hl) rfl) rfl
  exact this⟩
instance : Opn Try.prog (List L_Slot) 46 := Opn.sl Try.underlying46 (by kernel_rfl) (by decide)
instance : Szd L_Page := ⟨fun x => szd x.slots⟩
instance : Opn Try.prog L_Page 48 := ⟨fun {H en W fuel cs x} h => by
  obtain ⟨hl, hf⟩ := opn_fields Try.underlying48 h
  rw [show Try.prog.cellsOf 48 = 1 by kernel_rfl] at hl
  obtain ⟨n0, y0, h0⟩ := hf 0 _ rfl
  replace h0 : DataW.trod en Try.prog W 0 (fun _ => true) true n0 46 ((cs.drop 0).take (Try.prog.cellsOf 46)) = some y0 := h0
  rw [show Try.prog.cellsOf 46 = 1 by kernel_rfl] at h0
  obtain ⟨a0, g0, s0⟩ := (inferInstance : Opn Try.prog (List L_Slot) 46).opn h0
  refine ⟨⟨a0⟩, ?_, s0⟩
  have := TL.step g0 (TL.fin hl) rfl
  exact this⟩
instance : Opn Try.prog Int 3 := Opn.int Try.underlying3
end V
end Go.Proofs.Ytoljdhdfijnjiaa
