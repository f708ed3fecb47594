/- The rows' arguments of the pairs' exact law, opened. No condition. -/
import Derived.Test.YtlpbgmahegoidaaOpenB
import Derived.Test.YtlpbgmahegoidaaQrXa
import Derived.Test.YtlpbgmahegoidaaRowT
namespace Go.Proofs.Ytlpbgmahegoidaa
namespace V
open Enc (enc)
set_option linter.unusedVariables false
set_option linter.unusedSimpArgs false
set_option maxHeartbeats 4000000
set_option maxRecDepth 100000
open Go.RowKit
attribute [local irreducible] thA inA FinA eL

open Szd (szd)
open Go.ChangeShapes Go.WideShapes Go.ChangeAt
instance : Opn Try.prog ByteArray 9 := Opn.str Try.underlying9
instance : Opn Try.prog Int 3 := Opn.int Try.underlying3
instance : Szd L_Pair := ⟨fun x => szd x.key ∧ szd x.row⟩
instance : Opn Try.prog L_Pair 67 := ⟨fun {H en W fuel cs x} h => by
  obtain ⟨hl, hf⟩ := opn_fields Try.underlying67 h
  rw [show Try.prog.cellsOf 67 = 2 by kernel_rfl] at hl
  obtain ⟨n0, y0, h0⟩ := hf 0 _ rfl
  replace h0 : DataW.trod en Try.prog W 0 (fun _ => true) true n0 9 ((cs.drop 0).take (Try.prog.cellsOf 9)) = some y0 := h0
  rw [show Try.prog.cellsOf 9 = 1 by kernel_rfl] at h0
  obtain ⟨a0, g0, s0⟩ := (inferInstance : Opn Try.prog ByteArray 9).opn h0
  obtain ⟨n1, y1, h1⟩ := hf 1 _ rfl
  replace h1 : DataW.trod en Try.prog W 0 (fun _ => true) true n1 3 ((cs.drop 1).take (Try.prog.cellsOf 3)) = some y1 := h1
  rw [show Try.prog.cellsOf 3 = 1 by kernel_rfl] at h1
  obtain ⟨a1, g1, s1⟩ := (inferInstance : Opn Try.prog Int 3).opn h1
  refine ⟨⟨a0, a1⟩, ?_, s0, s1⟩
  have := TL.step g0 (TL.step g1 (TL.fin hl) rfl) rfl
  exact this⟩
instance : Opn Try.prog (List L_Pair) 33 := Opn.sl Try.underlying33 (by kernel_rfl) (by decide)
instance : Szd L_Value := ⟨fun x => szd x.kind ∧ szd x.num ∧ szd x.text⟩
instance : Opn Try.prog L_Value 35 := ⟨fun {H en W fuel cs x} h => by
  obtain ⟨hl, hf⟩ := opn_fields Try.underlying35 h
  rw [show Try.prog.cellsOf 35 = 3 by kernel_rfl] at hl
  obtain ⟨n0, y0, h0⟩ := hf 0 _ rfl
  replace h0 : DataW.trod en Try.prog W 0 (fun _ => true) true n0 3 ((cs.drop 0).take (Try.prog.cellsOf 3)) = some y0 := h0
  rw [show Try.prog.cellsOf 3 = 1 by kernel_rfl] at h0
  obtain ⟨a0, g0, s0⟩ := (inferInstance : Opn Try.prog Int 3).opn h0
  obtain ⟨n1, y1, h1⟩ := hf 1 _ rfl
  replace h1 : DataW.trod en Try.prog W 0 (fun _ => true) true n1 3 ((cs.drop 1).take (Try.prog.cellsOf 3)) = some y1 := h1
  rw [show Try.prog.cellsOf 3 = 1 by kernel_rfl] at h1
  obtain ⟨a1, g1, s1⟩ := (inferInstance : Opn Try.prog Int 3).opn h1
  obtain ⟨n2, y2, h2⟩ := hf 2 _ rfl
  replace h2 : DataW.trod en Try.prog W 0 (fun _ => true) true n2 9 ((cs.drop 2).take (Try.prog.cellsOf 9)) = some y2 := h2
  rw [show Try.prog.cellsOf 9 = 1 by kernel_rfl] at h2
  obtain ⟨a2, g2, s2⟩ := (inferInstance : Opn Try.prog ByteArray 9).opn h2
  refine ⟨⟨a0, a1, a2⟩, ?_, s0, s1, s2⟩
  have := TL.step g0 (TL.step g1 (TL.step g2 (TL.fin hl) rfl) rfl) rfl
  exact this⟩
end V
end Go.Proofs.Ytlpbgmahegoidaa
