/- Buffers: the draws of arguments, equality. No condition. -/
import Derived.Test.YtifcacahgiihoaaGBufD
import Derived.Test.YtifcacahgiihoaaFnEq
namespace Go.Proofs.Ytifcacahgiihoaa
namespace V
open Enc (enc)
set_option linter.unusedVariables false
set_option linter.unusedSimpArgs false
set_option maxHeartbeats 4000000
set_option maxRecDepth 100000
open Go.RowKit
attribute [local irreducible] thA inA FinA eL

instance : EncI I_Frame := ⟨fun a b h => by cases a; cases b; simpa [enc] using h⟩
instance : CEq Try.prog 59 [1, 0, 1, 1] := ⟨by kernel_rfl, by kernel_rfl, by kernel_rfl, by kernel_rfl⟩
def m_S_DrawForceLog (N : Nat) (p_code : (List UInt8)) : Option (I_Buffer × Int) :=
  (m_S_newReader N p_code).bind fun r1 =>
  (m_S_anyBuffer N r1).bind fun r3 =>
  (m_S_reader_one N r3.2 [(15 : Int), (30 : Int), (0 : Int), (9999 : Int), (10000 : Int), (-1 : Int)]).bind fun r5 =>
  some (r3.1, r5.1)
theorem w_S_DrawForceLog (N : Nat) (p_code : (List UInt8)) (r : I_Buffer × Int) (hh0 : m_S_DrawForceLog N p_code = some r) : FnX Try.prog 18 [] [sL p_code] (RE (.tup [.agg [.os 0 0 r.1.frames.length, iA r.1.forced], iA r.2]) [⟨.tr (eL r.1.frames), 59, 4⟩]) := by
  unfold m_S_DrawForceLog at hh0
  refine FnX.mk Try.func18 rfl rfl ?_
  intro s hs
  refine PC.seq ?_
  refine PC.region ?_
  refine PL.ef rfl (Ef.alloc rfl rfl) ?_
  refine PL.nm (.op 0 0) [some ⟨.mx [.t (.v (.slice none 0 0)), iA (0 : Int)], 28, 0⟩] rfl rfl ?_
  refine PL.op rfl (Rd.asnT rfl) ?_
  refine PL.nil ?_
  refine thA_n ?_
  refine PC.seq ?_
  obtain ⟨r1, h_2, hh0⟩ := bind_some hh0
  refine PC.region ?_
  refine PL.op rfl (Rd.moveT rfl) ?_
  refine PL.callM false [] (w_S_newReader N p_code r1 h_2) rfl Try.call37 rfl ⟨.t _, trivial⟩ rfl trivial (fun h => by cases h) ?_
  refine PL.nm (.op 1 0) [some ⟨.mx [.t (.v (.slice none 0 0)), iA (0 : Int)], 28, 0⟩, some ⟨.mx [sL r1.b, iA r1.p], 68, 0⟩] rfl rfl ?_
  refine PL.op rfl (Rd.asnP rfl) ?_
  refine PL.nil ?_
  refine thA_n ?_
  refine PC.seq ?_
  obtain ⟨r3, h_4, hh0⟩ := bind_some hh0
  refine PC.region ?_
  refine PL.op rfl (Rd.moveP rfl) ?_
  refine PL.callM false [1] (w_S_anyBuffer N r1 r3 h_4) rfl Try.call38 rfl ⟨.op rfl, trivial⟩ rfl ⟨⟨_, rfl, rfl, rfl, .mx ⟨.t _, .t _, trivial⟩⟩, trivial⟩ (fun h => by cases h) ?_
  refine PL.nm (.agg [.os 2 0 r3.1.frames.length, iA r3.1.forced]) [some ⟨.mx [.t (.v (.slice none 0 0)), iA (0 : Int)], 28, 0⟩, some ⟨.mx [sL r3.2.b, iA r3.2.p], 68, 0⟩, some ⟨.tr (eL r3.1.frames), 59, 4⟩] rfl rfl ?_
  refine PL.ef rfl (Ef.alloc rfl rfl) ?_
  refine PL.nm (.op 3 0) [some ⟨.mx [.t (.v (.slice none 0 0)), iA (0 : Int)], 28, 0⟩, some ⟨.mx [sL r3.2.b, iA r3.2.p], 68, 0⟩, some ⟨.tr (eL r3.1.frames), 59, 4⟩, some ⟨.mx [.t (.v (.slice none 0 0)), iA (0 : Int)], 28, 0⟩] rfl rfl ?_
  refine PL.store rfl rfl rfl rfl rfl rfl rfl ?_
  refine PL.nO [some ⟨.mx [.t (.v (.slice none 0 0)), iA (0 : Int)], 28, 0⟩, some ⟨.mx [sL r3.2.b, iA r3.2.p], 68, 0⟩, some ⟨.tr (eL r3.1.frames), 59, 4⟩, some ⟨.mx [.os 2 0 r3.1.frames.length, iA r3.1.forced], 28, 0⟩] rfl ?_
  refine PL.nil ?_
  refine thA_n ?_
  refine PC.seq ?_
  obtain ⟨r5, h_6, hh0⟩ := bind_some hh0
  refine PC.any (id := 3) 4 (.seg [0, 1, 2, 3] .done) [1] rfl (by kernel_rfl) rfl ?_
  refine PT.seg ?_
  refine PR.op rfl (Rd.loadBox rfl rfl rfl) ?_
  refine PR.op rfl (Rd.moveP rfl) ?_
  refine PR.er rfl rfl (Er.ints [(15 : Int), (30 : Int), (0 : Int), (9999 : Int), (10000 : Int), (-1 : Int)] rfl rfl (by decide) rfl) ?_
  refine PR.callM false [1] (w_S_reader_one N r3.2 [(15 : Int), (30 : Int), (0 : Int), (9999 : Int), (10000 : Int), (-1 : Int)] r5 h_6) rfl Try.call39 rfl ⟨.op rfl, .t _, trivial⟩ rfl ⟨⟨_, rfl, rfl, rfl, .mx ⟨.t _, .t _, trivial⟩⟩, trivial⟩ (fun h => by cases h) rfl ?_
  refine PR.nm (iA r5.1) [some ⟨.mx [.t (.v (.slice none 0 0)), iA (0 : Int)], 28, 0⟩, some ⟨.mx [sL r5.2.b, iA r5.2.p], 68, 0⟩, some ⟨.tr (eL r3.1.frames), 59, 4⟩, some ⟨.mx [.os 2 0 r3.1.frames.length, iA r3.1.forced], 28, 0⟩] rfl rfl ?_
  refine PR.nil ?_
  refine PT.done ?_
  refine PL.store rfl rfl rfl rfl rfl rfl rfl ?_
  refine PL.nO [some ⟨.mx [.os 2 0 r3.1.frames.length, iA r3.1.forced], 28, 0⟩, some ⟨.mx [sL r5.2.b, iA r5.2.p], 68, 0⟩, some ⟨.tr (eL r3.1.frames), 59, 4⟩, some ⟨.mx [.os 2 0 r3.1.frames.length, iA r3.1.forced], 28, 0⟩] rfl ?_
  refine PL.op rfl (Rd.asnT rfl) ?_
  refine PL.nil ?_
  refine thA_n ?_
  refine PC.ret ?_
  obtain rfl := some_in hh0
  exact FinA.mk (r := .tup [.agg [.os 0 0 (((r3.1, r5.1).1.frames).length), iA ((r3.1, r5.1).1.forced)], iA ((r3.1, r5.1).2)]) (bl := [⟨.tr (eL ((r3.1, r5.1).1.frames)), 59, 4⟩]) [some 2] (.inl rfl) rfl (rl := [.cell 2 28, .tmp 3]) (.cellN rfl rfl rfl rfl (.tmp .nil)) rfl rfl rfl (.tupL ⟨.aggL ⟨.os rfl, .t _, trivial⟩, .t _, trivial⟩) ⟨⟨_, rfl, rfl, rfl, .tr _⟩, trivial⟩ ⟨rfl, rfl⟩

def m_S_DrawTouchPage (N : Nat) (p_code : (List UInt8)) : Option (I_Buffer × Int × Int) :=
  (m_S_newReader N p_code).bind fun r1 =>
  (m_S_anyBuffer N r1).bind fun r3 =>
  (m_S_reader_one N r3.2 [(0 : Int), (1 : Int), (2 : Int), (3 : Int), (4 : Int), (5 : Int), (6 : Int), (-1 : Int)]).bind fun r5 =>
  (m_S_reader_one N r5.2 [(50 : Int), (60 : Int), (10 : Int), (5 : Int), (9999 : Int), (10000 : Int), (0 : Int)]).bind fun r7 =>
  some (r3.1, r5.1, r7.1)
theorem w_S_DrawTouchPage (N : Nat) (p_code : (List UInt8)) (r : I_Buffer × Int × Int) (hh0 : m_S_DrawTouchPage N p_code = some r) : FnX Try.prog 22 [] [sL p_code] (RE (.tup [.agg [.os 0 0 r.1.frames.length, iA r.1.forced], iA r.2.1, iA r.2.2]) [⟨.tr (eL r.1.frames), 59, 4⟩]) := by
  unfold m_S_DrawTouchPage at hh0
  refine FnX.mk Try.func22 rfl rfl ?_
  intro s hs
  refine PC.seq ?_
  refine PC.region ?_
  refine PL.ef rfl (Ef.alloc rfl rfl) ?_
  refine PL.nm (.op 0 0) [some ⟨.mx [.t (.v (.slice none 0 0)), iA (0 : Int)], 28, 0⟩] rfl rfl ?_
  refine PL.op rfl (Rd.asnT rfl) ?_
  refine PL.op rfl (Rd.asnT rfl) ?_
  refine PL.nil ?_
  refine thA_n ?_
  refine PC.seq ?_
  obtain ⟨r1, h_2, hh0⟩ := bind_some hh0
  refine PC.region ?_
  refine PL.op rfl (Rd.moveT rfl) ?_
  refine PL.callM false [] (w_S_newReader N p_code r1 h_2) rfl Try.call37 rfl ⟨.t _, trivial⟩ rfl trivial (fun h => by cases h) ?_
  refine PL.nm (.op 1 0) [some ⟨.mx [.t (.v (.slice none 0 0)), iA (0 : Int)], 28, 0⟩, some ⟨.mx [sL r1.b, iA r1.p], 68, 0⟩] rfl rfl ?_
  refine PL.op rfl (Rd.asnP rfl) ?_
  refine PL.nil ?_
  refine thA_n ?_
  refine PC.seq ?_
  obtain ⟨r3, h_4, hh0⟩ := bind_some hh0
  refine PC.region ?_
  refine PL.op rfl (Rd.moveP rfl) ?_
  refine PL.callM false [1] (w_S_anyBuffer N r1 r3 h_4) rfl Try.call38 rfl ⟨.op rfl, trivial⟩ rfl ⟨⟨_, rfl, rfl, rfl, .mx ⟨.t _, .t _, trivial⟩⟩, trivial⟩ (fun h => by cases h) ?_
  refine PL.nm (.agg [.os 2 0 r3.1.frames.length, iA r3.1.forced]) [some ⟨.mx [.t (.v (.slice none 0 0)), iA (0 : Int)], 28, 0⟩, some ⟨.mx [sL r3.2.b, iA r3.2.p], 68, 0⟩, some ⟨.tr (eL r3.1.frames), 59, 4⟩] rfl rfl ?_
  refine PL.ef rfl (Ef.alloc rfl rfl) ?_
  refine PL.nm (.op 3 0) [some ⟨.mx [.t (.v (.slice none 0 0)), iA (0 : Int)], 28, 0⟩, some ⟨.mx [sL r3.2.b, iA r3.2.p], 68, 0⟩, some ⟨.tr (eL r3.1.frames), 59, 4⟩, some ⟨.mx [.t (.v (.slice none 0 0)), iA (0 : Int)], 28, 0⟩] rfl rfl ?_
  refine PL.store rfl rfl rfl rfl rfl rfl rfl ?_
  refine PL.nO [some ⟨.mx [.t (.v (.slice none 0 0)), iA (0 : Int)], 28, 0⟩, some ⟨.mx [sL r3.2.b, iA r3.2.p], 68, 0⟩, some ⟨.tr (eL r3.1.frames), 59, 4⟩, some ⟨.mx [.os 2 0 r3.1.frames.length, iA r3.1.forced], 28, 0⟩] rfl ?_
  refine PL.nil ?_
  refine thA_n ?_
  refine PC.seq ?_
  obtain ⟨r5, h_6, hh0⟩ := bind_some hh0
  refine PC.region ?_
  refine PL.op rfl (Rd.moveP rfl) ?_
  refine PL.er rfl (Er.ints [(0 : Int), (1 : Int), (2 : Int), (3 : Int), (4 : Int), (5 : Int), (6 : Int), (-1 : Int)] rfl rfl (by decide) rfl) ?_
  refine PL.callM false [1] (w_S_reader_one N r3.2 [(0 : Int), (1 : Int), (2 : Int), (3 : Int), (4 : Int), (5 : Int), (6 : Int), (-1 : Int)] r5 h_6) rfl Try.call39 rfl ⟨.op rfl, .t _, trivial⟩ rfl ⟨⟨_, rfl, rfl, rfl, .mx ⟨.t _, .t _, trivial⟩⟩, trivial⟩ (fun h => by cases h) ?_
  refine PL.nm (iA r5.1) [some ⟨.mx [.t (.v (.slice none 0 0)), iA (0 : Int)], 28, 0⟩, some ⟨.mx [sL r5.2.b, iA r5.2.p], 68, 0⟩, some ⟨.tr (eL r3.1.frames), 59, 4⟩, some ⟨.mx [.os 2 0 r3.1.frames.length, iA r3.1.forced], 28, 0⟩] rfl rfl ?_
  refine PL.op rfl (Rd.asnT rfl) ?_
  refine PL.nil ?_
  refine thA_n ?_
  refine PC.seq ?_
  obtain ⟨r7, h_8, hh0⟩ := bind_some hh0
  refine PC.any (id := 4) 8 (.seg [0, 1, 2, 3, 4, 5, 6, 7] .done) [0, 1] rfl (by kernel_rfl) rfl ?_
  refine PT.seg ?_
  refine PR.op rfl (Rd.loadBox rfl rfl rfl) ?_
  refine PR.op rfl (Rd.moveT rfl) ?_
  refine PR.op rfl (Rd.moveP rfl) ?_
  refine PR.er rfl rfl (Er.ints [(50 : Int), (60 : Int), (10 : Int), (5 : Int), (9999 : Int), (10000 : Int), (0 : Int)] rfl rfl (by decide) rfl) ?_
  refine PR.callM false [1] (w_S_reader_one N r5.2 [(50 : Int), (60 : Int), (10 : Int), (5 : Int), (9999 : Int), (10000 : Int), (0 : Int)] r7 h_8) rfl Try.call39 rfl ⟨.op rfl, .t _, trivial⟩ rfl ⟨⟨_, rfl, rfl, rfl, .mx ⟨.t _, .t _, trivial⟩⟩, trivial⟩ (fun h => by cases h) rfl ?_
  refine PR.nm (iA r7.1) [some ⟨.mx [.t (.v (.slice none 0 0)), iA (0 : Int)], 28, 0⟩, some ⟨.mx [sL r7.2.b, iA r7.2.p], 68, 0⟩, some ⟨.tr (eL r3.1.frames), 59, 4⟩, some ⟨.mx [.os 2 0 r3.1.frames.length, iA r3.1.forced], 28, 0⟩] rfl rfl ?_
  refine PR.store rfl rfl rfl rfl rfl rfl rfl rfl ?_
  refine PR.nO [some ⟨.mx [.os 2 0 r3.1.frames.length, iA r3.1.forced], 28, 0⟩, some ⟨.mx [sL r7.2.b, iA r7.2.p], 68, 0⟩, some ⟨.tr (eL r3.1.frames), 59, 4⟩, some ⟨.mx [.os 2 0 r3.1.frames.length, iA r3.1.forced], 28, 0⟩] rfl ?_
  refine PR.op rfl (Rd.asnT rfl) ?_
  refine PR.op rfl (Rd.asnT rfl) ?_
  refine PR.nil ?_
  refine PT.done ?_
  refine PL.nil ?_
  refine thA_n ?_
  refine PC.ret ?_
  obtain rfl := some_in hh0
  exact FinA.mk (r := .tup [.agg [.os 0 0 (((r3.1, r5.1, r7.1).1.frames).length), iA ((r3.1, r5.1, r7.1).1.forced)], iA ((r3.1, r5.1, r7.1).2.1), iA ((r3.1, r5.1, r7.1).2.2)]) (bl := [⟨.tr (eL ((r3.1, r5.1, r7.1).1.frames)), 59, 4⟩]) [some 2] (.inl rfl) rfl (rl := [.cell 2 28, .tmp 3, .tmp 4]) (.cellN rfl rfl rfl rfl (.tmp (.tmp .nil))) rfl rfl rfl (.tupL ⟨.aggL ⟨.os rfl, .t _, trivial⟩, .t _, .t _, trivial⟩) ⟨⟨_, rfl, rfl, rfl, .tr _⟩, trivial⟩ ⟨rfl, rfl⟩

def m_S_DrawCanWrite (N : Nat) (p_code : (List UInt8)) : Option (I_Buffer × Int) :=
  (m_S_newReader N p_code).bind fun r1 =>
  (m_S_anyBuffer N r1).bind fun r3 =>
  (m_S_reader_one N r3.2 [(0 : Int), (1 : Int), (2 : Int), (3 : Int), (6 : Int), (-1 : Int)]).bind fun r5 =>
  some (r3.1, r5.1)
theorem w_S_DrawCanWrite (N : Nat) (p_code : (List UInt8)) (r : I_Buffer × Int) (hh0 : m_S_DrawCanWrite N p_code = some r) : FnX Try.prog 44 [] [sL p_code] (RE (.tup [.agg [.os 0 0 r.1.frames.length, iA r.1.forced], iA r.2]) [⟨.tr (eL r.1.frames), 59, 4⟩]) := by
  unfold m_S_DrawCanWrite at hh0
  refine FnX.mk Try.func44 rfl rfl ?_
  intro s hs
  refine PC.seq ?_
  refine PC.region ?_
  refine PL.ef rfl (Ef.alloc rfl rfl) ?_
  refine PL.nm (.op 0 0) [some ⟨.mx [.t (.v (.slice none 0 0)), iA (0 : Int)], 28, 0⟩] rfl rfl ?_
  refine PL.op rfl (Rd.asnT rfl) ?_
  refine PL.nil ?_
  refine thA_n ?_
  refine PC.seq ?_
  obtain ⟨r1, h_2, hh0⟩ := bind_some hh0
  refine PC.region ?_
  refine PL.op rfl (Rd.moveT rfl) ?_
  refine PL.callM false [] (w_S_newReader N p_code r1 h_2) rfl Try.call37 rfl ⟨.t _, trivial⟩ rfl trivial (fun h => by cases h) ?_
  refine PL.nm (.op 1 0) [some ⟨.mx [.t (.v (.slice none 0 0)), iA (0 : Int)], 28, 0⟩, some ⟨.mx [sL r1.b, iA r1.p], 68, 0⟩] rfl rfl ?_
  refine PL.op rfl (Rd.asnP rfl) ?_
  refine PL.nil ?_
  refine thA_n ?_
  refine PC.seq ?_
  obtain ⟨r3, h_4, hh0⟩ := bind_some hh0
  refine PC.region ?_
  refine PL.op rfl (Rd.moveP rfl) ?_
  refine PL.callM false [1] (w_S_anyBuffer N r1 r3 h_4) rfl Try.call38 rfl ⟨.op rfl, trivial⟩ rfl ⟨⟨_, rfl, rfl, rfl, .mx ⟨.t _, .t _, trivial⟩⟩, trivial⟩ (fun h => by cases h) ?_
  refine PL.nm (.agg [.os 2 0 r3.1.frames.length, iA r3.1.forced]) [some ⟨.mx [.t (.v (.slice none 0 0)), iA (0 : Int)], 28, 0⟩, some ⟨.mx [sL r3.2.b, iA r3.2.p], 68, 0⟩, some ⟨.tr (eL r3.1.frames), 59, 4⟩] rfl rfl ?_
  refine PL.ef rfl (Ef.alloc rfl rfl) ?_
  refine PL.nm (.op 3 0) [some ⟨.mx [.t (.v (.slice none 0 0)), iA (0 : Int)], 28, 0⟩, some ⟨.mx [sL r3.2.b, iA r3.2.p], 68, 0⟩, some ⟨.tr (eL r3.1.frames), 59, 4⟩, some ⟨.mx [.t (.v (.slice none 0 0)), iA (0 : Int)], 28, 0⟩] rfl rfl ?_
  refine PL.store rfl rfl rfl rfl rfl rfl rfl ?_
  refine PL.nO [some ⟨.mx [.t (.v (.slice none 0 0)), iA (0 : Int)], 28, 0⟩, some ⟨.mx [sL r3.2.b, iA r3.2.p], 68, 0⟩, some ⟨.tr (eL r3.1.frames), 59, 4⟩, some ⟨.mx [.os 2 0 r3.1.frames.length, iA r3.1.forced], 28, 0⟩] rfl ?_
  refine PL.nil ?_
  refine thA_n ?_
  refine PC.seq ?_
  obtain ⟨r5, h_6, hh0⟩ := bind_some hh0
  refine PC.any (id := 3) 4 (.seg [0, 1, 2, 3] .done) [1] rfl (by kernel_rfl) rfl ?_
  refine PT.seg ?_
  refine PR.op rfl (Rd.loadBox rfl rfl rfl) ?_
  refine PR.op rfl (Rd.moveP rfl) ?_
  refine PR.er rfl rfl (Er.ints [(0 : Int), (1 : Int), (2 : Int), (3 : Int), (6 : Int), (-1 : Int)] rfl rfl (by decide) rfl) ?_
  refine PR.callM false [1] (w_S_reader_one N r3.2 [(0 : Int), (1 : Int), (2 : Int), (3 : Int), (6 : Int), (-1 : Int)] r5 h_6) rfl Try.call39 rfl ⟨.op rfl, .t _, trivial⟩ rfl ⟨⟨_, rfl, rfl, rfl, .mx ⟨.t _, .t _, trivial⟩⟩, trivial⟩ (fun h => by cases h) rfl ?_
  refine PR.nm (iA r5.1) [some ⟨.mx [.t (.v (.slice none 0 0)), iA (0 : Int)], 28, 0⟩, some ⟨.mx [sL r5.2.b, iA r5.2.p], 68, 0⟩, some ⟨.tr (eL r3.1.frames), 59, 4⟩, some ⟨.mx [.os 2 0 r3.1.frames.length, iA r3.1.forced], 28, 0⟩] rfl rfl ?_
  refine PR.nil ?_
  refine PT.done ?_
  refine PL.store rfl rfl rfl rfl rfl rfl rfl ?_
  refine PL.nO [some ⟨.mx [.os 2 0 r3.1.frames.length, iA r3.1.forced], 28, 0⟩, some ⟨.mx [sL r5.2.b, iA r5.2.p], 68, 0⟩, some ⟨.tr (eL r3.1.frames), 59, 4⟩, some ⟨.mx [.os 2 0 r3.1.frames.length, iA r3.1.forced], 28, 0⟩] rfl ?_
  refine PL.op rfl (Rd.asnT rfl) ?_
  refine PL.nil ?_
  refine thA_n ?_
  refine PC.ret ?_
  obtain rfl := some_in hh0
  exact FinA.mk (r := .tup [.agg [.os 0 0 (((r3.1, r5.1).1.frames).length), iA ((r3.1, r5.1).1.forced)], iA ((r3.1, r5.1).2)]) (bl := [⟨.tr (eL ((r3.1, r5.1).1.frames)), 59, 4⟩]) [some 2] (.inl rfl) rfl (rl := [.cell 2 28, .tmp 3]) (.cellN rfl rfl rfl rfl (.tmp .nil)) rfl rfl rfl (.tupL ⟨.aggL ⟨.os rfl, .t _, trivial⟩, .t _, trivial⟩) ⟨⟨_, rfl, rfl, rfl, .tr _⟩, trivial⟩ ⟨rfl, rfl⟩

def m_S_DrawWritePage (N : Nat) (p_code : (List UInt8)) : Option (I_Buffer × Int) :=
  (m_S_DrawCanWrite N p_code).bind fun r1 =>
  some (r1.1, r1.2)
theorem w_S_DrawWritePage (N : Nat) (p_code : (List UInt8)) (r : I_Buffer × Int) (hh0 : m_S_DrawWritePage N p_code = some r) : FnX Try.prog 25 [] [sL p_code] (RE (.tup [.agg [.os 0 0 r.1.frames.length, iA r.1.forced], iA r.2]) [⟨.tr (eL r.1.frames), 59, 4⟩]) := by
  unfold m_S_DrawWritePage at hh0
  refine FnX.mk Try.func25 rfl rfl ?_
  intro s hs
  refine PC.seq ?_
  refine PC.region ?_
  refine PL.ef rfl (Ef.alloc rfl rfl) ?_
  refine PL.nm (.op 0 0) [some ⟨.mx [.t (.v (.slice none 0 0)), iA (0 : Int)], 28, 0⟩] rfl rfl ?_
  refine PL.op rfl (Rd.asnT rfl) ?_
  refine PL.nil ?_
  refine thA_n ?_
  refine PC.seq ?_
  obtain ⟨r1, h_2, hh0⟩ := bind_some hh0
  refine PC.region ?_
  refine PL.op rfl (Rd.moveT rfl) ?_
  refine PL.callM false [] (w_S_DrawCanWrite N p_code r1 h_2) rfl Try.call44 rfl ⟨.t _, trivial⟩ rfl trivial (fun h => by cases h) ?_
  refine PL.nm (.tup [.agg [.os 1 0 r1.1.frames.length, iA r1.1.forced], iA r1.2]) [some ⟨.mx [.t (.v (.slice none 0 0)), iA (0 : Int)], 28, 0⟩, some ⟨.tr (eL r1.1.frames), 59, 4⟩] rfl rfl ?_
  refine PL.op rfl (Rd.extract rfl rfl) ?_
  refine PL.op rfl (Rd.extract rfl rfl) ?_
  refine PL.store rfl rfl rfl rfl rfl rfl rfl ?_
  refine PL.nO [some ⟨.mx [.os 1 0 r1.1.frames.length, iA r1.1.forced], 28, 0⟩, some ⟨.tr (eL r1.1.frames), 59, 4⟩] rfl ?_
  refine PL.op rfl (Rd.asnT rfl) ?_
  refine PL.nil ?_
  refine thA_n ?_
  refine PC.ret ?_
  obtain rfl := some_in hh0
  exact FinA.mk (r := .tup [.agg [.os 0 0 (((r1.1, r1.2).1.frames).length), iA ((r1.1, r1.2).1.forced)], iA ((r1.1, r1.2).2)]) (bl := [⟨.tr (eL ((r1.1, r1.2).1.frames)), 59, 4⟩]) [some 1] (.inl rfl) rfl (rl := [.cell 2 28, .tmp 3]) (.cellN rfl rfl rfl rfl (.tmp .nil)) rfl rfl rfl (.tupL ⟨.aggL ⟨.os rfl, .t _, trivial⟩, .t _, trivial⟩) ⟨⟨_, rfl, rfl, rfl, .tr _⟩, trivial⟩ ⟨rfl, rfl⟩

def m_L_equalFrames_k1 (N : Nat) : Option (Bool) :=
  some true
def m_L_equalFrames_b1 (N : Nat) (p_a : (List I_Frame)) (p_b : (List I_Frame)) (i2 : Int) : Option (Int ⊕ (Unit ⊕ Bool)) :=
  cond (decide (i2 < (p_a.length : Int)))
    ((ixI p_a i2).bind fun x17 =>
    (ixI p_b i2).bind fun x19 =>
    cond (decide (x17 = x19))
      ((chk (i2 + (1 : Int))).bind fun n22 =>
      some (.inl n22))
      (some (.inr (.inr false))))
    (some (.inr (.inl ())))
def m_L_equalFrames (N : Nat) (p_a : (List I_Frame)) (p_b : (List I_Frame)) : Option (Bool) :=
  cond (decide ((p_a.length : Int) = (p_b.length : Int)))
    ((loopM (β := Unit ⊕ Bool) (fun s : Int => m_L_equalFrames_b1 N p_a p_b s) N (0 : Int)).bind fun o => match o with
    | .inl e =>
      m_L_equalFrames_k1 N 
    | .inr v =>
      some v)
    (some false)
theorem w_L_equalFrames (N : Nat) (p_a : (List I_Frame)) (p_b : (List I_Frame)) (r : Bool) (hh0 : m_L_equalFrames N p_a p_b = some r) : FnX Try.prog 40 [] [sL p_a, sL p_b] (RE (bA r) []) := by
  unfold m_L_equalFrames at hh0
  refine FnX.mk Try.func40 rfl rfl ?_
  intro s hs
  refine PC.seq ?_
  refine PC.region ?_
  refine PL.op rfl (Rd.asnT rfl) ?_
  refine PL.nil ?_
  refine thA_n ?_
  refine PC.seq ?_
  refine PC.seq ?_
  refine PC.region ?_
  refine PL.op rfl (Rd.moveT rfl) ?_
  refine PL.op rfl (Rd.lenT rfl) ?_
  refine PL.op rfl (Rd.moveT rfl) ?_
  refine PL.op rfl (Rd.lenT rfl) ?_
  refine PL.op rfl (Rd.neq rfl rfl) ?_
  refine PL.nil ?_
  refine thA_n ?_
  rcases cond_some hh0 with ⟨h_1, hh0⟩ | ⟨h_1, hh0⟩
  rotate_left
  · refine PC.cond_true rfl (not_f h_1) ?_
    refine PC.seq ?_
    refine PC.region ?_
    refine PL.op rfl (Rd.asnT rfl) ?_
    refine PL.nil ?_
    refine thA_n ?_
    refine PC.ret ?_
    refine thA_r ?_
    obtain rfl := some_in hh0
    exact FinA.mk (r := bA false) (bl := []) [] (.inl rfl) rfl (rl := [.tmp 4]) (.tmp .nil) rfl rfl rfl (.t _) trivial ⟨rfl, rfl⟩
  refine PC.cond_false rfl (not_t h_1) ?_
  refine PC.skip ?_
  refine thA_n ?_
  refine PC.seq ?_
  refine PC.seq ?_
  refine PC.region ?_
  refine PL.op rfl (Rd.asnT rfl) ?_
  refine PL.nil ?_
  refine thA_n ?_
  obtain ⟨o11, h_12, hh0⟩ := bind_some hh0
  refine PC.cutE hs (fun x : Unit => []) (fun x => []) (fun x => m_L_equalFrames_k1 N  = some r) ?_ ?_
  · refine PC.block ?_
    refine PC.loop hs (fun x : Nat × (Int) => [(0, sL p_a), (1, sL p_b), (5, iA x.2)]) (fun x => []) (fun x => loopM (β := Unit ⊕ Bool) (fun s : Int => m_L_equalFrames_b1 N p_a p_b s) x.1 x.2 = some o11) (fun x => x.1) (N, (0 : Int)) [] ⟨rfl, rfl, trivial, ⟨.t _, .t _, .t _, trivial⟩⟩ h_12 ?_
    rintro ⟨f13_, i2⟩ h_15
    obtain ⟨f13, y14, rfl, hh1, kk1⟩ := loopM_some h_15
    replace hh1 : m_L_equalFrames_b1 N p_a p_b i2 = some y14 := hh1
    unfold m_L_equalFrames_b1 at hh1
    refine PC.seq ?_
    refine PC.seq ?_
    refine PC.region ?_
    refine PL.op rfl (Rd.moveT rfl) ?_
    refine PL.op rfl (Rd.moveT rfl) ?_
    refine PL.op rfl (Rd.lenT rfl) ?_
    refine PL.op rfl (Rd.lss rfl rfl) ?_
    refine PL.nil ?_
    refine thA_n ?_
    rcases cond_some hh1 with ⟨h_16, hh1⟩ | ⟨h_16, hh1⟩
    rotate_left
    · refine PC.cond_false rfl h_16 ?_
      refine PC.exit ?_
      refine thA_e ?_
      refine thA_e ?_
      refine inA_eq rfl ?_
      refine thA_n ?_
      obtain rfl := some_in hh1
      obtain rfl : (.inl () : Unit ⊕ Bool) = o11 := kk1
      exact ⟨(), hh0, [], ⟨rfl, rfl, trivial, trivial⟩⟩
    refine PC.cond_true rfl h_16 ?_
    refine PC.skip ?_
    refine thA_n ?_
    refine PC.seq ?_
    refine PC.block ?_
    refine PC.seq ?_
    obtain ⟨x17, h_18, hh1⟩ := bind_some hh1
    obtain ⟨x19, h_20, hh1⟩ := bind_some hh1
    refine PC.any (id := 6) 9 (.seg [0, 1, 2, 3, 4, 5, 6, 7, 8] .done) [] rfl (by kernel_rfl) rfl ?_
    refine PT.seg ?_
    refine PR.op rfl (Rd.moveT rfl) ?_
    refine PR.op rfl (Rd.moveT rfl) ?_
    refine PR.op rfl (Rd.ixM rfl rfl h_18) ?_
    refine PR.op rfl (Rd.elMR rfl h_18 rfl rfl) ?_
    refine PR.op rfl (Rd.moveT rfl) ?_
    refine PR.op rfl (Rd.moveT rfl) ?_
    refine PR.op rfl (Rd.ixM rfl rfl h_20) ?_
    refine PR.op rfl (Rd.elMR rfl h_20 rfl rfl) ?_
    refine PR.op rfl (Rd.neqE (a := x17) (b := x19) rfl rfl rfl rfl) ?_
    refine PR.nil ?_
    refine PT.done ?_
    refine PL.nil ?_
    refine thA_n ?_
    rcases cond_some hh1 with ⟨h_21, hh1⟩ | ⟨h_21, hh1⟩
    · refine PC.cond_false rfl (not_t h_21) ?_
      refine PC.skip ?_
      refine inA_n ?_
      refine thA_n ?_
      obtain ⟨n22, h_23, hh1⟩ := bind_some hh1
      refine PC.region ?_
      refine PL.op rfl (Rd.moveT rfl) ?_
      refine PL.op rfl (Rd.addM rfl rfl h_23) ?_
      refine PL.op rfl (Rd.asnT rfl) ?_
      refine PL.nil ?_
      obtain rfl := some_in hh1
      refine thA_n ?_
      exact ⟨(f13, n22), Nat.lt_succ_self _, kk1, [], ⟨rfl, rfl, trivial, ⟨.t _, .t _, .t _, trivial⟩⟩⟩
    refine PC.cond_true rfl (not_f h_21) ?_
    refine PC.seq ?_
    refine PC.region ?_
    refine PL.op rfl (Rd.asnT rfl) ?_
    refine PL.nil ?_
    refine thA_n ?_
    refine PC.ret ?_
    refine inA_r ?_
    refine thA_r ?_
    refine thA_r ?_
    refine inA_r ?_
    refine thA_r ?_
    obtain rfl := some_in hh1
    obtain rfl : (.inr false : Unit ⊕ Bool) = o11 := kk1
    refine thA_r ?_
    obtain rfl := some_in hh0
    exact FinA.mk (r := bA false) (bl := []) [] (.inl rfl) rfl (rl := [.tmp 4]) (.tmp .nil) rfl rfl rfl (.t _) trivial ⟨rfl, rfl⟩
  clear hh0
  rintro ⟨⟩ hh0
  replace hh0 : m_L_equalFrames_k1 N  = some r := hh0
  unfold m_L_equalFrames_k1 at hh0
  refine thA_n ?_
  refine PC.seq ?_
  refine PC.region ?_
  refine PL.op rfl (Rd.asnT rfl) ?_
  refine PL.nil ?_
  refine thA_n ?_
  refine PC.ret ?_
  obtain rfl := some_in hh0
  exact FinA.mk (r := bA true) (bl := []) [] (.inl rfl) rfl (rl := [.tmp 4]) (.tmp .nil) rfl rfl rfl (.t _) trivial ⟨rfl, rfl⟩

def m_L_equalBuffer (N : Nat) (p_a : I_Buffer) (p_b : I_Buffer) : Option (Bool) :=
  (m_L_equalFrames N p_a.frames p_b.frames).bind fun r1 =>
  cond r1
    (some (decide (p_a.forced = p_b.forced)))
    (some false)
theorem w_L_equalBuffer (N : Nat) (p_a : I_Buffer) (p_b : I_Buffer) (r : Bool) (hh0 : m_L_equalBuffer N p_a p_b = some r) : FnX Try.prog 19 [] [.agg [sL p_a.frames, iA p_a.forced], .agg [sL p_b.frames, iA p_b.forced]] (RE (bA r) []) := by
  unfold m_L_equalBuffer at hh0
  refine FnX.mk Try.func19 rfl rfl ?_
  intro s hs
  refine PC.seq ?_
  refine PC.region ?_
  refine PL.ef rfl (Ef.box rfl rfl rfl) ?_
  refine PL.nm (.op 0 0) [some ⟨.mx [sL p_a.frames, iA p_a.forced], 28, 0⟩] rfl rfl ?_
  refine PL.ef rfl (Ef.box rfl rfl rfl) ?_
  refine PL.nm (.op 1 0) [some ⟨.mx [sL p_a.frames, iA p_a.forced], 28, 0⟩, some ⟨.mx [sL p_b.frames, iA p_b.forced], 28, 0⟩] rfl rfl ?_
  refine PL.op rfl (Rd.asnT rfl) ?_
  refine PL.nil ?_
  refine thA_n ?_
  refine PC.seq ?_
  obtain ⟨r1, h_2, hh0⟩ := bind_some hh0
  rcases cond_some hh0 with ⟨h_3, hh0⟩ | ⟨h_3, hh0⟩
  rotate_left
  · refine PC.region ?_
    refine PL.op rfl (Rd.fieldO rfl rfl) ?_
    refine PL.op rfl (Rd.loadO rfl rfl rfl) ?_
    refine PL.op rfl (Rd.fieldO rfl rfl) ?_
    refine PL.op rfl (Rd.loadO rfl rfl rfl) ?_
    refine PL.callM false [] (w_L_equalFrames N p_a.frames p_b.frames r1 h_2) rfl Try.call40 rfl ⟨.t _, .t _, trivial⟩ rfl trivial (fun h => by cases h) ?_
    refine PL.op rfl (Rd.moveT rfl) ?_
    refine PL.guard_off rfl rfl h_3 ?_
    refine PL.guard_off rfl rfl h_3 ?_
    refine PL.guard_off rfl rfl h_3 ?_
    refine PL.guard_off rfl rfl h_3 ?_
    refine PL.guard_off rfl rfl h_3 ?_
    refine PL.op rfl (Rd.pick_f rfl h_3) ?_
    refine PL.op rfl (Rd.asnT rfl) ?_
    refine PL.nil ?_
    refine thA_n ?_
    refine PC.ret ?_
    obtain rfl := some_in hh0
    exact FinA.mk (r := bA false) (bl := []) [] (.inl rfl) rfl (rl := [.tmp 4]) (.tmp .nil) rfl rfl rfl (.t _) trivial ⟨rfl, rfl⟩
  refine PC.region ?_
  refine PL.op rfl (Rd.fieldO rfl rfl) ?_
  refine PL.op rfl (Rd.loadO rfl rfl rfl) ?_
  refine PL.op rfl (Rd.fieldO rfl rfl) ?_
  refine PL.op rfl (Rd.loadO rfl rfl rfl) ?_
  refine PL.callM false [] (w_L_equalFrames N p_a.frames p_b.frames r1 h_2) rfl Try.call40 rfl ⟨.t _, .t _, trivial⟩ rfl trivial (fun h => by cases h) ?_
  refine PL.op rfl (Rd.moveT rfl) ?_
  refine PL.guard_on rfl h_3 ?_
  refine PL.op rfl (Rd.fieldO rfl rfl) ?_
  refine PL.guard_on rfl h_3 ?_
  refine PL.op rfl (Rd.loadO rfl rfl rfl) ?_
  refine PL.guard_on rfl h_3 ?_
  refine PL.op rfl (Rd.fieldO rfl rfl) ?_
  refine PL.guard_on rfl h_3 ?_
  refine PL.op rfl (Rd.loadO rfl rfl rfl) ?_
  refine PL.guard_on rfl h_3 ?_
  refine PL.op rfl (Rd.eql rfl rfl) ?_
  refine PL.op rfl (Rd.pick_t rfl h_3) ?_
  refine PL.op rfl (Rd.asnT rfl) ?_
  refine PL.nil ?_
  refine thA_n ?_
  refine PC.ret ?_
  obtain rfl := some_in hh0
  exact FinA.mk (r := bA (decide (p_a.forced = p_b.forced))) (bl := []) [] (.inl rfl) rfl (rl := [.tmp 4]) (.tmp .nil) rfl rfl rfl (.t _) trivial ⟨rfl, rfl⟩

end V
end Go.Proofs.Ytifcacahgiihoaa
