/- Buffers that are drawn. No condition. -/
import Derived.Test.YtifcacahgiihoaaGBufB
namespace Go.Proofs.Ytifcacahgiihoaa
namespace V
open Enc (enc)
set_option linter.unusedVariables false
set_option linter.unusedSimpArgs false
set_option maxHeartbeats 4000000
set_option maxRecDepth 100000
open Go.RowKit
attribute [local irreducible] thA inA FinA eL

def m_S_anyBuffer_k1 (N : Nat) (v51 : (List UInt8)) (v52 : Int) (v53 : Int) (v54 : (List I_Frame)) : Option (I_Buffer × S_reader) :=
  (m_S_reader_pick N (S_reader.mk v51 v52) (24 : Int)).bind fun r60 =>
  cond (decide (r60.1 = (0 : Int)))
    ((m_S_reader_one N r60.2 [(-1 : Int), (10000 : Int)]).bind fun r63 =>
    some ((I_Buffer.mk v54 r63.1), r63.2))
    (cond (decide (r60.1 = (1 : Int)))
      ((m_S_reader_one N r60.2 [(0 : Int), (5 : Int), (6 : Int), (-1 : Int)]).bind fun r66 =>
      (m_S_reader_one N r66.2 [(0 : Int), (7 : Int), (10000 : Int)]).bind fun r68 =>
      (m_S_reader_one N r68.2 [(0 : Int), (7 : Int), (8 : Int)]).bind fun r70 =>
      (appM 32 v54 [(I_Frame.mk r66.1 false r70.1 r68.1)]).bind fun xs72 =>
      some ((I_Buffer.mk xs72 v53), r70.2))
      (some ((I_Buffer.mk v54 v53), r60.2)))
def m_S_anyBuffer_b1 (N : Nat) (n5 : Int) (next6 : Int) (v7 : (List UInt8)) (v8 : Int) (v9 : Int) (v10 : (List I_Frame)) : Option ((Int × Int × (List UInt8) × Int × Int × (List I_Frame)) ⊕ ((List UInt8) × Int × Int × (List I_Frame))) :=
  cond (decide ((0 : Int) < next6))
    ((chk (n5 + (1 : Int))).bind fun n75 =>
    (m_S_reader_pick N (S_reader.mk v7 v8) (5 : Int)).bind fun r77 =>
    (chk (n75 + r77.1)).bind fun n79 =>
    (m_S_reader_pick N r77.2 (4 : Int)).bind fun r81 =>
    (m_S_TouchPage N (I_Buffer.mk v10 v9) r81.1 n79).bind fun r83 =>
    cond r83.2
      ((m_S_reader_pick N r81.2 (4 : Int)).bind fun r86 =>
      (m_S_WritePage N r83.1 r86.1).bind fun r88 =>
      cond r88.2
        ((m_S_reader_pick N r86.2 (2 : Int)).bind fun r91 =>
        cond (decide (r91.1 = (0 : Int)))
          ((chk (next6 - (1 : Int))).bind fun n94 =>
          some (.inl (n79, n94, r91.2.b, r91.2.p, r88.1.forced, r88.1.frames)))
          ((chk (next6 - (1 : Int))).bind fun n96 =>
          some (.inl (n79, n96, r91.2.b, r91.2.p, r83.1.forced, r83.1.frames))))
        ((chk (next6 - (1 : Int))).bind fun n98 =>
        some (.inl (n79, n98, r86.2.b, r86.2.p, r83.1.forced, r83.1.frames))))
      ((m_S_reader_pick N r81.2 (4 : Int)).bind fun r100 =>
      (m_S_WritePage N (I_Buffer.mk v10 v9) r100.1).bind fun r102 =>
      cond r102.2
        ((m_S_reader_pick N r100.2 (2 : Int)).bind fun r105 =>
        cond (decide (r105.1 = (0 : Int)))
          ((chk (next6 - (1 : Int))).bind fun n108 =>
          some (.inl (n79, n108, r105.2.b, r105.2.p, r102.1.forced, r102.1.frames)))
          ((chk (next6 - (1 : Int))).bind fun n110 =>
          some (.inl (n79, n110, r105.2.b, r105.2.p, v9, v10))))
        ((chk (next6 - (1 : Int))).bind fun n112 =>
        some (.inl (n79, n112, r100.2.b, r100.2.p, v9, v10)))))
    (some (.inr (v7, v8, v9, v10)))
def m_S_anyBuffer (N : Nat) (p_r : S_reader) : Option (I_Buffer × S_reader) :=
  (m_S_reader_one N p_r [(10 : Int), (20 : Int), (0 : Int), (5 : Int), (9999 : Int)]).bind fun r1 =>
  (m_S_reader_one N r1.2 [(3 : Int), (5 : Int), (2 : Int), (0 : Int), (8 : Int)]).bind fun r3 =>
  (loopM (β := (List UInt8) × Int × Int × (List I_Frame)) (fun s : Int × Int × (List UInt8) × Int × Int × (List I_Frame) => m_S_anyBuffer_b1 N s.1 s.2.1 s.2.2.1 s.2.2.2.1 s.2.2.2.2.1 s.2.2.2.2.2) N ((0 : Int), r3.1, r3.2.b, r3.2.p, r1.1, ([] : List I_Frame))).bind fun e =>
  m_S_anyBuffer_k1 N e.1 e.2.1 e.2.2.1 e.2.2.2
theorem w_S_anyBuffer (N : Nat) (p_r : S_reader) (r : I_Buffer × S_reader) (hh0 : m_S_anyBuffer N p_r = some r) : FnX Try.prog 38 [⟨.mx [sL p_r.b, iA p_r.p], 68, 0⟩] [.op 0 0] (RE (.agg [.os 1 0 r.1.frames.length, iA r.1.forced]) [⟨.mx [sL r.2.b, iA r.2.p], 68, 0⟩, ⟨.tr (eL r.1.frames), 59, 4⟩]) := by
  unfold m_S_anyBuffer at hh0
  refine FnX.mk Try.func38 rfl rfl ?_
  intro s hs
  refine PC.seq ?_
  refine PC.region ?_
  refine PL.ef rfl (Ef.alloc rfl rfl) ?_
  refine PL.nm (.op 1 0) [some ⟨.mx [sL p_r.b, iA p_r.p], 68, 0⟩, some ⟨.mx [.t (.v (.slice none 0 0)), iA (0 : Int)], 28, 0⟩] rfl rfl ?_
  refine PL.nil ?_
  refine thA_n ?_
  refine PC.seq ?_
  obtain ⟨r1, h_2, hh0⟩ := bind_some hh0
  refine PC.region ?_
  refine PL.op rfl (Rd.moveP rfl) ?_
  refine PL.er rfl (Er.ints [(10 : Int), (20 : Int), (0 : Int), (5 : Int), (9999 : Int)] rfl rfl (by decide) rfl) ?_
  refine PL.callM false [0] (w_S_reader_one N p_r [(10 : Int), (20 : Int), (0 : Int), (5 : Int), (9999 : Int)] r1 h_2) rfl Try.call39 rfl ⟨.op rfl, .t _, trivial⟩ rfl ⟨⟨_, rfl, rfl, rfl, .mx ⟨.t _, .t _, trivial⟩⟩, trivial⟩ (fun h => by cases h) ?_
  refine PL.nm (iA r1.1) [some ⟨.mx [sL r1.2.b, iA r1.2.p], 68, 0⟩, some ⟨.mx [.t (.v (.slice none 0 0)), iA (0 : Int)], 28, 0⟩] rfl rfl ?_
  refine PL.op rfl (Rd.build rfl rfl rfl rfl) ?_
  refine PL.ef rfl (Ef.alloc rfl rfl) ?_
  refine PL.nm (.op 2 0) [some ⟨.mx [sL r1.2.b, iA r1.2.p], 68, 0⟩, some ⟨.mx [.t (.v (.slice none 0 0)), iA (0 : Int)], 28, 0⟩, some ⟨.mx [.t (.v (.slice none 0 0)), iA (0 : Int)], 28, 0⟩] rfl rfl ?_
  refine PL.store rfl rfl rfl rfl rfl rfl rfl ?_
  refine PL.nO [some ⟨.mx [sL r1.2.b, iA r1.2.p], 68, 0⟩, some ⟨.mx [.t (.v (.slice none 0 0)), iA (0 : Int)], 28, 0⟩, some ⟨.mx [.t (.v (.slice none 0 0)), iA r1.1], 28, 0⟩] rfl ?_
  refine PL.nil ?_
  refine thA_n ?_
  refine PC.seq ?_
  refine PC.region ?_
  refine PL.op rfl (Rd.asnT rfl) ?_
  refine PL.nil ?_
  refine thA_n ?_
  refine PC.seq ?_
  refine PC.seq ?_
  obtain ⟨r3, h_4, hh0⟩ := bind_some hh0
  refine PC.region ?_
  refine PL.op rfl (Rd.moveP rfl) ?_
  refine PL.er rfl (Er.ints [(3 : Int), (5 : Int), (2 : Int), (0 : Int), (8 : Int)] rfl rfl (by decide) rfl) ?_
  refine PL.callM false [0] (w_S_reader_one N r1.2 [(3 : Int), (5 : Int), (2 : Int), (0 : Int), (8 : Int)] r3 h_4) rfl Try.call39 rfl ⟨.op rfl, .t _, trivial⟩ rfl ⟨⟨_, rfl, rfl, rfl, .mx ⟨.t _, .t _, trivial⟩⟩, trivial⟩ (fun h => by cases h) ?_
  refine PL.nm (iA r3.1) [some ⟨.mx [sL r3.2.b, iA r3.2.p], 68, 0⟩, some ⟨.mx [.t (.v (.slice none 0 0)), iA (0 : Int)], 28, 0⟩, some ⟨.mx [.t (.v (.slice none 0 0)), iA r1.1], 28, 0⟩] rfl rfl ?_
  refine PL.op rfl (Rd.asnT rfl) ?_
  refine PL.nil ?_
  refine thA_n ?_
  obtain ⟨o55, h_56, hh0⟩ := bind_some hh0
  refine PC.cutE hs (fun x : (List UInt8) × Int × Int × (List I_Frame) => [(0, .op 0 0), (2, .op 1 0), (3, .op 2 0)]) (fun x => [⟨.mx [sL x.1, iA x.2.1], 68, 0⟩, ⟨.mx [.t (.v (.slice none 0 0)), iA (0 : Int)], 28, 0⟩, ⟨.mx [.os 3 0 x.2.2.2.length, iA x.2.2.1], 28, 0⟩, ⟨.tr (eL x.2.2.2), 59, 4⟩]) (fun x => m_S_anyBuffer_k1 N x.1 x.2.1 x.2.2.1 x.2.2.2 = some r) ?_ ?_
  · refine PC.block ?_
    refine PC.loop hs (fun x : Nat × (Int × Int × (List UInt8) × Int × Int × (List I_Frame)) => [(0, .op 0 0), (2, .op 1 0), (3, .op 2 0), (4, iA x.2.1), (5, iA x.2.2.1)]) (fun x => [⟨.mx [sL x.2.2.2.1, iA x.2.2.2.2.1], 68, 0⟩, ⟨.mx [.t (.v (.slice none 0 0)), iA (0 : Int)], 28, 0⟩, ⟨.mx [.os 3 0 x.2.2.2.2.2.2.length, iA x.2.2.2.2.2.1], 28, 0⟩, ⟨.tr (eL x.2.2.2.2.2.2), 59, 4⟩]) (fun x => loopM (β := (List UInt8) × Int × Int × (List I_Frame)) (fun s : Int × Int × (List UInt8) × Int × Int × (List I_Frame) => m_S_anyBuffer_b1 N s.1 s.2.1 s.2.2.1 s.2.2.2.1 s.2.2.2.2.1 s.2.2.2.2.2) x.1 x.2 = some o55) (fun x => x.1) (N, ((0 : Int), r3.1, r3.2.b, r3.2.p, r1.1, ([] : List I_Frame))) [some 0, some 1, some 2, none] ⟨rfl, rfl, ⟨⟨_, rfl, rfl, rfl, .mx ⟨.t _, .t _, trivial⟩⟩, ⟨_, rfl, rfl, rfl, .mx ⟨.t _, .t _, trivial⟩⟩, ⟨_, rfl, rfl, rfl, .mx ⟨.osn rfl, .t _, trivial⟩⟩, ow_nil _, trivial⟩, ⟨.op rfl, .op rfl, .op rfl, .t _, .t _, trivial⟩⟩ h_56 ?_
    rintro ⟨f57_, n5, next6, v7, v8, v9, v10⟩ h_59
    obtain ⟨f57, y58, rfl, hh1, kk1⟩ := loopM_some h_59
    replace hh1 : m_S_anyBuffer_b1 N n5 next6 v7 v8 v9 v10 = some y58 := hh1
    unfold m_S_anyBuffer_b1 at hh1
    refine PC.seq ?_
    refine PC.seq ?_
    refine PC.region ?_
    refine PL.op rfl (Rd.moveT rfl) ?_
    refine PL.op rfl (Rd.gtr rfl rfl) ?_
    refine PL.nil ?_
    refine thA_n ?_
    rcases cond_some hh1 with ⟨h_74, hh1⟩ | ⟨h_74, hh1⟩
    rotate_left
    · refine PC.cond_false rfl h_74 ?_
      refine PC.exit ?_
      refine thA_e ?_
      refine thA_e ?_
      refine inA_eq rfl ?_
      refine thA_n ?_
      obtain rfl := some_in hh1
      obtain rfl : ((v7, v8, v9, v10) : (List UInt8) × Int × Int × (List I_Frame)) = o55 := kk1
      exact ⟨(v7, v8, v9, v10), hh0, [some 0, some 1, some 2, some 3], ⟨rfl, rfl, ⟨⟨_, rfl, rfl, rfl, .mx ⟨.t _, .t _, trivial⟩⟩, ⟨_, rfl, rfl, rfl, .mx ⟨.t _, .t _, trivial⟩⟩, ⟨_, rfl, rfl, rfl, .mx ⟨.os rfl, .t _, trivial⟩⟩, ⟨_, rfl, rfl, rfl, .tr _⟩, trivial⟩, ⟨.op rfl, .op rfl, .op rfl, trivial⟩⟩⟩
    refine PC.cond_true rfl h_74 ?_
    refine PC.skip ?_
    refine thA_n ?_
    refine PC.seq ?_
    refine PC.block ?_
    refine PC.seq ?_
    obtain ⟨n75, h_76, hh1⟩ := bind_some hh1
    obtain ⟨r77, h_78, hh1⟩ := bind_some hh1
    obtain ⟨n79, h_80, hh1⟩ := bind_some hh1
    refine PC.region ?_
    refine PL.op rfl (Rd.moveT rfl) ?_
    refine PL.op rfl (Rd.addM rfl rfl h_76) ?_
    refine PL.op rfl (Rd.moveP rfl) ?_
    refine PL.callM false [0] (w_S_reader_pick N (S_reader.mk v7 v8) (5 : Int) r77 h_78) rfl Try.call49 rfl ⟨.op rfl, .t _, trivial⟩ rfl ⟨⟨_, rfl, rfl, rfl, .mx ⟨.t _, .t _, trivial⟩⟩, trivial⟩ (fun h => by cases h) ?_
    refine PL.nm (iA r77.1) [some ⟨.mx [sL r77.2.b, iA r77.2.p], 68, 0⟩, some ⟨.mx [.t (.v (.slice none 0 0)), iA (0 : Int)], 28, 0⟩, some ⟨.mx [.os 3 0 v10.length, iA v9], 28, 0⟩, some ⟨.tr (eL v10), 59, 4⟩] rfl rfl ?_
    refine PL.op rfl (Rd.addM rfl rfl h_80) ?_
    refine PL.op rfl (Rd.asnT rfl) ?_
    refine PL.nil ?_
    refine thA_n ?_
    obtain ⟨r81, h_82, hh1⟩ := bind_some hh1
    obtain ⟨r83, h_84, hh1⟩ := bind_some hh1
    refine PC.cut hs (fun _ : Unit => [(0, .op 0 0), (2, .op 1 0), (3, .op 2 0), (4, iA n79), (5, iA next6), (6, .op 4 0), (7, bA r83.2)]) (fun _ => [⟨.mx [sL r81.2.b, iA r81.2.p], 68, 0⟩, ⟨.mx [.t (.v (.slice none 0 0)), iA (0 : Int)], 28, 0⟩, ⟨.mx [.os 3 0 v10.length, iA v9], 28, 0⟩, ⟨.tr (eL v10), 59, 4⟩, ⟨.mx [.os 5 0 r83.1.frames.length, iA r83.1.forced], 28, 0⟩, ⟨.tr (eL r83.1.frames), 59, 4⟩]) (fun _ => True) ?_ ?_
    · refine PC.any (id := 7) 11 (.seg [0, 1, 3] (.fork (.seg [2] (.fork (.seg [4, 5, 6, 7, 8, 9, 10] .done) (.seg [8, 4, 5, 6, 7, 9, 10] .done))) (.seg [8, 2, 4, 5, 6, 7, 9, 10] .done))) [0] rfl (by kernel_rfl) rfl ?_
      refine PT.seg ?_
      refine PR.op rfl (Rd.loadBox rfl rfl rfl) ?_
      refine PR.op rfl (Rd.moveP rfl) ?_
      refine PR.op rfl (Rd.moveT rfl) ?_
      refine PR.nil ?_
      refine PT.fork ?_ ?_
      rotate_left
      · refine PT.seg ?_
        refine PR.efX rfl rfl (Ef.alloc rfl rfl) ?_
        refine PR.nm (.op 4 0) [some ⟨.mx [sL r77.2.b, iA r77.2.p], 68, 0⟩, some ⟨.mx [.t (.v (.slice none 0 0)), iA (0 : Int)], 28, 0⟩, some ⟨.mx [.os 3 0 v10.length, iA v9], 28, 0⟩, some ⟨.tr (eL v10), 59, 4⟩, some ⟨.mx [.t (.v (.slice none 0 0)), iA (0 : Int)], 28, 0⟩] rfl rfl ?_
        refine PR.callM false [0] (w_S_reader_pick N r77.2 (4 : Int) r81 h_82) rfl Try.call49 rfl ⟨.op rfl, .t _, trivial⟩ rfl ⟨⟨_, rfl, rfl, rfl, .mx ⟨.t _, .t _, trivial⟩⟩, trivial⟩ (fun h => by cases h) rfl ?_
        refine PR.nm (iA r81.1) [some ⟨.mx [sL r81.2.b, iA r81.2.p], 68, 0⟩, some ⟨.mx [.t (.v (.slice none 0 0)), iA (0 : Int)], 28, 0⟩, some ⟨.mx [.os 3 0 v10.length, iA v9], 28, 0⟩, some ⟨.tr (eL v10), 59, 4⟩, some ⟨.mx [.t (.v (.slice none 0 0)), iA (0 : Int)], 28, 0⟩] rfl rfl ?_
        refine PR.callM true [] (w_S_TouchPage N (I_Buffer.mk v10 v9) r81.1 n79 r83 h_84) rfl Try.call24 rfl ⟨.aggL ⟨.own rfl (by first | decide | exact List.not_mem_nil) rfl rfl, .t _, trivial⟩, .t _, .t _, trivial⟩ rfl trivial (fun _ => ⟨⟨⟨trivial, trivial, trivial⟩, trivial, trivial⟩, (flat_cons flat_ow flat_nil)⟩) rfl ?_
        refine PR.nm (.tup [.agg [.os 5 0 r83.1.frames.length, iA r83.1.forced], bA r83.2]) [some ⟨.mx [sL r81.2.b, iA r81.2.p], 68, 0⟩, some ⟨.mx [.t (.v (.slice none 0 0)), iA (0 : Int)], 28, 0⟩, some ⟨.mx [.os 3 0 v10.length, iA v9], 28, 0⟩, some ⟨.tr (eL v10), 59, 4⟩, some ⟨.mx [.t (.v (.slice none 0 0)), iA (0 : Int)], 28, 0⟩, some ⟨.tr (eL r83.1.frames), 59, 4⟩] rfl rfl ?_
        refine PR.op rfl (Rd.moveU rfl) ?_
        refine PR.op rfl (Rd.extract rfl rfl) ?_
        refine PR.op rfl (Rd.extract rfl rfl) ?_
        refine PR.store rfl rfl rfl rfl rfl rfl rfl rfl ?_
        refine PR.nO [some ⟨.mx [sL r81.2.b, iA r81.2.p], 68, 0⟩, some ⟨.mx [.t (.v (.slice none 0 0)), iA (0 : Int)], 28, 0⟩, some ⟨.mx [.os 3 0 v10.length, iA v9], 28, 0⟩, some ⟨.tr (eL v10), 59, 4⟩, some ⟨.mx [.os 5 0 r83.1.frames.length, iA r83.1.forced], 28, 0⟩, some ⟨.tr (eL r83.1.frames), 59, 4⟩] rfl ?_
        refine PR.op rfl (Rd.asnT rfl) ?_
        refine PR.nil ?_
        refine PT.done ?_
        refine PL.nil ?_
        refine thA_n ?_
        exact ⟨(), trivial, [some 0, some 1, some 2, some 3, some 4, some 5], ⟨rfl, rfl, ⟨⟨_, rfl, rfl, rfl, .mx ⟨.t _, .t _, trivial⟩⟩, ⟨_, rfl, rfl, rfl, .mx ⟨.t _, .t _, trivial⟩⟩, ⟨_, rfl, rfl, rfl, .mx ⟨.os rfl, .t _, trivial⟩⟩, ⟨_, rfl, rfl, rfl, .tr _⟩, ⟨_, rfl, rfl, rfl, .mx ⟨.os rfl, .t _, trivial⟩⟩, ⟨_, rfl, rfl, rfl, .tr _⟩, trivial⟩, ⟨.op rfl, .op rfl, .op rfl, .t _, .t _, .op rfl, .t _, trivial⟩⟩⟩
      refine PT.seg ?_
      refine PR.callM false [0] (w_S_reader_pick N r77.2 (4 : Int) r81 h_82) rfl Try.call49 rfl ⟨.op rfl, .t _, trivial⟩ rfl ⟨⟨_, rfl, rfl, rfl, .mx ⟨.t _, .t _, trivial⟩⟩, trivial⟩ (fun h => by cases h) rfl ?_
      refine PR.nm (iA r81.1) [some ⟨.mx [sL r81.2.b, iA r81.2.p], 68, 0⟩, some ⟨.mx [.t (.v (.slice none 0 0)), iA (0 : Int)], 28, 0⟩, some ⟨.mx [.os 3 0 v10.length, iA v9], 28, 0⟩, some ⟨.tr (eL v10), 59, 4⟩] rfl rfl ?_
      refine PR.nil ?_
      refine PT.fork ?_ ?_
      · refine PT.seg ?_
        refine PR.callM true [] (w_S_TouchPage N (I_Buffer.mk v10 v9) r81.1 n79 r83 h_84) rfl Try.call24 rfl ⟨.aggL ⟨.own rfl (by first | decide | exact List.not_mem_nil) rfl rfl, .t _, trivial⟩, .t _, .t _, trivial⟩ rfl trivial (fun _ => ⟨⟨⟨trivial, trivial, trivial⟩, trivial, trivial⟩, (flat_cons flat_ow flat_nil)⟩) rfl ?_
        refine PR.nm (.tup [.agg [.os 4 0 r83.1.frames.length, iA r83.1.forced], bA r83.2]) [some ⟨.mx [sL r81.2.b, iA r81.2.p], 68, 0⟩, some ⟨.mx [.t (.v (.slice none 0 0)), iA (0 : Int)], 28, 0⟩, some ⟨.mx [.os 3 0 v10.length, iA v9], 28, 0⟩, some ⟨.tr (eL v10), 59, 4⟩, some ⟨.tr (eL r83.1.frames), 59, 4⟩] rfl rfl ?_
        refine PR.op rfl (Rd.moveU rfl) ?_
        refine PR.op rfl (Rd.extract rfl rfl) ?_
        refine PR.op rfl (Rd.extract rfl rfl) ?_
        refine PR.efX rfl rfl (Ef.alloc rfl rfl) ?_
        refine PR.nm (.op 5 0) [some ⟨.mx [sL r81.2.b, iA r81.2.p], 68, 0⟩, some ⟨.mx [.t (.v (.slice none 0 0)), iA (0 : Int)], 28, 0⟩, some ⟨.mx [.os 3 0 v10.length, iA v9], 28, 0⟩, some ⟨.tr (eL v10), 59, 4⟩, some ⟨.tr (eL r83.1.frames), 59, 4⟩, some ⟨.mx [.t (.v (.slice none 0 0)), iA (0 : Int)], 28, 0⟩] rfl rfl ?_
        refine PR.store rfl rfl rfl rfl rfl rfl rfl rfl ?_
        refine PR.nO [some ⟨.mx [sL r81.2.b, iA r81.2.p], 68, 0⟩, some ⟨.mx [.t (.v (.slice none 0 0)), iA (0 : Int)], 28, 0⟩, some ⟨.mx [.os 3 0 v10.length, iA v9], 28, 0⟩, some ⟨.tr (eL v10), 59, 4⟩, some ⟨.tr (eL r83.1.frames), 59, 4⟩, some ⟨.mx [.os 4 0 r83.1.frames.length, iA r83.1.forced], 28, 0⟩] rfl ?_
        refine PR.op rfl (Rd.asnT rfl) ?_
        refine PR.nil ?_
        refine PT.done ?_
        refine PL.nil ?_
        refine thA_n ?_
        exact ⟨(), trivial, [some 0, some 1, some 2, some 3, some 5, some 4], ⟨rfl, rfl, ⟨⟨_, rfl, rfl, rfl, .mx ⟨.t _, .t _, trivial⟩⟩, ⟨_, rfl, rfl, rfl, .mx ⟨.t _, .t _, trivial⟩⟩, ⟨_, rfl, rfl, rfl, .mx ⟨.os rfl, .t _, trivial⟩⟩, ⟨_, rfl, rfl, rfl, .tr _⟩, ⟨_, rfl, rfl, rfl, .mx ⟨.os rfl, .t _, trivial⟩⟩, ⟨_, rfl, rfl, rfl, .tr _⟩, trivial⟩, ⟨.op rfl, .op rfl, .op rfl, .t _, .t _, .op rfl, .t _, trivial⟩⟩⟩
      refine PT.seg ?_
      refine PR.efX rfl rfl (Ef.alloc rfl rfl) ?_
      refine PR.nm (.op 4 0) [some ⟨.mx [sL r81.2.b, iA r81.2.p], 68, 0⟩, some ⟨.mx [.t (.v (.slice none 0 0)), iA (0 : Int)], 28, 0⟩, some ⟨.mx [.os 3 0 v10.length, iA v9], 28, 0⟩, some ⟨.tr (eL v10), 59, 4⟩, some ⟨.mx [.t (.v (.slice none 0 0)), iA (0 : Int)], 28, 0⟩] rfl rfl ?_
      refine PR.callM true [] (w_S_TouchPage N (I_Buffer.mk v10 v9) r81.1 n79 r83 h_84) rfl Try.call24 rfl ⟨.aggL ⟨.own rfl (by first | decide | exact List.not_mem_nil) rfl rfl, .t _, trivial⟩, .t _, .t _, trivial⟩ rfl trivial (fun _ => ⟨⟨⟨trivial, trivial, trivial⟩, trivial, trivial⟩, (flat_cons flat_ow flat_nil)⟩) rfl ?_
      refine PR.nm (.tup [.agg [.os 5 0 r83.1.frames.length, iA r83.1.forced], bA r83.2]) [some ⟨.mx [sL r81.2.b, iA r81.2.p], 68, 0⟩, some ⟨.mx [.t (.v (.slice none 0 0)), iA (0 : Int)], 28, 0⟩, some ⟨.mx [.os 3 0 v10.length, iA v9], 28, 0⟩, some ⟨.tr (eL v10), 59, 4⟩, some ⟨.mx [.t (.v (.slice none 0 0)), iA (0 : Int)], 28, 0⟩, some ⟨.tr (eL r83.1.frames), 59, 4⟩] rfl rfl ?_
      refine PR.op rfl (Rd.moveU rfl) ?_
      refine PR.op rfl (Rd.extract rfl rfl) ?_
      refine PR.op rfl (Rd.extract rfl rfl) ?_
      refine PR.store rfl rfl rfl rfl rfl rfl rfl rfl ?_
      refine PR.nO [some ⟨.mx [sL r81.2.b, iA r81.2.p], 68, 0⟩, some ⟨.mx [.t (.v (.slice none 0 0)), iA (0 : Int)], 28, 0⟩, some ⟨.mx [.os 3 0 v10.length, iA v9], 28, 0⟩, some ⟨.tr (eL v10), 59, 4⟩, some ⟨.mx [.os 5 0 r83.1.frames.length, iA r83.1.forced], 28, 0⟩, some ⟨.tr (eL r83.1.frames), 59, 4⟩] rfl ?_
      refine PR.op rfl (Rd.asnT rfl) ?_
      refine PR.nil ?_
      refine PT.done ?_
      refine PL.nil ?_
      refine thA_n ?_
      exact ⟨(), trivial, [some 0, some 1, some 2, some 3, some 4, some 5], ⟨rfl, rfl, ⟨⟨_, rfl, rfl, rfl, .mx ⟨.t _, .t _, trivial⟩⟩, ⟨_, rfl, rfl, rfl, .mx ⟨.t _, .t _, trivial⟩⟩, ⟨_, rfl, rfl, rfl, .mx ⟨.os rfl, .t _, trivial⟩⟩, ⟨_, rfl, rfl, rfl, .tr _⟩, ⟨_, rfl, rfl, rfl, .mx ⟨.os rfl, .t _, trivial⟩⟩, ⟨_, rfl, rfl, rfl, .tr _⟩, trivial⟩, ⟨.op rfl, .op rfl, .op rfl, .t _, .t _, .op rfl, .t _, trivial⟩⟩⟩
    rintro ⟨⟩ -
    refine PC.seq ?_
    refine PC.seq ?_
    refine PC.region ?_
    refine PL.op rfl (Rd.moveT rfl) ?_
    refine PL.nil ?_
    refine thA_n ?_
    rcases cond_some hh1 with ⟨h_85, hh1⟩ | ⟨h_85, hh1⟩
    rotate_left
    · refine PC.cond_false rfl h_85 ?_
      refine PC.skip ?_
      refine thA_n ?_
      obtain ⟨r100, h_101, hh1⟩ := bind_some hh1
      obtain ⟨r102, h_103, hh1⟩ := bind_some hh1
      refine PC.cut hs (fun _ : Unit => [(0, .op 0 0), (2, .op 1 0), (3, .op 2 0), (4, iA n79), (5, iA next6), (8, .op 4 0), (9, bA r102.2)]) (fun _ => [⟨.mx [sL r100.2.b, iA r100.2.p], 68, 0⟩, ⟨.mx [.t (.v (.slice none 0 0)), iA (0 : Int)], 28, 0⟩, ⟨.mx [.os 3 0 v10.length, iA v9], 28, 0⟩, ⟨.tr (eL v10), 59, 4⟩, ⟨.mx [.os 5 0 r102.1.frames.length, iA r102.1.forced], 28, 0⟩, ⟨.tr (eL r102.1.frames), 59, 4⟩]) (fun _ => True) ?_ ?_
      · refine PC.any (id := 10) 10 (.seg [0, 1] (.fork (.seg [2] (.fork (.seg [3, 4, 5, 6, 7, 8, 9] .done) (.seg [7, 3, 4, 5, 6, 8, 9] .done))) (.seg [7, 2, 3, 4, 5, 6, 8, 9] .done))) [0] rfl (by kernel_rfl) rfl ?_
        refine PT.seg ?_
        refine PR.op rfl (Rd.loadBox rfl rfl rfl) ?_
        refine PR.op rfl (Rd.moveP rfl) ?_
        refine PR.nil ?_
        refine PT.fork ?_ ?_
        rotate_left
        · refine PT.seg ?_
          refine PR.efX rfl rfl (Ef.alloc rfl rfl) ?_
          refine PR.nm (.op 6 0) [some ⟨.mx [sL r81.2.b, iA r81.2.p], 68, 0⟩, some ⟨.mx [.t (.v (.slice none 0 0)), iA (0 : Int)], 28, 0⟩, some ⟨.mx [.os 3 0 v10.length, iA v9], 28, 0⟩, some ⟨.tr (eL v10), 59, 4⟩, some ⟨.mx [.os 5 0 r83.1.frames.length, iA r83.1.forced], 28, 0⟩, some ⟨.tr (eL r83.1.frames), 59, 4⟩, some ⟨.mx [.t (.v (.slice none 0 0)), iA (0 : Int)], 28, 0⟩] rfl rfl ?_
          refine PR.callM false [0] (w_S_reader_pick N r81.2 (4 : Int) r100 h_101) rfl Try.call49 rfl ⟨.op rfl, .t _, trivial⟩ rfl ⟨⟨_, rfl, rfl, rfl, .mx ⟨.t _, .t _, trivial⟩⟩, trivial⟩ (fun h => by cases h) rfl ?_
          refine PR.nm (iA r100.1) [some ⟨.mx [sL r100.2.b, iA r100.2.p], 68, 0⟩, some ⟨.mx [.t (.v (.slice none 0 0)), iA (0 : Int)], 28, 0⟩, some ⟨.mx [.os 3 0 v10.length, iA v9], 28, 0⟩, some ⟨.tr (eL v10), 59, 4⟩, some ⟨.mx [.os 5 0 r83.1.frames.length, iA r83.1.forced], 28, 0⟩, some ⟨.tr (eL r83.1.frames), 59, 4⟩, some ⟨.mx [.t (.v (.slice none 0 0)), iA (0 : Int)], 28, 0⟩] rfl rfl ?_
          refine PR.callM true [] (w_S_WritePage N (I_Buffer.mk v10 v9) r100.1 r102 h_103) rfl Try.call27 rfl ⟨.aggL ⟨.own rfl (by first | decide | exact List.not_mem_nil) rfl rfl, .t _, trivial⟩, .t _, trivial⟩ rfl trivial (fun _ => ⟨⟨⟨trivial, trivial, trivial⟩, trivial, trivial⟩, (flat_cons flat_ow flat_nil)⟩) rfl ?_
          refine PR.nm (.tup [.agg [.os 7 0 r102.1.frames.length, iA r102.1.forced], bA r102.2]) [some ⟨.mx [sL r100.2.b, iA r100.2.p], 68, 0⟩, some ⟨.mx [.t (.v (.slice none 0 0)), iA (0 : Int)], 28, 0⟩, some ⟨.mx [.os 3 0 v10.length, iA v9], 28, 0⟩, some ⟨.tr (eL v10), 59, 4⟩, some ⟨.mx [.os 5 0 r83.1.frames.length, iA r83.1.forced], 28, 0⟩, some ⟨.tr (eL r83.1.frames), 59, 4⟩, some ⟨.mx [.t (.v (.slice none 0 0)), iA (0 : Int)], 28, 0⟩, some ⟨.tr (eL r102.1.frames), 59, 4⟩] rfl rfl ?_
          refine PR.op rfl (Rd.moveU rfl) ?_
          refine PR.op rfl (Rd.extract rfl rfl) ?_
          refine PR.op rfl (Rd.extract rfl rfl) ?_
          refine PR.store rfl rfl rfl rfl rfl rfl rfl rfl ?_
          refine PR.nO [some ⟨.mx [sL r100.2.b, iA r100.2.p], 68, 0⟩, some ⟨.mx [.t (.v (.slice none 0 0)), iA (0 : Int)], 28, 0⟩, some ⟨.mx [.os 3 0 v10.length, iA v9], 28, 0⟩, some ⟨.tr (eL v10), 59, 4⟩, some ⟨.mx [.os 5 0 r83.1.frames.length, iA r83.1.forced], 28, 0⟩, some ⟨.tr (eL r83.1.frames), 59, 4⟩, some ⟨.mx [.os 7 0 r102.1.frames.length, iA r102.1.forced], 28, 0⟩, some ⟨.tr (eL r102.1.frames), 59, 4⟩] rfl ?_
          refine PR.op rfl (Rd.asnT rfl) ?_
          refine PR.nil ?_
          refine PT.done ?_
          refine PL.nil ?_
          refine thA_n ?_
          exact ⟨(), trivial, [some 0, some 1, some 2, some 3, some 6, some 7], ⟨rfl, rfl, ⟨⟨_, rfl, rfl, rfl, .mx ⟨.t _, .t _, trivial⟩⟩, ⟨_, rfl, rfl, rfl, .mx ⟨.t _, .t _, trivial⟩⟩, ⟨_, rfl, rfl, rfl, .mx ⟨.os rfl, .t _, trivial⟩⟩, ⟨_, rfl, rfl, rfl, .tr _⟩, ⟨_, rfl, rfl, rfl, .mx ⟨.os rfl, .t _, trivial⟩⟩, ⟨_, rfl, rfl, rfl, .tr _⟩, trivial⟩, ⟨.op rfl, .op rfl, .op rfl, .t _, .t _, .op rfl, .t _, trivial⟩⟩⟩
        refine PT.seg ?_
        refine PR.callM false [0] (w_S_reader_pick N r81.2 (4 : Int) r100 h_101) rfl Try.call49 rfl ⟨.op rfl, .t _, trivial⟩ rfl ⟨⟨_, rfl, rfl, rfl, .mx ⟨.t _, .t _, trivial⟩⟩, trivial⟩ (fun h => by cases h) rfl ?_
        refine PR.nm (iA r100.1) [some ⟨.mx [sL r100.2.b, iA r100.2.p], 68, 0⟩, some ⟨.mx [.t (.v (.slice none 0 0)), iA (0 : Int)], 28, 0⟩, some ⟨.mx [.os 3 0 v10.length, iA v9], 28, 0⟩, some ⟨.tr (eL v10), 59, 4⟩, some ⟨.mx [.os 5 0 r83.1.frames.length, iA r83.1.forced], 28, 0⟩, some ⟨.tr (eL r83.1.frames), 59, 4⟩] rfl rfl ?_
        refine PR.nil ?_
        refine PT.fork ?_ ?_
        · refine PT.seg ?_
          refine PR.callM true [] (w_S_WritePage N (I_Buffer.mk v10 v9) r100.1 r102 h_103) rfl Try.call27 rfl ⟨.aggL ⟨.own rfl (by first | decide | exact List.not_mem_nil) rfl rfl, .t _, trivial⟩, .t _, trivial⟩ rfl trivial (fun _ => ⟨⟨⟨trivial, trivial, trivial⟩, trivial, trivial⟩, (flat_cons flat_ow flat_nil)⟩) rfl ?_
          refine PR.nm (.tup [.agg [.os 6 0 r102.1.frames.length, iA r102.1.forced], bA r102.2]) [some ⟨.mx [sL r100.2.b, iA r100.2.p], 68, 0⟩, some ⟨.mx [.t (.v (.slice none 0 0)), iA (0 : Int)], 28, 0⟩, some ⟨.mx [.os 3 0 v10.length, iA v9], 28, 0⟩, some ⟨.tr (eL v10), 59, 4⟩, some ⟨.mx [.os 5 0 r83.1.frames.length, iA r83.1.forced], 28, 0⟩, some ⟨.tr (eL r83.1.frames), 59, 4⟩, some ⟨.tr (eL r102.1.frames), 59, 4⟩] rfl rfl ?_
          refine PR.op rfl (Rd.moveU rfl) ?_
          refine PR.op rfl (Rd.extract rfl rfl) ?_
          refine PR.op rfl (Rd.extract rfl rfl) ?_
          refine PR.efX rfl rfl (Ef.alloc rfl rfl) ?_
          refine PR.nm (.op 7 0) [some ⟨.mx [sL r100.2.b, iA r100.2.p], 68, 0⟩, some ⟨.mx [.t (.v (.slice none 0 0)), iA (0 : Int)], 28, 0⟩, some ⟨.mx [.os 3 0 v10.length, iA v9], 28, 0⟩, some ⟨.tr (eL v10), 59, 4⟩, some ⟨.mx [.os 5 0 r83.1.frames.length, iA r83.1.forced], 28, 0⟩, some ⟨.tr (eL r83.1.frames), 59, 4⟩, some ⟨.tr (eL r102.1.frames), 59, 4⟩, some ⟨.mx [.t (.v (.slice none 0 0)), iA (0 : Int)], 28, 0⟩] rfl rfl ?_
          refine PR.store rfl rfl rfl rfl rfl rfl rfl rfl ?_
          refine PR.nO [some ⟨.mx [sL r100.2.b, iA r100.2.p], 68, 0⟩, some ⟨.mx [.t (.v (.slice none 0 0)), iA (0 : Int)], 28, 0⟩, some ⟨.mx [.os 3 0 v10.length, iA v9], 28, 0⟩, some ⟨.tr (eL v10), 59, 4⟩, some ⟨.mx [.os 5 0 r83.1.frames.length, iA r83.1.forced], 28, 0⟩, some ⟨.tr (eL r83.1.frames), 59, 4⟩, some ⟨.tr (eL r102.1.frames), 59, 4⟩, some ⟨.mx [.os 6 0 r102.1.frames.length, iA r102.1.forced], 28, 0⟩] rfl ?_
          refine PR.op rfl (Rd.asnT rfl) ?_
          refine PR.nil ?_
          refine PT.done ?_
          refine PL.nil ?_
          refine thA_n ?_
          exact ⟨(), trivial, [some 0, some 1, some 2, some 3, some 7, some 6], ⟨rfl, rfl, ⟨⟨_, rfl, rfl, rfl, .mx ⟨.t _, .t _, trivial⟩⟩, ⟨_, rfl, rfl, rfl, .mx ⟨.t _, .t _, trivial⟩⟩, ⟨_, rfl, rfl, rfl, .mx ⟨.os rfl, .t _, trivial⟩⟩, ⟨_, rfl, rfl, rfl, .tr _⟩, ⟨_, rfl, rfl, rfl, .mx ⟨.os rfl, .t _, trivial⟩⟩, ⟨_, rfl, rfl, rfl, .tr _⟩, trivial⟩, ⟨.op rfl, .op rfl, .op rfl, .t _, .t _, .op rfl, .t _, trivial⟩⟩⟩
        refine PT.seg ?_
        refine PR.efX rfl rfl (Ef.alloc rfl rfl) ?_
        refine PR.nm (.op 6 0) [some ⟨.mx [sL r100.2.b, iA r100.2.p], 68, 0⟩, some ⟨.mx [.t (.v (.slice none 0 0)), iA (0 : Int)], 28, 0⟩, some ⟨.mx [.os 3 0 v10.length, iA v9], 28, 0⟩, some ⟨.tr (eL v10), 59, 4⟩, some ⟨.mx [.os 5 0 r83.1.frames.length, iA r83.1.forced], 28, 0⟩, some ⟨.tr (eL r83.1.frames), 59, 4⟩, some ⟨.mx [.t (.v (.slice none 0 0)), iA (0 : Int)], 28, 0⟩] rfl rfl ?_
        refine PR.callM true [] (w_S_WritePage N (I_Buffer.mk v10 v9) r100.1 r102 h_103) rfl Try.call27 rfl ⟨.aggL ⟨.own rfl (by first | decide | exact List.not_mem_nil) rfl rfl, .t _, trivial⟩, .t _, trivial⟩ rfl trivial (fun _ => ⟨⟨⟨trivial, trivial, trivial⟩, trivial, trivial⟩, (flat_cons flat_ow flat_nil)⟩) rfl ?_
        refine PR.nm (.tup [.agg [.os 7 0 r102.1.frames.length, iA r102.1.forced], bA r102.2]) [some ⟨.mx [sL r100.2.b, iA r100.2.p], 68, 0⟩, some ⟨.mx [.t (.v (.slice none 0 0)), iA (0 : Int)], 28, 0⟩, some ⟨.mx [.os 3 0 v10.length, iA v9], 28, 0⟩, some ⟨.tr (eL v10), 59, 4⟩, some ⟨.mx [.os 5 0 r83.1.frames.length, iA r83.1.forced], 28, 0⟩, some ⟨.tr (eL r83.1.frames), 59, 4⟩, some ⟨.mx [.t (.v (.slice none 0 0)), iA (0 : Int)], 28, 0⟩, some ⟨.tr (eL r102.1.frames), 59, 4⟩] rfl rfl ?_
        refine PR.op rfl (Rd.moveU rfl) ?_
        refine PR.op rfl (Rd.extract rfl rfl) ?_
        refine PR.op rfl (Rd.extract rfl rfl) ?_
        refine PR.store rfl rfl rfl rfl rfl rfl rfl rfl ?_
        refine PR.nO [some ⟨.mx [sL r100.2.b, iA r100.2.p], 68, 0⟩, some ⟨.mx [.t (.v (.slice none 0 0)), iA (0 : Int)], 28, 0⟩, some ⟨.mx [.os 3 0 v10.length, iA v9], 28, 0⟩, some ⟨.tr (eL v10), 59, 4⟩, some ⟨.mx [.os 5 0 r83.1.frames.length, iA r83.1.forced], 28, 0⟩, some ⟨.tr (eL r83.1.frames), 59, 4⟩, some ⟨.mx [.os 7 0 r102.1.frames.length, iA r102.1.forced], 28, 0⟩, some ⟨.tr (eL r102.1.frames), 59, 4⟩] rfl ?_
        refine PR.op rfl (Rd.asnT rfl) ?_
        refine PR.nil ?_
        refine PT.done ?_
        refine PL.nil ?_
        refine thA_n ?_
        exact ⟨(), trivial, [some 0, some 1, some 2, some 3, some 6, some 7], ⟨rfl, rfl, ⟨⟨_, rfl, rfl, rfl, .mx ⟨.t _, .t _, trivial⟩⟩, ⟨_, rfl, rfl, rfl, .mx ⟨.t _, .t _, trivial⟩⟩, ⟨_, rfl, rfl, rfl, .mx ⟨.os rfl, .t _, trivial⟩⟩, ⟨_, rfl, rfl, rfl, .tr _⟩, ⟨_, rfl, rfl, rfl, .mx ⟨.os rfl, .t _, trivial⟩⟩, ⟨_, rfl, rfl, rfl, .tr _⟩, trivial⟩, ⟨.op rfl, .op rfl, .op rfl, .t _, .t _, .op rfl, .t _, trivial⟩⟩⟩
      rintro ⟨⟩ -
      refine PC.seq ?_
      rcases cond_some hh1 with ⟨h_104, hh1⟩ | ⟨h_104, hh1⟩
      rotate_left
      · refine PC.region ?_
        refine PL.op rfl (Rd.moveT rfl) ?_
        refine PL.op rfl (Rd.moveT rfl) ?_
        refine PL.guard_off rfl rfl h_104 ?_
        refine PL.guard_off rfl rfl h_104 ?_
        refine PL.guard_off rfl rfl h_104 ?_
        refine PL.op rfl (Rd.pick_f rfl h_104) ?_
        refine PL.nil ?_
        refine thA_n ?_
        refine PC.cond_false rfl rfl ?_
        refine PC.skip ?_
        refine inA_n ?_
        refine thA_n ?_
        obtain ⟨n112, h_113, hh1⟩ := bind_some hh1
        refine PC.region ?_
        refine PL.op rfl (Rd.moveT rfl) ?_
        refine PL.op rfl (Rd.subM rfl rfl h_113) ?_
        refine PL.op rfl (Rd.asnT rfl) ?_
        refine PL.nil ?_
        obtain rfl := some_in hh1
        refine thA_n ?_
        exact ⟨(f57, (n79, n112, r100.2.b, r100.2.p, v9, v10)), Nat.lt_succ_self _, kk1, [some 0, some 1, some 2, some 3], ⟨rfl, rfl, ⟨⟨_, rfl, rfl, rfl, .mx ⟨.t _, .t _, trivial⟩⟩, ⟨_, rfl, rfl, rfl, .mx ⟨.t _, .t _, trivial⟩⟩, ⟨_, rfl, rfl, rfl, .mx ⟨.os rfl, .t _, trivial⟩⟩, ⟨_, rfl, rfl, rfl, .tr _⟩, trivial⟩, ⟨.op rfl, .op rfl, .op rfl, .t _, .t _, trivial⟩⟩⟩
      obtain ⟨r105, h_106, hh1⟩ := bind_some hh1
      refine PC.region ?_
      refine PL.op rfl (Rd.moveT rfl) ?_
      refine PL.op rfl (Rd.moveT rfl) ?_
      refine PL.guard_on rfl h_104 ?_
      refine PL.op rfl (Rd.moveP rfl) ?_
      refine PL.guard_on rfl h_104 ?_
      refine PL.callM false [0] (w_S_reader_pick N r100.2 (2 : Int) r105 h_106) rfl Try.call49 rfl ⟨.op rfl, .t _, trivial⟩ rfl ⟨⟨_, rfl, rfl, rfl, .mx ⟨.t _, .t _, trivial⟩⟩, trivial⟩ (fun h => by cases h) ?_
      refine PL.nm (iA r105.1) [some ⟨.mx [sL r105.2.b, iA r105.2.p], 68, 0⟩, some ⟨.mx [.t (.v (.slice none 0 0)), iA (0 : Int)], 28, 0⟩, some ⟨.mx [.os 3 0 v10.length, iA v9], 28, 0⟩, some ⟨.tr (eL v10), 59, 4⟩, some ⟨.mx [.os 5 0 r102.1.frames.length, iA r102.1.forced], 28, 0⟩, some ⟨.tr (eL r102.1.frames), 59, 4⟩] rfl rfl ?_
      refine PL.guard_on rfl h_104 ?_
      refine PL.op rfl (Rd.eql rfl rfl) ?_
      refine PL.op rfl (Rd.pick_t rfl h_104) ?_
      refine PL.nil ?_
      refine thA_n ?_
      rcases cond_some hh1 with ⟨h_107, hh1⟩ | ⟨h_107, hh1⟩
      rotate_left
      · refine PC.cond_false rfl h_107 ?_
        refine PC.skip ?_
        refine inA_n ?_
        refine thA_n ?_
        obtain ⟨n110, h_111, hh1⟩ := bind_some hh1
        refine PC.region ?_
        refine PL.op rfl (Rd.moveT rfl) ?_
        refine PL.op rfl (Rd.subM rfl rfl h_111) ?_
        refine PL.op rfl (Rd.asnT rfl) ?_
        refine PL.nil ?_
        obtain rfl := some_in hh1
        refine thA_n ?_
        exact ⟨(f57, (n79, n110, r105.2.b, r105.2.p, v9, v10)), Nat.lt_succ_self _, kk1, [some 0, some 1, some 2, some 3], ⟨rfl, rfl, ⟨⟨_, rfl, rfl, rfl, .mx ⟨.t _, .t _, trivial⟩⟩, ⟨_, rfl, rfl, rfl, .mx ⟨.t _, .t _, trivial⟩⟩, ⟨_, rfl, rfl, rfl, .mx ⟨.os rfl, .t _, trivial⟩⟩, ⟨_, rfl, rfl, rfl, .tr _⟩, trivial⟩, ⟨.op rfl, .op rfl, .op rfl, .t _, .t _, trivial⟩⟩⟩
      refine PC.cond_true rfl h_107 ?_
      refine PC.region ?_
      refine PL.op rfl (Rd.loadBox rfl rfl rfl) ?_
      refine PL.store rfl rfl rfl rfl rfl rfl rfl ?_
      refine PL.nO [some ⟨.mx [sL r105.2.b, iA r105.2.p], 68, 0⟩, some ⟨.mx [.t (.v (.slice none 0 0)), iA (0 : Int)], 28, 0⟩, some ⟨.mx [.os 5 0 r102.1.frames.length, iA r102.1.forced], 28, 0⟩, some ⟨.tr (eL v10), 59, 4⟩, some ⟨.mx [.os 5 0 r102.1.frames.length, iA r102.1.forced], 28, 0⟩, some ⟨.tr (eL r102.1.frames), 59, 4⟩] rfl ?_
      refine PL.nil ?_
      refine inA_n ?_
      refine thA_n ?_
      obtain ⟨n108, h_109, hh1⟩ := bind_some hh1
      refine PC.region ?_
      refine PL.op rfl (Rd.moveT rfl) ?_
      refine PL.op rfl (Rd.subM rfl rfl h_109) ?_
      refine PL.op rfl (Rd.asnT rfl) ?_
      refine PL.nil ?_
      obtain rfl := some_in hh1
      refine thA_n ?_
      exact ⟨(f57, (n79, n108, r105.2.b, r105.2.p, r102.1.forced, r102.1.frames)), Nat.lt_succ_self _, kk1, [some 0, some 1, some 2, some 5], ⟨rfl, rfl, ⟨⟨_, rfl, rfl, rfl, .mx ⟨.t _, .t _, trivial⟩⟩, ⟨_, rfl, rfl, rfl, .mx ⟨.t _, .t _, trivial⟩⟩, ⟨_, rfl, rfl, rfl, .mx ⟨.os rfl, .t _, trivial⟩⟩, ⟨_, rfl, rfl, rfl, .tr _⟩, trivial⟩, ⟨.op rfl, .op rfl, .op rfl, .t _, .t _, trivial⟩⟩⟩
    refine PC.cond_true rfl h_85 ?_
    refine PC.region ?_
    refine PL.op rfl (Rd.loadBox rfl rfl rfl) ?_
    refine PL.store rfl rfl rfl rfl rfl rfl rfl ?_
    refine PL.nO [some ⟨.mx [sL r81.2.b, iA r81.2.p], 68, 0⟩, some ⟨.mx [.t (.v (.slice none 0 0)), iA (0 : Int)], 28, 0⟩, some ⟨.mx [.os 5 0 r83.1.frames.length, iA r83.1.forced], 28, 0⟩, some ⟨.tr (eL v10), 59, 4⟩, some ⟨.mx [.os 5 0 r83.1.frames.length, iA r83.1.forced], 28, 0⟩, some ⟨.tr (eL r83.1.frames), 59, 4⟩] rfl ?_
    refine PL.nil ?_
    refine thA_n ?_
    obtain ⟨r86, h_87, hh1⟩ := bind_some hh1
    obtain ⟨r88, h_89, hh1⟩ := bind_some hh1
    refine PC.cut hs (fun _ : Unit => [(0, .op 0 0), (2, .op 1 0), (3, .op 2 0), (4, iA n79), (5, iA next6), (8, .op 4 0), (9, bA r88.2)]) (fun _ => [⟨.mx [sL r86.2.b, iA r86.2.p], 68, 0⟩, ⟨.mx [.t (.v (.slice none 0 0)), iA (0 : Int)], 28, 0⟩, ⟨.mx [.os 3 0 r83.1.frames.length, iA r83.1.forced], 28, 0⟩, ⟨.tr (eL r83.1.frames), 59, 4⟩, ⟨.mx [.os 5 0 r88.1.frames.length, iA r88.1.forced], 28, 0⟩, ⟨.tr (eL r88.1.frames), 59, 4⟩]) (fun _ => True) ?_ ?_
    · refine PC.any (id := 10) 10 (.seg [0, 1] (.fork (.seg [2] (.fork (.seg [3, 4, 5, 6, 7, 8, 9] .done) (.seg [7, 3, 4, 5, 6, 8, 9] .done))) (.seg [7, 2, 3, 4, 5, 6, 8, 9] .done))) [0] rfl (by kernel_rfl) rfl ?_
      refine PT.seg ?_
      refine PR.op rfl (Rd.loadBox rfl rfl rfl) ?_
      refine PR.op rfl (Rd.moveP rfl) ?_
      refine PR.nil ?_
      refine PT.fork ?_ ?_
      rotate_left
      · refine PT.seg ?_
        refine PR.efX rfl rfl (Ef.alloc rfl rfl) ?_
        refine PR.nm (.op 6 0) [some ⟨.mx [sL r81.2.b, iA r81.2.p], 68, 0⟩, some ⟨.mx [.t (.v (.slice none 0 0)), iA (0 : Int)], 28, 0⟩, some ⟨.mx [.os 5 0 r83.1.frames.length, iA r83.1.forced], 28, 0⟩, some ⟨.tr (eL v10), 59, 4⟩, some ⟨.mx [.os 5 0 r83.1.frames.length, iA r83.1.forced], 28, 0⟩, some ⟨.tr (eL r83.1.frames), 59, 4⟩, some ⟨.mx [.t (.v (.slice none 0 0)), iA (0 : Int)], 28, 0⟩] rfl rfl ?_
        refine PR.callM false [0] (w_S_reader_pick N r81.2 (4 : Int) r86 h_87) rfl Try.call49 rfl ⟨.op rfl, .t _, trivial⟩ rfl ⟨⟨_, rfl, rfl, rfl, .mx ⟨.t _, .t _, trivial⟩⟩, trivial⟩ (fun h => by cases h) rfl ?_
        refine PR.nm (iA r86.1) [some ⟨.mx [sL r86.2.b, iA r86.2.p], 68, 0⟩, some ⟨.mx [.t (.v (.slice none 0 0)), iA (0 : Int)], 28, 0⟩, some ⟨.mx [.os 5 0 r83.1.frames.length, iA r83.1.forced], 28, 0⟩, some ⟨.tr (eL v10), 59, 4⟩, some ⟨.mx [.os 5 0 r83.1.frames.length, iA r83.1.forced], 28, 0⟩, some ⟨.tr (eL r83.1.frames), 59, 4⟩, some ⟨.mx [.t (.v (.slice none 0 0)), iA (0 : Int)], 28, 0⟩] rfl rfl ?_
        refine PR.callM true [] (w_S_WritePage N r83.1 r86.1 r88 h_89) rfl Try.call27 rfl ⟨.aggL ⟨.own rfl (by first | decide | exact List.not_mem_nil) rfl rfl, .t _, trivial⟩, .t _, trivial⟩ rfl trivial (fun _ => ⟨⟨⟨trivial, trivial, trivial⟩, trivial, trivial⟩, (flat_cons flat_ow flat_nil)⟩) rfl ?_
        refine PR.nm (.tup [.agg [.os 7 0 r88.1.frames.length, iA r88.1.forced], bA r88.2]) [some ⟨.mx [sL r86.2.b, iA r86.2.p], 68, 0⟩, some ⟨.mx [.t (.v (.slice none 0 0)), iA (0 : Int)], 28, 0⟩, some ⟨.mx [.os 5 0 r83.1.frames.length, iA r83.1.forced], 28, 0⟩, some ⟨.tr (eL v10), 59, 4⟩, some ⟨.mx [.os 5 0 r83.1.frames.length, iA r83.1.forced], 28, 0⟩, some ⟨.tr (eL r83.1.frames), 59, 4⟩, some ⟨.mx [.t (.v (.slice none 0 0)), iA (0 : Int)], 28, 0⟩, some ⟨.tr (eL r88.1.frames), 59, 4⟩] rfl rfl ?_
        refine PR.op rfl (Rd.moveU rfl) ?_
        refine PR.op rfl (Rd.extract rfl rfl) ?_
        refine PR.op rfl (Rd.extract rfl rfl) ?_
        refine PR.store rfl rfl rfl rfl rfl rfl rfl rfl ?_
        refine PR.nO [some ⟨.mx [sL r86.2.b, iA r86.2.p], 68, 0⟩, some ⟨.mx [.t (.v (.slice none 0 0)), iA (0 : Int)], 28, 0⟩, some ⟨.mx [.os 5 0 r83.1.frames.length, iA r83.1.forced], 28, 0⟩, some ⟨.tr (eL v10), 59, 4⟩, some ⟨.mx [.os 5 0 r83.1.frames.length, iA r83.1.forced], 28, 0⟩, some ⟨.tr (eL r83.1.frames), 59, 4⟩, some ⟨.mx [.os 7 0 r88.1.frames.length, iA r88.1.forced], 28, 0⟩, some ⟨.tr (eL r88.1.frames), 59, 4⟩] rfl ?_
        refine PR.op rfl (Rd.asnT rfl) ?_
        refine PR.nil ?_
        refine PT.done ?_
        refine PL.nil ?_
        refine thA_n ?_
        exact ⟨(), trivial, [some 0, some 1, some 2, some 5, some 6, some 7], ⟨rfl, rfl, ⟨⟨_, rfl, rfl, rfl, .mx ⟨.t _, .t _, trivial⟩⟩, ⟨_, rfl, rfl, rfl, .mx ⟨.t _, .t _, trivial⟩⟩, ⟨_, rfl, rfl, rfl, .mx ⟨.os rfl, .t _, trivial⟩⟩, ⟨_, rfl, rfl, rfl, .tr _⟩, ⟨_, rfl, rfl, rfl, .mx ⟨.os rfl, .t _, trivial⟩⟩, ⟨_, rfl, rfl, rfl, .tr _⟩, trivial⟩, ⟨.op rfl, .op rfl, .op rfl, .t _, .t _, .op rfl, .t _, trivial⟩⟩⟩
      refine PT.seg ?_
      refine PR.callM false [0] (w_S_reader_pick N r81.2 (4 : Int) r86 h_87) rfl Try.call49 rfl ⟨.op rfl, .t _, trivial⟩ rfl ⟨⟨_, rfl, rfl, rfl, .mx ⟨.t _, .t _, trivial⟩⟩, trivial⟩ (fun h => by cases h) rfl ?_
      refine PR.nm (iA r86.1) [some ⟨.mx [sL r86.2.b, iA r86.2.p], 68, 0⟩, some ⟨.mx [.t (.v (.slice none 0 0)), iA (0 : Int)], 28, 0⟩, some ⟨.mx [.os 5 0 r83.1.frames.length, iA r83.1.forced], 28, 0⟩, some ⟨.tr (eL v10), 59, 4⟩, some ⟨.mx [.os 5 0 r83.1.frames.length, iA r83.1.forced], 28, 0⟩, some ⟨.tr (eL r83.1.frames), 59, 4⟩] rfl rfl ?_
      refine PR.nil ?_
      refine PT.fork ?_ ?_
      · refine PT.seg ?_
        refine PR.callM true [] (w_S_WritePage N r83.1 r86.1 r88 h_89) rfl Try.call27 rfl ⟨.aggL ⟨.own rfl (by first | decide | exact List.not_mem_nil) rfl rfl, .t _, trivial⟩, .t _, trivial⟩ rfl trivial (fun _ => ⟨⟨⟨trivial, trivial, trivial⟩, trivial, trivial⟩, (flat_cons flat_ow flat_nil)⟩) rfl ?_
        refine PR.nm (.tup [.agg [.os 6 0 r88.1.frames.length, iA r88.1.forced], bA r88.2]) [some ⟨.mx [sL r86.2.b, iA r86.2.p], 68, 0⟩, some ⟨.mx [.t (.v (.slice none 0 0)), iA (0 : Int)], 28, 0⟩, some ⟨.mx [.os 5 0 r83.1.frames.length, iA r83.1.forced], 28, 0⟩, some ⟨.tr (eL v10), 59, 4⟩, some ⟨.mx [.os 5 0 r83.1.frames.length, iA r83.1.forced], 28, 0⟩, some ⟨.tr (eL r83.1.frames), 59, 4⟩, some ⟨.tr (eL r88.1.frames), 59, 4⟩] rfl rfl ?_
        refine PR.op rfl (Rd.moveU rfl) ?_
        refine PR.op rfl (Rd.extract rfl rfl) ?_
        refine PR.op rfl (Rd.extract rfl rfl) ?_
        refine PR.efX rfl rfl (Ef.alloc rfl rfl) ?_
        refine PR.nm (.op 7 0) [some ⟨.mx [sL r86.2.b, iA r86.2.p], 68, 0⟩, some ⟨.mx [.t (.v (.slice none 0 0)), iA (0 : Int)], 28, 0⟩, some ⟨.mx [.os 5 0 r83.1.frames.length, iA r83.1.forced], 28, 0⟩, some ⟨.tr (eL v10), 59, 4⟩, some ⟨.mx [.os 5 0 r83.1.frames.length, iA r83.1.forced], 28, 0⟩, some ⟨.tr (eL r83.1.frames), 59, 4⟩, some ⟨.tr (eL r88.1.frames), 59, 4⟩, some ⟨.mx [.t (.v (.slice none 0 0)), iA (0 : Int)], 28, 0⟩] rfl rfl ?_
        refine PR.store rfl rfl rfl rfl rfl rfl rfl rfl ?_
        refine PR.nO [some ⟨.mx [sL r86.2.b, iA r86.2.p], 68, 0⟩, some ⟨.mx [.t (.v (.slice none 0 0)), iA (0 : Int)], 28, 0⟩, some ⟨.mx [.os 5 0 r83.1.frames.length, iA r83.1.forced], 28, 0⟩, some ⟨.tr (eL v10), 59, 4⟩, some ⟨.mx [.os 5 0 r83.1.frames.length, iA r83.1.forced], 28, 0⟩, some ⟨.tr (eL r83.1.frames), 59, 4⟩, some ⟨.tr (eL r88.1.frames), 59, 4⟩, some ⟨.mx [.os 6 0 r88.1.frames.length, iA r88.1.forced], 28, 0⟩] rfl ?_
        refine PR.op rfl (Rd.asnT rfl) ?_
        refine PR.nil ?_
        refine PT.done ?_
        refine PL.nil ?_
        refine thA_n ?_
        exact ⟨(), trivial, [some 0, some 1, some 2, some 5, some 7, some 6], ⟨rfl, rfl, ⟨⟨_, rfl, rfl, rfl, .mx ⟨.t _, .t _, trivial⟩⟩, ⟨_, rfl, rfl, rfl, .mx ⟨.t _, .t _, trivial⟩⟩, ⟨_, rfl, rfl, rfl, .mx ⟨.os rfl, .t _, trivial⟩⟩, ⟨_, rfl, rfl, rfl, .tr _⟩, ⟨_, rfl, rfl, rfl, .mx ⟨.os rfl, .t _, trivial⟩⟩, ⟨_, rfl, rfl, rfl, .tr _⟩, trivial⟩, ⟨.op rfl, .op rfl, .op rfl, .t _, .t _, .op rfl, .t _, trivial⟩⟩⟩
      refine PT.seg ?_
      refine PR.efX rfl rfl (Ef.alloc rfl rfl) ?_
      refine PR.nm (.op 6 0) [some ⟨.mx [sL r86.2.b, iA r86.2.p], 68, 0⟩, some ⟨.mx [.t (.v (.slice none 0 0)), iA (0 : Int)], 28, 0⟩, some ⟨.mx [.os 5 0 r83.1.frames.length, iA r83.1.forced], 28, 0⟩, some ⟨.tr (eL v10), 59, 4⟩, some ⟨.mx [.os 5 0 r83.1.frames.length, iA r83.1.forced], 28, 0⟩, some ⟨.tr (eL r83.1.frames), 59, 4⟩, some ⟨.mx [.t (.v (.slice none 0 0)), iA (0 : Int)], 28, 0⟩] rfl rfl ?_
      refine PR.callM true [] (w_S_WritePage N r83.1 r86.1 r88 h_89) rfl Try.call27 rfl ⟨.aggL ⟨.own rfl (by first | decide | exact List.not_mem_nil) rfl rfl, .t _, trivial⟩, .t _, trivial⟩ rfl trivial (fun _ => ⟨⟨⟨trivial, trivial, trivial⟩, trivial, trivial⟩, (flat_cons flat_ow flat_nil)⟩) rfl ?_
      refine PR.nm (.tup [.agg [.os 7 0 r88.1.frames.length, iA r88.1.forced], bA r88.2]) [some ⟨.mx [sL r86.2.b, iA r86.2.p], 68, 0⟩, some ⟨.mx [.t (.v (.slice none 0 0)), iA (0 : Int)], 28, 0⟩, some ⟨.mx [.os 5 0 r83.1.frames.length, iA r83.1.forced], 28, 0⟩, some ⟨.tr (eL v10), 59, 4⟩, some ⟨.mx [.os 5 0 r83.1.frames.length, iA r83.1.forced], 28, 0⟩, some ⟨.tr (eL r83.1.frames), 59, 4⟩, some ⟨.mx [.t (.v (.slice none 0 0)), iA (0 : Int)], 28, 0⟩, some ⟨.tr (eL r88.1.frames), 59, 4⟩] rfl rfl ?_
      refine PR.op rfl (Rd.moveU rfl) ?_
      refine PR.op rfl (Rd.extract rfl rfl) ?_
      refine PR.op rfl (Rd.extract rfl rfl) ?_
      refine PR.store rfl rfl rfl rfl rfl rfl rfl rfl ?_
      refine PR.nO [some ⟨.mx [sL r86.2.b, iA r86.2.p], 68, 0⟩, some ⟨.mx [.t (.v (.slice none 0 0)), iA (0 : Int)], 28, 0⟩, some ⟨.mx [.os 5 0 r83.1.frames.length, iA r83.1.forced], 28, 0⟩, some ⟨.tr (eL v10), 59, 4⟩, some ⟨.mx [.os 5 0 r83.1.frames.length, iA r83.1.forced], 28, 0⟩, some ⟨.tr (eL r83.1.frames), 59, 4⟩, some ⟨.mx [.os 7 0 r88.1.frames.length, iA r88.1.forced], 28, 0⟩, some ⟨.tr (eL r88.1.frames), 59, 4⟩] rfl ?_
      refine PR.op rfl (Rd.asnT rfl) ?_
      refine PR.nil ?_
      refine PT.done ?_
      refine PL.nil ?_
      refine thA_n ?_
      exact ⟨(), trivial, [some 0, some 1, some 2, some 5, some 6, some 7], ⟨rfl, rfl, ⟨⟨_, rfl, rfl, rfl, .mx ⟨.t _, .t _, trivial⟩⟩, ⟨_, rfl, rfl, rfl, .mx ⟨.t _, .t _, trivial⟩⟩, ⟨_, rfl, rfl, rfl, .mx ⟨.os rfl, .t _, trivial⟩⟩, ⟨_, rfl, rfl, rfl, .tr _⟩, ⟨_, rfl, rfl, rfl, .mx ⟨.os rfl, .t _, trivial⟩⟩, ⟨_, rfl, rfl, rfl, .tr _⟩, trivial⟩, ⟨.op rfl, .op rfl, .op rfl, .t _, .t _, .op rfl, .t _, trivial⟩⟩⟩
    rintro ⟨⟩ -
    refine PC.seq ?_
    rcases cond_some hh1 with ⟨h_90, hh1⟩ | ⟨h_90, hh1⟩
    rotate_left
    · refine PC.region ?_
      refine PL.op rfl (Rd.moveT rfl) ?_
      refine PL.op rfl (Rd.moveT rfl) ?_
      refine PL.guard_off rfl rfl h_90 ?_
      refine PL.guard_off rfl rfl h_90 ?_
      refine PL.guard_off rfl rfl h_90 ?_
      refine PL.op rfl (Rd.pick_f rfl h_90) ?_
      refine PL.nil ?_
      refine thA_n ?_
      refine PC.cond_false rfl rfl ?_
      refine PC.skip ?_
      refine inA_n ?_
      refine thA_n ?_
      obtain ⟨n98, h_99, hh1⟩ := bind_some hh1
      refine PC.region ?_
      refine PL.op rfl (Rd.moveT rfl) ?_
      refine PL.op rfl (Rd.subM rfl rfl h_99) ?_
      refine PL.op rfl (Rd.asnT rfl) ?_
      refine PL.nil ?_
      obtain rfl := some_in hh1
      refine thA_n ?_
      exact ⟨(f57, (n79, n98, r86.2.b, r86.2.p, r83.1.forced, r83.1.frames)), Nat.lt_succ_self _, kk1, [some 0, some 1, some 2, some 3], ⟨rfl, rfl, ⟨⟨_, rfl, rfl, rfl, .mx ⟨.t _, .t _, trivial⟩⟩, ⟨_, rfl, rfl, rfl, .mx ⟨.t _, .t _, trivial⟩⟩, ⟨_, rfl, rfl, rfl, .mx ⟨.os rfl, .t _, trivial⟩⟩, ⟨_, rfl, rfl, rfl, .tr _⟩, trivial⟩, ⟨.op rfl, .op rfl, .op rfl, .t _, .t _, trivial⟩⟩⟩
    obtain ⟨r91, h_92, hh1⟩ := bind_some hh1
    refine PC.region ?_
    refine PL.op rfl (Rd.moveT rfl) ?_
    refine PL.op rfl (Rd.moveT rfl) ?_
    refine PL.guard_on rfl h_90 ?_
    refine PL.op rfl (Rd.moveP rfl) ?_
    refine PL.guard_on rfl h_90 ?_
    refine PL.callM false [0] (w_S_reader_pick N r86.2 (2 : Int) r91 h_92) rfl Try.call49 rfl ⟨.op rfl, .t _, trivial⟩ rfl ⟨⟨_, rfl, rfl, rfl, .mx ⟨.t _, .t _, trivial⟩⟩, trivial⟩ (fun h => by cases h) ?_
    refine PL.nm (iA r91.1) [some ⟨.mx [sL r91.2.b, iA r91.2.p], 68, 0⟩, some ⟨.mx [.t (.v (.slice none 0 0)), iA (0 : Int)], 28, 0⟩, some ⟨.mx [.os 3 0 r83.1.frames.length, iA r83.1.forced], 28, 0⟩, some ⟨.tr (eL r83.1.frames), 59, 4⟩, some ⟨.mx [.os 5 0 r88.1.frames.length, iA r88.1.forced], 28, 0⟩, some ⟨.tr (eL r88.1.frames), 59, 4⟩] rfl rfl ?_
    refine PL.guard_on rfl h_90 ?_
    refine PL.op rfl (Rd.eql rfl rfl) ?_
    refine PL.op rfl (Rd.pick_t rfl h_90) ?_
    refine PL.nil ?_
    refine thA_n ?_
    rcases cond_some hh1 with ⟨h_93, hh1⟩ | ⟨h_93, hh1⟩
    rotate_left
    · refine PC.cond_false rfl h_93 ?_
      refine PC.skip ?_
      refine inA_n ?_
      refine thA_n ?_
      obtain ⟨n96, h_97, hh1⟩ := bind_some hh1
      refine PC.region ?_
      refine PL.op rfl (Rd.moveT rfl) ?_
      refine PL.op rfl (Rd.subM rfl rfl h_97) ?_
      refine PL.op rfl (Rd.asnT rfl) ?_
      refine PL.nil ?_
      obtain rfl := some_in hh1
      refine thA_n ?_
      exact ⟨(f57, (n79, n96, r91.2.b, r91.2.p, r83.1.forced, r83.1.frames)), Nat.lt_succ_self _, kk1, [some 0, some 1, some 2, some 3], ⟨rfl, rfl, ⟨⟨_, rfl, rfl, rfl, .mx ⟨.t _, .t _, trivial⟩⟩, ⟨_, rfl, rfl, rfl, .mx ⟨.t _, .t _, trivial⟩⟩, ⟨_, rfl, rfl, rfl, .mx ⟨.os rfl, .t _, trivial⟩⟩, ⟨_, rfl, rfl, rfl, .tr _⟩, trivial⟩, ⟨.op rfl, .op rfl, .op rfl, .t _, .t _, trivial⟩⟩⟩
    refine PC.cond_true rfl h_93 ?_
    refine PC.region ?_
    refine PL.op rfl (Rd.loadBox rfl rfl rfl) ?_
    refine PL.store rfl rfl rfl rfl rfl rfl rfl ?_
    refine PL.nO [some ⟨.mx [sL r91.2.b, iA r91.2.p], 68, 0⟩, some ⟨.mx [.t (.v (.slice none 0 0)), iA (0 : Int)], 28, 0⟩, some ⟨.mx [.os 5 0 r88.1.frames.length, iA r88.1.forced], 28, 0⟩, some ⟨.tr (eL r83.1.frames), 59, 4⟩, some ⟨.mx [.os 5 0 r88.1.frames.length, iA r88.1.forced], 28, 0⟩, some ⟨.tr (eL r88.1.frames), 59, 4⟩] rfl ?_
    refine PL.nil ?_
    refine inA_n ?_
    refine thA_n ?_
    obtain ⟨n94, h_95, hh1⟩ := bind_some hh1
    refine PC.region ?_
    refine PL.op rfl (Rd.moveT rfl) ?_
    refine PL.op rfl (Rd.subM rfl rfl h_95) ?_
    refine PL.op rfl (Rd.asnT rfl) ?_
    refine PL.nil ?_
    obtain rfl := some_in hh1
    refine thA_n ?_
    exact ⟨(f57, (n79, n94, r91.2.b, r91.2.p, r88.1.forced, r88.1.frames)), Nat.lt_succ_self _, kk1, [some 0, some 1, some 2, some 5], ⟨rfl, rfl, ⟨⟨_, rfl, rfl, rfl, .mx ⟨.t _, .t _, trivial⟩⟩, ⟨_, rfl, rfl, rfl, .mx ⟨.t _, .t _, trivial⟩⟩, ⟨_, rfl, rfl, rfl, .mx ⟨.os rfl, .t _, trivial⟩⟩, ⟨_, rfl, rfl, rfl, .tr _⟩, trivial⟩, ⟨.op rfl, .op rfl, .op rfl, .t _, .t _, trivial⟩⟩⟩
  clear hh0
  rintro ⟨v51, v52, v53, v54⟩ hh0
  replace hh0 : m_S_anyBuffer_k1 N v51 v52 v53 v54 = some r := hh0
  unfold m_S_anyBuffer_k1 at hh0
  refine thA_n ?_
  refine PC.seq ?_
  refine PC.seq ?_
  obtain ⟨r60, h_61, hh0⟩ := bind_some hh0
  refine PC.region ?_
  refine PL.op rfl (Rd.moveP rfl) ?_
  refine PL.callM false [0] (w_S_reader_pick N (S_reader.mk v51 v52) (24 : Int) r60 h_61) rfl Try.call49 rfl ⟨.op rfl, .t _, trivial⟩ rfl ⟨⟨_, rfl, rfl, rfl, .mx ⟨.t _, .t _, trivial⟩⟩, trivial⟩ (fun h => by cases h) ?_
  refine PL.nm (iA r60.1) [some ⟨.mx [sL r60.2.b, iA r60.2.p], 68, 0⟩, some ⟨.mx [.t (.v (.slice none 0 0)), iA (0 : Int)], 28, 0⟩, some ⟨.mx [.os 3 0 v54.length, iA v53], 28, 0⟩, some ⟨.tr (eL v54), 59, 4⟩] rfl rfl ?_
  refine PL.nil ?_
  refine thA_n ?_
  refine PC.block ?_
  refine PC.seq ?_
  refine PC.region ?_
  refine PL.op rfl (Rd.eql rfl rfl) ?_
  refine PL.op rfl (Rd.asnT rfl) ?_
  refine PL.nil ?_
  refine thA_n ?_
  rcases cond_some hh0 with ⟨h_62, hh0⟩ | ⟨h_62, hh0⟩
  · refine PC.cond_true rfl h_62 ?_
    obtain ⟨r63, h_64, hh0⟩ := bind_some hh0
    refine PC.region ?_
    refine PL.op rfl (Rd.moveP rfl) ?_
    refine PL.er rfl (Er.ints [(-1 : Int), (10000 : Int)] rfl rfl (by decide) rfl) ?_
    refine PL.callM false [0] (w_S_reader_one N r60.2 [(-1 : Int), (10000 : Int)] r63 h_64) rfl Try.call39 rfl ⟨.op rfl, .t _, trivial⟩ rfl ⟨⟨_, rfl, rfl, rfl, .mx ⟨.t _, .t _, trivial⟩⟩, trivial⟩ (fun h => by cases h) ?_
    refine PL.nm (iA r63.1) [some ⟨.mx [sL r63.2.b, iA r63.2.p], 68, 0⟩, some ⟨.mx [.t (.v (.slice none 0 0)), iA (0 : Int)], 28, 0⟩, some ⟨.mx [.os 3 0 v54.length, iA v53], 28, 0⟩, some ⟨.tr (eL v54), 59, 4⟩] rfl rfl ?_
    refine PL.op rfl (Rd.fieldO rfl rfl) ?_
    refine PL.store rfl rfl rfl rfl rfl rfl rfl ?_
    refine PL.nO [some ⟨.mx [sL r63.2.b, iA r63.2.p], 68, 0⟩, some ⟨.mx [.t (.v (.slice none 0 0)), iA (0 : Int)], 28, 0⟩, some ⟨.mx [.os 3 0 v54.length, iA r63.1], 28, 0⟩, some ⟨.tr (eL v54), 59, 4⟩] rfl ?_
    refine PL.nil ?_
    refine inA_n ?_
    refine thA_n ?_
    refine PC.seq ?_
    refine PC.region ?_
    refine PL.op rfl (Rd.loadBox rfl rfl rfl) ?_
    refine PL.store rfl rfl rfl rfl rfl rfl rfl ?_
    refine PL.nO [some ⟨.mx [sL r63.2.b, iA r63.2.p], 68, 0⟩, some ⟨.mx [.os 3 0 v54.length, iA r63.1], 28, 0⟩, some ⟨.mx [.os 3 0 v54.length, iA r63.1], 28, 0⟩, some ⟨.tr (eL v54), 59, 4⟩] rfl ?_
    refine PL.nil ?_
    refine thA_n ?_
    refine PC.ret ?_
    obtain rfl := some_in hh0
    exact FinA.mk (r := .agg [.os 1 0 ((((I_Buffer.mk v54 r63.1), r63.2).1.frames).length), iA (((I_Buffer.mk v54 r63.1), r63.2).1.forced)]) (bl := [⟨.mx [sL (((I_Buffer.mk v54 r63.1), r63.2).2.b), iA (((I_Buffer.mk v54 r63.1), r63.2).2.p)], 68, 0⟩, ⟨.tr (eL (((I_Buffer.mk v54 r63.1), r63.2).1.frames)), 59, 4⟩]) [some 0, some 3] (.inl rfl) rfl (rl := [.cell 2 28]) (.cellN rfl rfl rfl rfl .nil) rfl rfl rfl (.aggL ⟨.os rfl, .t _, trivial⟩) ⟨⟨_, rfl, rfl, rfl, .mx ⟨.t _, .t _, trivial⟩⟩, ⟨_, rfl, rfl, rfl, .tr _⟩, trivial⟩ ⟨rfl, rfl⟩
  refine PC.cond_false rfl h_62 ?_
  refine PC.seq ?_
  refine PC.region ?_
  refine PL.op rfl (Rd.eql rfl rfl) ?_
  refine PL.op rfl (Rd.asnT rfl) ?_
  refine PL.nil ?_
  refine thA_n ?_
  rcases cond_some hh0 with ⟨h_65, hh0⟩ | ⟨h_65, hh0⟩
  rotate_left
  · refine PC.cond_false rfl h_65 ?_
    refine PC.skip ?_
    refine inA_n ?_
    refine thA_n ?_
    refine PC.seq ?_
    refine PC.region ?_
    refine PL.op rfl (Rd.loadBox rfl rfl rfl) ?_
    refine PL.store rfl rfl rfl rfl rfl rfl rfl ?_
    refine PL.nO [some ⟨.mx [sL r60.2.b, iA r60.2.p], 68, 0⟩, some ⟨.mx [.os 3 0 v54.length, iA v53], 28, 0⟩, some ⟨.mx [.os 3 0 v54.length, iA v53], 28, 0⟩, some ⟨.tr (eL v54), 59, 4⟩] rfl ?_
    refine PL.nil ?_
    refine thA_n ?_
    refine PC.ret ?_
    obtain rfl := some_in hh0
    exact FinA.mk (r := .agg [.os 1 0 ((((I_Buffer.mk v54 v53), r60.2).1.frames).length), iA (((I_Buffer.mk v54 v53), r60.2).1.forced)]) (bl := [⟨.mx [sL (((I_Buffer.mk v54 v53), r60.2).2.b), iA (((I_Buffer.mk v54 v53), r60.2).2.p)], 68, 0⟩, ⟨.tr (eL (((I_Buffer.mk v54 v53), r60.2).1.frames)), 59, 4⟩]) [some 0, some 3] (.inl rfl) rfl (rl := [.cell 2 28]) (.cellN rfl rfl rfl rfl .nil) rfl rfl rfl (.aggL ⟨.os rfl, .t _, trivial⟩) ⟨⟨_, rfl, rfl, rfl, .mx ⟨.t _, .t _, trivial⟩⟩, ⟨_, rfl, rfl, rfl, .tr _⟩, trivial⟩ ⟨rfl, rfl⟩
  refine PC.cond_true rfl h_65 ?_
  obtain ⟨r66, h_67, hh0⟩ := bind_some hh0
  obtain ⟨r68, h_69, hh0⟩ := bind_some hh0
  obtain ⟨r70, h_71, hh0⟩ := bind_some hh0
  obtain ⟨xs72, h_73, hh0⟩ := bind_some hh0
  refine PC.any (id := 17) 13 (.seg [0, 1, 2, 5, 8] (.fork (.seg [3] (.fork (.seg [4] (.fork (.seg [6] (.fork (.seg [7, 9, 10, 11, 12] .done) (.seg [9, 7, 10, 11, 12] .done))) (.seg [9, 6, 7, 10, 11, 12] .done))) (.fork (.seg [6] (.fork (.seg [4] (.fork (.seg [7, 9, 10, 11, 12] .done) (.seg [9, 7, 10, 11, 12] .done))) (.seg [9, 4, 7, 10, 11, 12] .done))) (.seg [9] (.fork (.seg [4, 6, 7, 10, 11, 12] .done) (.seg [6, 4, 7, 10, 11, 12] .done)))))) (.fork (.seg [6] (.fork (.seg [3] (.fork (.seg [4] (.fork (.seg [7, 9, 10, 11, 12] .done) (.seg [9, 7, 10, 11, 12] .done))) (.seg [9, 4, 7, 10, 11, 12] .done))) (.seg [9, 3, 4, 7, 10, 11, 12] .done))) (.seg [9] (.fork (.seg [3] (.fork (.seg [4, 6, 7, 10, 11, 12] .done) (.seg [6, 4, 7, 10, 11, 12] .done))) (.seg [6, 3, 4, 7, 10, 11, 12] .done)))))) [0] rfl (by kernel_rfl) rfl ?_
  refine PT.seg ?_
  refine PR.op rfl (Rd.fieldO rfl rfl) ?_
  refine PR.op rfl (Rd.loadO rfl rfl rfl) ?_
  refine PR.op rfl (Rd.moveP rfl) ?_
  refine PR.op rfl (Rd.moveP rfl) ?_
  refine PR.op rfl (Rd.moveP rfl) ?_
  refine PR.nil ?_
  refine PT.fork ?_ ?_
  rotate_left
  · refine PT.fork ?_ ?_
    rotate_left
    · refine PT.seg ?_
      refine PR.er rfl rfl (Er.ints [(0 : Int), (7 : Int), (8 : Int)] rfl rfl (by decide) rfl) ?_
      refine PR.nil ?_
      refine PT.fork ?_ ?_
      rotate_left
      · refine PT.seg ?_
        refine PR.er rfl rfl (Er.ints [(0 : Int), (7 : Int), (10000 : Int)] rfl rfl (by decide) rfl) ?_
        refine PR.er rfl rfl (Er.ints [(0 : Int), (5 : Int), (6 : Int), (-1 : Int)] rfl rfl (by decide) rfl) ?_
        refine PR.callM false [0] (w_S_reader_one N r60.2 [(0 : Int), (5 : Int), (6 : Int), (-1 : Int)] r66 h_67) rfl Try.call39 rfl ⟨.op rfl, .t _, trivial⟩ rfl ⟨⟨_, rfl, rfl, rfl, .mx ⟨.t _, .t _, trivial⟩⟩, trivial⟩ (fun h => by cases h) rfl ?_
        refine PR.nm (iA r66.1) [some ⟨.mx [sL r66.2.b, iA r66.2.p], 68, 0⟩, some ⟨.mx [.t (.v (.slice none 0 0)), iA (0 : Int)], 28, 0⟩, some ⟨.mx [.os 3 0 v54.length, iA v53], 28, 0⟩, some ⟨.tr (eL v54), 59, 4⟩] rfl rfl ?_
        refine PR.callM false [0] (w_S_reader_one N r66.2 [(0 : Int), (7 : Int), (10000 : Int)] r68 h_69) rfl Try.call39 rfl ⟨.op rfl, .t _, trivial⟩ rfl ⟨⟨_, rfl, rfl, rfl, .mx ⟨.t _, .t _, trivial⟩⟩, trivial⟩ (fun h => by cases h) rfl ?_
        refine PR.nm (iA r68.1) [some ⟨.mx [sL r68.2.b, iA r68.2.p], 68, 0⟩, some ⟨.mx [.t (.v (.slice none 0 0)), iA (0 : Int)], 28, 0⟩, some ⟨.mx [.os 3 0 v54.length, iA v53], 28, 0⟩, some ⟨.tr (eL v54), 59, 4⟩] rfl rfl ?_
        refine PR.callM false [0] (w_S_reader_one N r68.2 [(0 : Int), (7 : Int), (8 : Int)] r70 h_71) rfl Try.call39 rfl ⟨.op rfl, .t _, trivial⟩ rfl ⟨⟨_, rfl, rfl, rfl, .mx ⟨.t _, .t _, trivial⟩⟩, trivial⟩ (fun h => by cases h) rfl ?_
        refine PR.nm (iA r70.1) [some ⟨.mx [sL r70.2.b, iA r70.2.p], 68, 0⟩, some ⟨.mx [.t (.v (.slice none 0 0)), iA (0 : Int)], 28, 0⟩, some ⟨.mx [.os 3 0 v54.length, iA v53], 28, 0⟩, some ⟨.tr (eL v54), 59, 4⟩] rfl rfl ?_
        refine PR.op rfl (Rd.build rfl rfl rfl rfl) ?_
        refine PR.ef rfl rfl (Ef.litM (α := I_Frame) [(I_Frame.mk r66.1 false r70.1 r68.1)] [_] rfl rfl (by decide) rfl rfl rfl rfl) ?_
        refine PR.nm (.os 4 0 1) [some ⟨.mx [sL r70.2.b, iA r70.2.p], 68, 0⟩, some ⟨.mx [.t (.v (.slice none 0 0)), iA (0 : Int)], 28, 0⟩, some ⟨.mx [.os 3 0 v54.length, iA v53], 28, 0⟩, some ⟨.tr (eL v54), 59, 4⟩, some ⟨.tr (eL [(I_Frame.mk r66.1 false r70.1 r68.1)]), 59, 4⟩] rfl rfl ?_
        refine PR.nil ?_
        refine PT.done ?_
        refine PL.apM hs rfl rfl rfl rfl (SrcA.ownE rfl rfl rfl) rfl rfl rfl rfl h_73 ?_
        refine PL.nm (.os 5 0 xs72.length) [some ⟨.mx [sL r70.2.b, iA r70.2.p], 68, 0⟩, some ⟨.mx [.t (.v (.slice none 0 0)), iA (0 : Int)], 28, 0⟩, some ⟨.mx [.os 3 0 v54.length, iA v53], 28, 0⟩, none, some ⟨.tr (eL [(I_Frame.mk r66.1 false r70.1 r68.1)]), 59, 4⟩, some ⟨.tr (eL xs72), 59, 4⟩] rfl rfl ?_
        refine PL.op rfl (Rd.fieldO rfl rfl) ?_
        refine PL.store rfl rfl rfl rfl rfl rfl rfl ?_
        refine PL.nO [some ⟨.mx [sL r70.2.b, iA r70.2.p], 68, 0⟩, some ⟨.mx [.t (.v (.slice none 0 0)), iA (0 : Int)], 28, 0⟩, some ⟨.mx [.os 5 0 xs72.length, iA v53], 28, 0⟩, none, some ⟨.tr (eL [(I_Frame.mk r66.1 false r70.1 r68.1)]), 59, 4⟩, some ⟨.tr (eL xs72), 59, 4⟩] rfl ?_
        refine PL.nil ?_
        refine inA_n ?_
        refine thA_n ?_
        refine PC.seq ?_
        refine PC.region ?_
        refine PL.op rfl (Rd.loadBox rfl rfl rfl) ?_
        refine PL.store rfl rfl rfl rfl rfl rfl rfl ?_
        refine PL.nO [some ⟨.mx [sL r70.2.b, iA r70.2.p], 68, 0⟩, some ⟨.mx [.os 5 0 xs72.length, iA v53], 28, 0⟩, some ⟨.mx [.os 5 0 xs72.length, iA v53], 28, 0⟩, none, some ⟨.tr (eL [(I_Frame.mk r66.1 false r70.1 r68.1)]), 59, 4⟩, some ⟨.tr (eL xs72), 59, 4⟩] rfl ?_
        refine PL.nil ?_
        refine thA_n ?_
        refine PC.ret ?_
        obtain rfl := some_in hh0
        exact FinA.mk (r := .agg [.os 1 0 ((((I_Buffer.mk xs72 v53), r70.2).1.frames).length), iA (((I_Buffer.mk xs72 v53), r70.2).1.forced)]) (bl := [⟨.mx [sL (((I_Buffer.mk xs72 v53), r70.2).2.b), iA (((I_Buffer.mk xs72 v53), r70.2).2.p)], 68, 0⟩, ⟨.tr (eL (((I_Buffer.mk xs72 v53), r70.2).1.frames)), 59, 4⟩]) [some 0, some 5] (.inl rfl) rfl (rl := [.cell 2 28]) (.cellN rfl rfl rfl rfl .nil) rfl rfl rfl (.aggL ⟨.os rfl, .t _, trivial⟩) ⟨⟨_, rfl, rfl, rfl, .mx ⟨.t _, .t _, trivial⟩⟩, ⟨_, rfl, rfl, rfl, .tr _⟩, trivial⟩ ⟨rfl, rfl⟩
      refine PT.seg ?_
      refine PR.er rfl rfl (Er.ints [(0 : Int), (5 : Int), (6 : Int), (-1 : Int)] rfl rfl (by decide) rfl) ?_
      refine PR.nil ?_
      refine PT.fork ?_ ?_
      · refine PT.seg ?_
        refine PR.callM false [0] (w_S_reader_one N r60.2 [(0 : Int), (5 : Int), (6 : Int), (-1 : Int)] r66 h_67) rfl Try.call39 rfl ⟨.op rfl, .t _, trivial⟩ rfl ⟨⟨_, rfl, rfl, rfl, .mx ⟨.t _, .t _, trivial⟩⟩, trivial⟩ (fun h => by cases h) rfl ?_
        refine PR.nm (iA r66.1) [some ⟨.mx [sL r66.2.b, iA r66.2.p], 68, 0⟩, some ⟨.mx [.t (.v (.slice none 0 0)), iA (0 : Int)], 28, 0⟩, some ⟨.mx [.os 3 0 v54.length, iA v53], 28, 0⟩, some ⟨.tr (eL v54), 59, 4⟩] rfl rfl ?_
        refine PR.er rfl rfl (Er.ints [(0 : Int), (7 : Int), (10000 : Int)] rfl rfl (by decide) rfl) ?_
        refine PR.callM false [0] (w_S_reader_one N r66.2 [(0 : Int), (7 : Int), (10000 : Int)] r68 h_69) rfl Try.call39 rfl ⟨.op rfl, .t _, trivial⟩ rfl ⟨⟨_, rfl, rfl, rfl, .mx ⟨.t _, .t _, trivial⟩⟩, trivial⟩ (fun h => by cases h) rfl ?_
        refine PR.nm (iA r68.1) [some ⟨.mx [sL r68.2.b, iA r68.2.p], 68, 0⟩, some ⟨.mx [.t (.v (.slice none 0 0)), iA (0 : Int)], 28, 0⟩, some ⟨.mx [.os 3 0 v54.length, iA v53], 28, 0⟩, some ⟨.tr (eL v54), 59, 4⟩] rfl rfl ?_
        refine PR.callM false [0] (w_S_reader_one N r68.2 [(0 : Int), (7 : Int), (8 : Int)] r70 h_71) rfl Try.call39 rfl ⟨.op rfl, .t _, trivial⟩ rfl ⟨⟨_, rfl, rfl, rfl, .mx ⟨.t _, .t _, trivial⟩⟩, trivial⟩ (fun h => by cases h) rfl ?_
        refine PR.nm (iA r70.1) [some ⟨.mx [sL r70.2.b, iA r70.2.p], 68, 0⟩, some ⟨.mx [.t (.v (.slice none 0 0)), iA (0 : Int)], 28, 0⟩, some ⟨.mx [.os 3 0 v54.length, iA v53], 28, 0⟩, some ⟨.tr (eL v54), 59, 4⟩] rfl rfl ?_
        refine PR.op rfl (Rd.build rfl rfl rfl rfl) ?_
        refine PR.ef rfl rfl (Ef.litM (α := I_Frame) [(I_Frame.mk r66.1 false r70.1 r68.1)] [_] rfl rfl (by decide) rfl rfl rfl rfl) ?_
        refine PR.nm (.os 4 0 1) [some ⟨.mx [sL r70.2.b, iA r70.2.p], 68, 0⟩, some ⟨.mx [.t (.v (.slice none 0 0)), iA (0 : Int)], 28, 0⟩, some ⟨.mx [.os 3 0 v54.length, iA v53], 28, 0⟩, some ⟨.tr (eL v54), 59, 4⟩, some ⟨.tr (eL [(I_Frame.mk r66.1 false r70.1 r68.1)]), 59, 4⟩] rfl rfl ?_
        refine PR.nil ?_
        refine PT.done ?_
        refine PL.apM hs rfl rfl rfl rfl (SrcA.ownE rfl rfl rfl) rfl rfl rfl rfl h_73 ?_
        refine PL.nm (.os 5 0 xs72.length) [some ⟨.mx [sL r70.2.b, iA r70.2.p], 68, 0⟩, some ⟨.mx [.t (.v (.slice none 0 0)), iA (0 : Int)], 28, 0⟩, some ⟨.mx [.os 3 0 v54.length, iA v53], 28, 0⟩, none, some ⟨.tr (eL [(I_Frame.mk r66.1 false r70.1 r68.1)]), 59, 4⟩, some ⟨.tr (eL xs72), 59, 4⟩] rfl rfl ?_
        refine PL.op rfl (Rd.fieldO rfl rfl) ?_
        refine PL.store rfl rfl rfl rfl rfl rfl rfl ?_
        refine PL.nO [some ⟨.mx [sL r70.2.b, iA r70.2.p], 68, 0⟩, some ⟨.mx [.t (.v (.slice none 0 0)), iA (0 : Int)], 28, 0⟩, some ⟨.mx [.os 5 0 xs72.length, iA v53], 28, 0⟩, none, some ⟨.tr (eL [(I_Frame.mk r66.1 false r70.1 r68.1)]), 59, 4⟩, some ⟨.tr (eL xs72), 59, 4⟩] rfl ?_
        refine PL.nil ?_
        refine inA_n ?_
        refine thA_n ?_
        refine PC.seq ?_
        refine PC.region ?_
        refine PL.op rfl (Rd.loadBox rfl rfl rfl) ?_
        refine PL.store rfl rfl rfl rfl rfl rfl rfl ?_
        refine PL.nO [some ⟨.mx [sL r70.2.b, iA r70.2.p], 68, 0⟩, some ⟨.mx [.os 5 0 xs72.length, iA v53], 28, 0⟩, some ⟨.mx [.os 5 0 xs72.length, iA v53], 28, 0⟩, none, some ⟨.tr (eL [(I_Frame.mk r66.1 false r70.1 r68.1)]), 59, 4⟩, some ⟨.tr (eL xs72), 59, 4⟩] rfl ?_
        refine PL.nil ?_
        refine thA_n ?_
        refine PC.ret ?_
        obtain rfl := some_in hh0
        exact FinA.mk (r := .agg [.os 1 0 ((((I_Buffer.mk xs72 v53), r70.2).1.frames).length), iA (((I_Buffer.mk xs72 v53), r70.2).1.forced)]) (bl := [⟨.mx [sL (((I_Buffer.mk xs72 v53), r70.2).2.b), iA (((I_Buffer.mk xs72 v53), r70.2).2.p)], 68, 0⟩, ⟨.tr (eL (((I_Buffer.mk xs72 v53), r70.2).1.frames)), 59, 4⟩]) [some 0, some 5] (.inl rfl) rfl (rl := [.cell 2 28]) (.cellN rfl rfl rfl rfl .nil) rfl rfl rfl (.aggL ⟨.os rfl, .t _, trivial⟩) ⟨⟨_, rfl, rfl, rfl, .mx ⟨.t _, .t _, trivial⟩⟩, ⟨_, rfl, rfl, rfl, .tr _⟩, trivial⟩ ⟨rfl, rfl⟩
      refine PT.seg ?_
      refine PR.er rfl rfl (Er.ints [(0 : Int), (7 : Int), (10000 : Int)] rfl rfl (by decide) rfl) ?_
      refine PR.callM false [0] (w_S_reader_one N r60.2 [(0 : Int), (5 : Int), (6 : Int), (-1 : Int)] r66 h_67) rfl Try.call39 rfl ⟨.op rfl, .t _, trivial⟩ rfl ⟨⟨_, rfl, rfl, rfl, .mx ⟨.t _, .t _, trivial⟩⟩, trivial⟩ (fun h => by cases h) rfl ?_
      refine PR.nm (iA r66.1) [some ⟨.mx [sL r66.2.b, iA r66.2.p], 68, 0⟩, some ⟨.mx [.t (.v (.slice none 0 0)), iA (0 : Int)], 28, 0⟩, some ⟨.mx [.os 3 0 v54.length, iA v53], 28, 0⟩, some ⟨.tr (eL v54), 59, 4⟩] rfl rfl ?_
      refine PR.callM false [0] (w_S_reader_one N r66.2 [(0 : Int), (7 : Int), (10000 : Int)] r68 h_69) rfl Try.call39 rfl ⟨.op rfl, .t _, trivial⟩ rfl ⟨⟨_, rfl, rfl, rfl, .mx ⟨.t _, .t _, trivial⟩⟩, trivial⟩ (fun h => by cases h) rfl ?_
      refine PR.nm (iA r68.1) [some ⟨.mx [sL r68.2.b, iA r68.2.p], 68, 0⟩, some ⟨.mx [.t (.v (.slice none 0 0)), iA (0 : Int)], 28, 0⟩, some ⟨.mx [.os 3 0 v54.length, iA v53], 28, 0⟩, some ⟨.tr (eL v54), 59, 4⟩] rfl rfl ?_
      refine PR.callM false [0] (w_S_reader_one N r68.2 [(0 : Int), (7 : Int), (8 : Int)] r70 h_71) rfl Try.call39 rfl ⟨.op rfl, .t _, trivial⟩ rfl ⟨⟨_, rfl, rfl, rfl, .mx ⟨.t _, .t _, trivial⟩⟩, trivial⟩ (fun h => by cases h) rfl ?_
      refine PR.nm (iA r70.1) [some ⟨.mx [sL r70.2.b, iA r70.2.p], 68, 0⟩, some ⟨.mx [.t (.v (.slice none 0 0)), iA (0 : Int)], 28, 0⟩, some ⟨.mx [.os 3 0 v54.length, iA v53], 28, 0⟩, some ⟨.tr (eL v54), 59, 4⟩] rfl rfl ?_
      refine PR.op rfl (Rd.build rfl rfl rfl rfl) ?_
      refine PR.ef rfl rfl (Ef.litM (α := I_Frame) [(I_Frame.mk r66.1 false r70.1 r68.1)] [_] rfl rfl (by decide) rfl rfl rfl rfl) ?_
      refine PR.nm (.os 4 0 1) [some ⟨.mx [sL r70.2.b, iA r70.2.p], 68, 0⟩, some ⟨.mx [.t (.v (.slice none 0 0)), iA (0 : Int)], 28, 0⟩, some ⟨.mx [.os 3 0 v54.length, iA v53], 28, 0⟩, some ⟨.tr (eL v54), 59, 4⟩, some ⟨.tr (eL [(I_Frame.mk r66.1 false r70.1 r68.1)]), 59, 4⟩] rfl rfl ?_
      refine PR.nil ?_
      refine PT.done ?_
      refine PL.apM hs rfl rfl rfl rfl (SrcA.ownE rfl rfl rfl) rfl rfl rfl rfl h_73 ?_
      refine PL.nm (.os 5 0 xs72.length) [some ⟨.mx [sL r70.2.b, iA r70.2.p], 68, 0⟩, some ⟨.mx [.t (.v (.slice none 0 0)), iA (0 : Int)], 28, 0⟩, some ⟨.mx [.os 3 0 v54.length, iA v53], 28, 0⟩, none, some ⟨.tr (eL [(I_Frame.mk r66.1 false r70.1 r68.1)]), 59, 4⟩, some ⟨.tr (eL xs72), 59, 4⟩] rfl rfl ?_
      refine PL.op rfl (Rd.fieldO rfl rfl) ?_
      refine PL.store rfl rfl rfl rfl rfl rfl rfl ?_
      refine PL.nO [some ⟨.mx [sL r70.2.b, iA r70.2.p], 68, 0⟩, some ⟨.mx [.t (.v (.slice none 0 0)), iA (0 : Int)], 28, 0⟩, some ⟨.mx [.os 5 0 xs72.length, iA v53], 28, 0⟩, none, some ⟨.tr (eL [(I_Frame.mk r66.1 false r70.1 r68.1)]), 59, 4⟩, some ⟨.tr (eL xs72), 59, 4⟩] rfl ?_
      refine PL.nil ?_
      refine inA_n ?_
      refine thA_n ?_
      refine PC.seq ?_
      refine PC.region ?_
      refine PL.op rfl (Rd.loadBox rfl rfl rfl) ?_
      refine PL.store rfl rfl rfl rfl rfl rfl rfl ?_
      refine PL.nO [some ⟨.mx [sL r70.2.b, iA r70.2.p], 68, 0⟩, some ⟨.mx [.os 5 0 xs72.length, iA v53], 28, 0⟩, some ⟨.mx [.os 5 0 xs72.length, iA v53], 28, 0⟩, none, some ⟨.tr (eL [(I_Frame.mk r66.1 false r70.1 r68.1)]), 59, 4⟩, some ⟨.tr (eL xs72), 59, 4⟩] rfl ?_
      refine PL.nil ?_
      refine thA_n ?_
      refine PC.ret ?_
      obtain rfl := some_in hh0
      exact FinA.mk (r := .agg [.os 1 0 ((((I_Buffer.mk xs72 v53), r70.2).1.frames).length), iA (((I_Buffer.mk xs72 v53), r70.2).1.forced)]) (bl := [⟨.mx [sL (((I_Buffer.mk xs72 v53), r70.2).2.b), iA (((I_Buffer.mk xs72 v53), r70.2).2.p)], 68, 0⟩, ⟨.tr (eL (((I_Buffer.mk xs72 v53), r70.2).1.frames)), 59, 4⟩]) [some 0, some 5] (.inl rfl) rfl (rl := [.cell 2 28]) (.cellN rfl rfl rfl rfl .nil) rfl rfl rfl (.aggL ⟨.os rfl, .t _, trivial⟩) ⟨⟨_, rfl, rfl, rfl, .mx ⟨.t _, .t _, trivial⟩⟩, ⟨_, rfl, rfl, rfl, .tr _⟩, trivial⟩ ⟨rfl, rfl⟩
    refine PT.seg ?_
    refine PR.er rfl rfl (Er.ints [(0 : Int), (7 : Int), (10000 : Int)] rfl rfl (by decide) rfl) ?_
    refine PR.nil ?_
    refine PT.fork ?_ ?_
    rotate_left
    · refine PT.seg ?_
      refine PR.er rfl rfl (Er.ints [(0 : Int), (7 : Int), (8 : Int)] rfl rfl (by decide) rfl) ?_
      refine PR.er rfl rfl (Er.ints [(0 : Int), (5 : Int), (6 : Int), (-1 : Int)] rfl rfl (by decide) rfl) ?_
      refine PR.callM false [0] (w_S_reader_one N r60.2 [(0 : Int), (5 : Int), (6 : Int), (-1 : Int)] r66 h_67) rfl Try.call39 rfl ⟨.op rfl, .t _, trivial⟩ rfl ⟨⟨_, rfl, rfl, rfl, .mx ⟨.t _, .t _, trivial⟩⟩, trivial⟩ (fun h => by cases h) rfl ?_
      refine PR.nm (iA r66.1) [some ⟨.mx [sL r66.2.b, iA r66.2.p], 68, 0⟩, some ⟨.mx [.t (.v (.slice none 0 0)), iA (0 : Int)], 28, 0⟩, some ⟨.mx [.os 3 0 v54.length, iA v53], 28, 0⟩, some ⟨.tr (eL v54), 59, 4⟩] rfl rfl ?_
      refine PR.callM false [0] (w_S_reader_one N r66.2 [(0 : Int), (7 : Int), (10000 : Int)] r68 h_69) rfl Try.call39 rfl ⟨.op rfl, .t _, trivial⟩ rfl ⟨⟨_, rfl, rfl, rfl, .mx ⟨.t _, .t _, trivial⟩⟩, trivial⟩ (fun h => by cases h) rfl ?_
      refine PR.nm (iA r68.1) [some ⟨.mx [sL r68.2.b, iA r68.2.p], 68, 0⟩, some ⟨.mx [.t (.v (.slice none 0 0)), iA (0 : Int)], 28, 0⟩, some ⟨.mx [.os 3 0 v54.length, iA v53], 28, 0⟩, some ⟨.tr (eL v54), 59, 4⟩] rfl rfl ?_
      refine PR.callM false [0] (w_S_reader_one N r68.2 [(0 : Int), (7 : Int), (8 : Int)] r70 h_71) rfl Try.call39 rfl ⟨.op rfl, .t _, trivial⟩ rfl ⟨⟨_, rfl, rfl, rfl, .mx ⟨.t _, .t _, trivial⟩⟩, trivial⟩ (fun h => by cases h) rfl ?_
      refine PR.nm (iA r70.1) [some ⟨.mx [sL r70.2.b, iA r70.2.p], 68, 0⟩, some ⟨.mx [.t (.v (.slice none 0 0)), iA (0 : Int)], 28, 0⟩, some ⟨.mx [.os 3 0 v54.length, iA v53], 28, 0⟩, some ⟨.tr (eL v54), 59, 4⟩] rfl rfl ?_
      refine PR.op rfl (Rd.build rfl rfl rfl rfl) ?_
      refine PR.ef rfl rfl (Ef.litM (α := I_Frame) [(I_Frame.mk r66.1 false r70.1 r68.1)] [_] rfl rfl (by decide) rfl rfl rfl rfl) ?_
      refine PR.nm (.os 4 0 1) [some ⟨.mx [sL r70.2.b, iA r70.2.p], 68, 0⟩, some ⟨.mx [.t (.v (.slice none 0 0)), iA (0 : Int)], 28, 0⟩, some ⟨.mx [.os 3 0 v54.length, iA v53], 28, 0⟩, some ⟨.tr (eL v54), 59, 4⟩, some ⟨.tr (eL [(I_Frame.mk r66.1 false r70.1 r68.1)]), 59, 4⟩] rfl rfl ?_
      refine PR.nil ?_
      refine PT.done ?_
      refine PL.apM hs rfl rfl rfl rfl (SrcA.ownE rfl rfl rfl) rfl rfl rfl rfl h_73 ?_
      refine PL.nm (.os 5 0 xs72.length) [some ⟨.mx [sL r70.2.b, iA r70.2.p], 68, 0⟩, some ⟨.mx [.t (.v (.slice none 0 0)), iA (0 : Int)], 28, 0⟩, some ⟨.mx [.os 3 0 v54.length, iA v53], 28, 0⟩, none, some ⟨.tr (eL [(I_Frame.mk r66.1 false r70.1 r68.1)]), 59, 4⟩, some ⟨.tr (eL xs72), 59, 4⟩] rfl rfl ?_
      refine PL.op rfl (Rd.fieldO rfl rfl) ?_
      refine PL.store rfl rfl rfl rfl rfl rfl rfl ?_
      refine PL.nO [some ⟨.mx [sL r70.2.b, iA r70.2.p], 68, 0⟩, some ⟨.mx [.t (.v (.slice none 0 0)), iA (0 : Int)], 28, 0⟩, some ⟨.mx [.os 5 0 xs72.length, iA v53], 28, 0⟩, none, some ⟨.tr (eL [(I_Frame.mk r66.1 false r70.1 r68.1)]), 59, 4⟩, some ⟨.tr (eL xs72), 59, 4⟩] rfl ?_
      refine PL.nil ?_
      refine inA_n ?_
      refine thA_n ?_
      refine PC.seq ?_
      refine PC.region ?_
      refine PL.op rfl (Rd.loadBox rfl rfl rfl) ?_
      refine PL.store rfl rfl rfl rfl rfl rfl rfl ?_
      refine PL.nO [some ⟨.mx [sL r70.2.b, iA r70.2.p], 68, 0⟩, some ⟨.mx [.os 5 0 xs72.length, iA v53], 28, 0⟩, some ⟨.mx [.os 5 0 xs72.length, iA v53], 28, 0⟩, none, some ⟨.tr (eL [(I_Frame.mk r66.1 false r70.1 r68.1)]), 59, 4⟩, some ⟨.tr (eL xs72), 59, 4⟩] rfl ?_
      refine PL.nil ?_
      refine thA_n ?_
      refine PC.ret ?_
      obtain rfl := some_in hh0
      exact FinA.mk (r := .agg [.os 1 0 ((((I_Buffer.mk xs72 v53), r70.2).1.frames).length), iA (((I_Buffer.mk xs72 v53), r70.2).1.forced)]) (bl := [⟨.mx [sL (((I_Buffer.mk xs72 v53), r70.2).2.b), iA (((I_Buffer.mk xs72 v53), r70.2).2.p)], 68, 0⟩, ⟨.tr (eL (((I_Buffer.mk xs72 v53), r70.2).1.frames)), 59, 4⟩]) [some 0, some 5] (.inl rfl) rfl (rl := [.cell 2 28]) (.cellN rfl rfl rfl rfl .nil) rfl rfl rfl (.aggL ⟨.os rfl, .t _, trivial⟩) ⟨⟨_, rfl, rfl, rfl, .mx ⟨.t _, .t _, trivial⟩⟩, ⟨_, rfl, rfl, rfl, .tr _⟩, trivial⟩ ⟨rfl, rfl⟩
    refine PT.seg ?_
    refine PR.er rfl rfl (Er.ints [(0 : Int), (5 : Int), (6 : Int), (-1 : Int)] rfl rfl (by decide) rfl) ?_
    refine PR.nil ?_
    refine PT.fork ?_ ?_
    rotate_left
    · refine PT.seg ?_
      refine PR.er rfl rfl (Er.ints [(0 : Int), (7 : Int), (8 : Int)] rfl rfl (by decide) rfl) ?_
      refine PR.callM false [0] (w_S_reader_one N r60.2 [(0 : Int), (5 : Int), (6 : Int), (-1 : Int)] r66 h_67) rfl Try.call39 rfl ⟨.op rfl, .t _, trivial⟩ rfl ⟨⟨_, rfl, rfl, rfl, .mx ⟨.t _, .t _, trivial⟩⟩, trivial⟩ (fun h => by cases h) rfl ?_
      refine PR.nm (iA r66.1) [some ⟨.mx [sL r66.2.b, iA r66.2.p], 68, 0⟩, some ⟨.mx [.t (.v (.slice none 0 0)), iA (0 : Int)], 28, 0⟩, some ⟨.mx [.os 3 0 v54.length, iA v53], 28, 0⟩, some ⟨.tr (eL v54), 59, 4⟩] rfl rfl ?_
      refine PR.callM false [0] (w_S_reader_one N r66.2 [(0 : Int), (7 : Int), (10000 : Int)] r68 h_69) rfl Try.call39 rfl ⟨.op rfl, .t _, trivial⟩ rfl ⟨⟨_, rfl, rfl, rfl, .mx ⟨.t _, .t _, trivial⟩⟩, trivial⟩ (fun h => by cases h) rfl ?_
      refine PR.nm (iA r68.1) [some ⟨.mx [sL r68.2.b, iA r68.2.p], 68, 0⟩, some ⟨.mx [.t (.v (.slice none 0 0)), iA (0 : Int)], 28, 0⟩, some ⟨.mx [.os 3 0 v54.length, iA v53], 28, 0⟩, some ⟨.tr (eL v54), 59, 4⟩] rfl rfl ?_
      refine PR.callM false [0] (w_S_reader_one N r68.2 [(0 : Int), (7 : Int), (8 : Int)] r70 h_71) rfl Try.call39 rfl ⟨.op rfl, .t _, trivial⟩ rfl ⟨⟨_, rfl, rfl, rfl, .mx ⟨.t _, .t _, trivial⟩⟩, trivial⟩ (fun h => by cases h) rfl ?_
      refine PR.nm (iA r70.1) [some ⟨.mx [sL r70.2.b, iA r70.2.p], 68, 0⟩, some ⟨.mx [.t (.v (.slice none 0 0)), iA (0 : Int)], 28, 0⟩, some ⟨.mx [.os 3 0 v54.length, iA v53], 28, 0⟩, some ⟨.tr (eL v54), 59, 4⟩] rfl rfl ?_
      refine PR.op rfl (Rd.build rfl rfl rfl rfl) ?_
      refine PR.ef rfl rfl (Ef.litM (α := I_Frame) [(I_Frame.mk r66.1 false r70.1 r68.1)] [_] rfl rfl (by decide) rfl rfl rfl rfl) ?_
      refine PR.nm (.os 4 0 1) [some ⟨.mx [sL r70.2.b, iA r70.2.p], 68, 0⟩, some ⟨.mx [.t (.v (.slice none 0 0)), iA (0 : Int)], 28, 0⟩, some ⟨.mx [.os 3 0 v54.length, iA v53], 28, 0⟩, some ⟨.tr (eL v54), 59, 4⟩, some ⟨.tr (eL [(I_Frame.mk r66.1 false r70.1 r68.1)]), 59, 4⟩] rfl rfl ?_
      refine PR.nil ?_
      refine PT.done ?_
      refine PL.apM hs rfl rfl rfl rfl (SrcA.ownE rfl rfl rfl) rfl rfl rfl rfl h_73 ?_
      refine PL.nm (.os 5 0 xs72.length) [some ⟨.mx [sL r70.2.b, iA r70.2.p], 68, 0⟩, some ⟨.mx [.t (.v (.slice none 0 0)), iA (0 : Int)], 28, 0⟩, some ⟨.mx [.os 3 0 v54.length, iA v53], 28, 0⟩, none, some ⟨.tr (eL [(I_Frame.mk r66.1 false r70.1 r68.1)]), 59, 4⟩, some ⟨.tr (eL xs72), 59, 4⟩] rfl rfl ?_
      refine PL.op rfl (Rd.fieldO rfl rfl) ?_
      refine PL.store rfl rfl rfl rfl rfl rfl rfl ?_
      refine PL.nO [some ⟨.mx [sL r70.2.b, iA r70.2.p], 68, 0⟩, some ⟨.mx [.t (.v (.slice none 0 0)), iA (0 : Int)], 28, 0⟩, some ⟨.mx [.os 5 0 xs72.length, iA v53], 28, 0⟩, none, some ⟨.tr (eL [(I_Frame.mk r66.1 false r70.1 r68.1)]), 59, 4⟩, some ⟨.tr (eL xs72), 59, 4⟩] rfl ?_
      refine PL.nil ?_
      refine inA_n ?_
      refine thA_n ?_
      refine PC.seq ?_
      refine PC.region ?_
      refine PL.op rfl (Rd.loadBox rfl rfl rfl) ?_
      refine PL.store rfl rfl rfl rfl rfl rfl rfl ?_
      refine PL.nO [some ⟨.mx [sL r70.2.b, iA r70.2.p], 68, 0⟩, some ⟨.mx [.os 5 0 xs72.length, iA v53], 28, 0⟩, some ⟨.mx [.os 5 0 xs72.length, iA v53], 28, 0⟩, none, some ⟨.tr (eL [(I_Frame.mk r66.1 false r70.1 r68.1)]), 59, 4⟩, some ⟨.tr (eL xs72), 59, 4⟩] rfl ?_
      refine PL.nil ?_
      refine thA_n ?_
      refine PC.ret ?_
      obtain rfl := some_in hh0
      exact FinA.mk (r := .agg [.os 1 0 ((((I_Buffer.mk xs72 v53), r70.2).1.frames).length), iA (((I_Buffer.mk xs72 v53), r70.2).1.forced)]) (bl := [⟨.mx [sL (((I_Buffer.mk xs72 v53), r70.2).2.b), iA (((I_Buffer.mk xs72 v53), r70.2).2.p)], 68, 0⟩, ⟨.tr (eL (((I_Buffer.mk xs72 v53), r70.2).1.frames)), 59, 4⟩]) [some 0, some 5] (.inl rfl) rfl (rl := [.cell 2 28]) (.cellN rfl rfl rfl rfl .nil) rfl rfl rfl (.aggL ⟨.os rfl, .t _, trivial⟩) ⟨⟨_, rfl, rfl, rfl, .mx ⟨.t _, .t _, trivial⟩⟩, ⟨_, rfl, rfl, rfl, .tr _⟩, trivial⟩ ⟨rfl, rfl⟩
    refine PT.seg ?_
    refine PR.callM false [0] (w_S_reader_one N r60.2 [(0 : Int), (5 : Int), (6 : Int), (-1 : Int)] r66 h_67) rfl Try.call39 rfl ⟨.op rfl, .t _, trivial⟩ rfl ⟨⟨_, rfl, rfl, rfl, .mx ⟨.t _, .t _, trivial⟩⟩, trivial⟩ (fun h => by cases h) rfl ?_
    refine PR.nm (iA r66.1) [some ⟨.mx [sL r66.2.b, iA r66.2.p], 68, 0⟩, some ⟨.mx [.t (.v (.slice none 0 0)), iA (0 : Int)], 28, 0⟩, some ⟨.mx [.os 3 0 v54.length, iA v53], 28, 0⟩, some ⟨.tr (eL v54), 59, 4⟩] rfl rfl ?_
    refine PR.nil ?_
    refine PT.fork ?_ ?_
    · refine PT.seg ?_
      refine PR.callM false [0] (w_S_reader_one N r66.2 [(0 : Int), (7 : Int), (10000 : Int)] r68 h_69) rfl Try.call39 rfl ⟨.op rfl, .t _, trivial⟩ rfl ⟨⟨_, rfl, rfl, rfl, .mx ⟨.t _, .t _, trivial⟩⟩, trivial⟩ (fun h => by cases h) rfl ?_
      refine PR.nm (iA r68.1) [some ⟨.mx [sL r68.2.b, iA r68.2.p], 68, 0⟩, some ⟨.mx [.t (.v (.slice none 0 0)), iA (0 : Int)], 28, 0⟩, some ⟨.mx [.os 3 0 v54.length, iA v53], 28, 0⟩, some ⟨.tr (eL v54), 59, 4⟩] rfl rfl ?_
      refine PR.er rfl rfl (Er.ints [(0 : Int), (7 : Int), (8 : Int)] rfl rfl (by decide) rfl) ?_
      refine PR.callM false [0] (w_S_reader_one N r68.2 [(0 : Int), (7 : Int), (8 : Int)] r70 h_71) rfl Try.call39 rfl ⟨.op rfl, .t _, trivial⟩ rfl ⟨⟨_, rfl, rfl, rfl, .mx ⟨.t _, .t _, trivial⟩⟩, trivial⟩ (fun h => by cases h) rfl ?_
      refine PR.nm (iA r70.1) [some ⟨.mx [sL r70.2.b, iA r70.2.p], 68, 0⟩, some ⟨.mx [.t (.v (.slice none 0 0)), iA (0 : Int)], 28, 0⟩, some ⟨.mx [.os 3 0 v54.length, iA v53], 28, 0⟩, some ⟨.tr (eL v54), 59, 4⟩] rfl rfl ?_
      refine PR.op rfl (Rd.build rfl rfl rfl rfl) ?_
      refine PR.ef rfl rfl (Ef.litM (α := I_Frame) [(I_Frame.mk r66.1 false r70.1 r68.1)] [_] rfl rfl (by decide) rfl rfl rfl rfl) ?_
      refine PR.nm (.os 4 0 1) [some ⟨.mx [sL r70.2.b, iA r70.2.p], 68, 0⟩, some ⟨.mx [.t (.v (.slice none 0 0)), iA (0 : Int)], 28, 0⟩, some ⟨.mx [.os 3 0 v54.length, iA v53], 28, 0⟩, some ⟨.tr (eL v54), 59, 4⟩, some ⟨.tr (eL [(I_Frame.mk r66.1 false r70.1 r68.1)]), 59, 4⟩] rfl rfl ?_
      refine PR.nil ?_
      refine PT.done ?_
      refine PL.apM hs rfl rfl rfl rfl (SrcA.ownE rfl rfl rfl) rfl rfl rfl rfl h_73 ?_
      refine PL.nm (.os 5 0 xs72.length) [some ⟨.mx [sL r70.2.b, iA r70.2.p], 68, 0⟩, some ⟨.mx [.t (.v (.slice none 0 0)), iA (0 : Int)], 28, 0⟩, some ⟨.mx [.os 3 0 v54.length, iA v53], 28, 0⟩, none, some ⟨.tr (eL [(I_Frame.mk r66.1 false r70.1 r68.1)]), 59, 4⟩, some ⟨.tr (eL xs72), 59, 4⟩] rfl rfl ?_
      refine PL.op rfl (Rd.fieldO rfl rfl) ?_
      refine PL.store rfl rfl rfl rfl rfl rfl rfl ?_
      refine PL.nO [some ⟨.mx [sL r70.2.b, iA r70.2.p], 68, 0⟩, some ⟨.mx [.t (.v (.slice none 0 0)), iA (0 : Int)], 28, 0⟩, some ⟨.mx [.os 5 0 xs72.length, iA v53], 28, 0⟩, none, some ⟨.tr (eL [(I_Frame.mk r66.1 false r70.1 r68.1)]), 59, 4⟩, some ⟨.tr (eL xs72), 59, 4⟩] rfl ?_
      refine PL.nil ?_
      refine inA_n ?_
      refine thA_n ?_
      refine PC.seq ?_
      refine PC.region ?_
      refine PL.op rfl (Rd.loadBox rfl rfl rfl) ?_
      refine PL.store rfl rfl rfl rfl rfl rfl rfl ?_
      refine PL.nO [some ⟨.mx [sL r70.2.b, iA r70.2.p], 68, 0⟩, some ⟨.mx [.os 5 0 xs72.length, iA v53], 28, 0⟩, some ⟨.mx [.os 5 0 xs72.length, iA v53], 28, 0⟩, none, some ⟨.tr (eL [(I_Frame.mk r66.1 false r70.1 r68.1)]), 59, 4⟩, some ⟨.tr (eL xs72), 59, 4⟩] rfl ?_
      refine PL.nil ?_
      refine thA_n ?_
      refine PC.ret ?_
      obtain rfl := some_in hh0
      exact FinA.mk (r := .agg [.os 1 0 ((((I_Buffer.mk xs72 v53), r70.2).1.frames).length), iA (((I_Buffer.mk xs72 v53), r70.2).1.forced)]) (bl := [⟨.mx [sL (((I_Buffer.mk xs72 v53), r70.2).2.b), iA (((I_Buffer.mk xs72 v53), r70.2).2.p)], 68, 0⟩, ⟨.tr (eL (((I_Buffer.mk xs72 v53), r70.2).1.frames)), 59, 4⟩]) [some 0, some 5] (.inl rfl) rfl (rl := [.cell 2 28]) (.cellN rfl rfl rfl rfl .nil) rfl rfl rfl (.aggL ⟨.os rfl, .t _, trivial⟩) ⟨⟨_, rfl, rfl, rfl, .mx ⟨.t _, .t _, trivial⟩⟩, ⟨_, rfl, rfl, rfl, .tr _⟩, trivial⟩ ⟨rfl, rfl⟩
    refine PT.seg ?_
    refine PR.er rfl rfl (Er.ints [(0 : Int), (7 : Int), (8 : Int)] rfl rfl (by decide) rfl) ?_
    refine PR.callM false [0] (w_S_reader_one N r66.2 [(0 : Int), (7 : Int), (10000 : Int)] r68 h_69) rfl Try.call39 rfl ⟨.op rfl, .t _, trivial⟩ rfl ⟨⟨_, rfl, rfl, rfl, .mx ⟨.t _, .t _, trivial⟩⟩, trivial⟩ (fun h => by cases h) rfl ?_
    refine PR.nm (iA r68.1) [some ⟨.mx [sL r68.2.b, iA r68.2.p], 68, 0⟩, some ⟨.mx [.t (.v (.slice none 0 0)), iA (0 : Int)], 28, 0⟩, some ⟨.mx [.os 3 0 v54.length, iA v53], 28, 0⟩, some ⟨.tr (eL v54), 59, 4⟩] rfl rfl ?_
    refine PR.callM false [0] (w_S_reader_one N r68.2 [(0 : Int), (7 : Int), (8 : Int)] r70 h_71) rfl Try.call39 rfl ⟨.op rfl, .t _, trivial⟩ rfl ⟨⟨_, rfl, rfl, rfl, .mx ⟨.t _, .t _, trivial⟩⟩, trivial⟩ (fun h => by cases h) rfl ?_
    refine PR.nm (iA r70.1) [some ⟨.mx [sL r70.2.b, iA r70.2.p], 68, 0⟩, some ⟨.mx [.t (.v (.slice none 0 0)), iA (0 : Int)], 28, 0⟩, some ⟨.mx [.os 3 0 v54.length, iA v53], 28, 0⟩, some ⟨.tr (eL v54), 59, 4⟩] rfl rfl ?_
    refine PR.op rfl (Rd.build rfl rfl rfl rfl) ?_
    refine PR.ef rfl rfl (Ef.litM (α := I_Frame) [(I_Frame.mk r66.1 false r70.1 r68.1)] [_] rfl rfl (by decide) rfl rfl rfl rfl) ?_
    refine PR.nm (.os 4 0 1) [some ⟨.mx [sL r70.2.b, iA r70.2.p], 68, 0⟩, some ⟨.mx [.t (.v (.slice none 0 0)), iA (0 : Int)], 28, 0⟩, some ⟨.mx [.os 3 0 v54.length, iA v53], 28, 0⟩, some ⟨.tr (eL v54), 59, 4⟩, some ⟨.tr (eL [(I_Frame.mk r66.1 false r70.1 r68.1)]), 59, 4⟩] rfl rfl ?_
    refine PR.nil ?_
    refine PT.done ?_
    refine PL.apM hs rfl rfl rfl rfl (SrcA.ownE rfl rfl rfl) rfl rfl rfl rfl h_73 ?_
    refine PL.nm (.os 5 0 xs72.length) [some ⟨.mx [sL r70.2.b, iA r70.2.p], 68, 0⟩, some ⟨.mx [.t (.v (.slice none 0 0)), iA (0 : Int)], 28, 0⟩, some ⟨.mx [.os 3 0 v54.length, iA v53], 28, 0⟩, none, some ⟨.tr (eL [(I_Frame.mk r66.1 false r70.1 r68.1)]), 59, 4⟩, some ⟨.tr (eL xs72), 59, 4⟩] rfl rfl ?_
    refine PL.op rfl (Rd.fieldO rfl rfl) ?_
    refine PL.store rfl rfl rfl rfl rfl rfl rfl ?_
    refine PL.nO [some ⟨.mx [sL r70.2.b, iA r70.2.p], 68, 0⟩, some ⟨.mx [.t (.v (.slice none 0 0)), iA (0 : Int)], 28, 0⟩, some ⟨.mx [.os 5 0 xs72.length, iA v53], 28, 0⟩, none, some ⟨.tr (eL [(I_Frame.mk r66.1 false r70.1 r68.1)]), 59, 4⟩, some ⟨.tr (eL xs72), 59, 4⟩] rfl ?_
    refine PL.nil ?_
    refine inA_n ?_
    refine thA_n ?_
    refine PC.seq ?_
    refine PC.region ?_
    refine PL.op rfl (Rd.loadBox rfl rfl rfl) ?_
    refine PL.store rfl rfl rfl rfl rfl rfl rfl ?_
    refine PL.nO [some ⟨.mx [sL r70.2.b, iA r70.2.p], 68, 0⟩, some ⟨.mx [.os 5 0 xs72.length, iA v53], 28, 0⟩, some ⟨.mx [.os 5 0 xs72.length, iA v53], 28, 0⟩, none, some ⟨.tr (eL [(I_Frame.mk r66.1 false r70.1 r68.1)]), 59, 4⟩, some ⟨.tr (eL xs72), 59, 4⟩] rfl ?_
    refine PL.nil ?_
    refine thA_n ?_
    refine PC.ret ?_
    obtain rfl := some_in hh0
    exact FinA.mk (r := .agg [.os 1 0 ((((I_Buffer.mk xs72 v53), r70.2).1.frames).length), iA (((I_Buffer.mk xs72 v53), r70.2).1.forced)]) (bl := [⟨.mx [sL (((I_Buffer.mk xs72 v53), r70.2).2.b), iA (((I_Buffer.mk xs72 v53), r70.2).2.p)], 68, 0⟩, ⟨.tr (eL (((I_Buffer.mk xs72 v53), r70.2).1.frames)), 59, 4⟩]) [some 0, some 5] (.inl rfl) rfl (rl := [.cell 2 28]) (.cellN rfl rfl rfl rfl .nil) rfl rfl rfl (.aggL ⟨.os rfl, .t _, trivial⟩) ⟨⟨_, rfl, rfl, rfl, .mx ⟨.t _, .t _, trivial⟩⟩, ⟨_, rfl, rfl, rfl, .tr _⟩, trivial⟩ ⟨rfl, rfl⟩
  refine PT.seg ?_
  refine PR.er rfl rfl (Er.ints [(0 : Int), (5 : Int), (6 : Int), (-1 : Int)] rfl rfl (by decide) rfl) ?_
  refine PR.nil ?_
  refine PT.fork ?_ ?_
  · refine PT.seg ?_
    refine PR.callM false [0] (w_S_reader_one N r60.2 [(0 : Int), (5 : Int), (6 : Int), (-1 : Int)] r66 h_67) rfl Try.call39 rfl ⟨.op rfl, .t _, trivial⟩ rfl ⟨⟨_, rfl, rfl, rfl, .mx ⟨.t _, .t _, trivial⟩⟩, trivial⟩ (fun h => by cases h) rfl ?_
    refine PR.nm (iA r66.1) [some ⟨.mx [sL r66.2.b, iA r66.2.p], 68, 0⟩, some ⟨.mx [.t (.v (.slice none 0 0)), iA (0 : Int)], 28, 0⟩, some ⟨.mx [.os 3 0 v54.length, iA v53], 28, 0⟩, some ⟨.tr (eL v54), 59, 4⟩] rfl rfl ?_
    refine PR.nil ?_
    refine PT.fork ?_ ?_
    rotate_left
    · refine PT.seg ?_
      refine PR.er rfl rfl (Er.ints [(0 : Int), (7 : Int), (8 : Int)] rfl rfl (by decide) rfl) ?_
      refine PR.er rfl rfl (Er.ints [(0 : Int), (7 : Int), (10000 : Int)] rfl rfl (by decide) rfl) ?_
      refine PR.callM false [0] (w_S_reader_one N r66.2 [(0 : Int), (7 : Int), (10000 : Int)] r68 h_69) rfl Try.call39 rfl ⟨.op rfl, .t _, trivial⟩ rfl ⟨⟨_, rfl, rfl, rfl, .mx ⟨.t _, .t _, trivial⟩⟩, trivial⟩ (fun h => by cases h) rfl ?_
      refine PR.nm (iA r68.1) [some ⟨.mx [sL r68.2.b, iA r68.2.p], 68, 0⟩, some ⟨.mx [.t (.v (.slice none 0 0)), iA (0 : Int)], 28, 0⟩, some ⟨.mx [.os 3 0 v54.length, iA v53], 28, 0⟩, some ⟨.tr (eL v54), 59, 4⟩] rfl rfl ?_
      refine PR.callM false [0] (w_S_reader_one N r68.2 [(0 : Int), (7 : Int), (8 : Int)] r70 h_71) rfl Try.call39 rfl ⟨.op rfl, .t _, trivial⟩ rfl ⟨⟨_, rfl, rfl, rfl, .mx ⟨.t _, .t _, trivial⟩⟩, trivial⟩ (fun h => by cases h) rfl ?_
      refine PR.nm (iA r70.1) [some ⟨.mx [sL r70.2.b, iA r70.2.p], 68, 0⟩, some ⟨.mx [.t (.v (.slice none 0 0)), iA (0 : Int)], 28, 0⟩, some ⟨.mx [.os 3 0 v54.length, iA v53], 28, 0⟩, some ⟨.tr (eL v54), 59, 4⟩] rfl rfl ?_
      refine PR.op rfl (Rd.build rfl rfl rfl rfl) ?_
      refine PR.ef rfl rfl (Ef.litM (α := I_Frame) [(I_Frame.mk r66.1 false r70.1 r68.1)] [_] rfl rfl (by decide) rfl rfl rfl rfl) ?_
      refine PR.nm (.os 4 0 1) [some ⟨.mx [sL r70.2.b, iA r70.2.p], 68, 0⟩, some ⟨.mx [.t (.v (.slice none 0 0)), iA (0 : Int)], 28, 0⟩, some ⟨.mx [.os 3 0 v54.length, iA v53], 28, 0⟩, some ⟨.tr (eL v54), 59, 4⟩, some ⟨.tr (eL [(I_Frame.mk r66.1 false r70.1 r68.1)]), 59, 4⟩] rfl rfl ?_
      refine PR.nil ?_
      refine PT.done ?_
      refine PL.apM hs rfl rfl rfl rfl (SrcA.ownE rfl rfl rfl) rfl rfl rfl rfl h_73 ?_
      refine PL.nm (.os 5 0 xs72.length) [some ⟨.mx [sL r70.2.b, iA r70.2.p], 68, 0⟩, some ⟨.mx [.t (.v (.slice none 0 0)), iA (0 : Int)], 28, 0⟩, some ⟨.mx [.os 3 0 v54.length, iA v53], 28, 0⟩, none, some ⟨.tr (eL [(I_Frame.mk r66.1 false r70.1 r68.1)]), 59, 4⟩, some ⟨.tr (eL xs72), 59, 4⟩] rfl rfl ?_
      refine PL.op rfl (Rd.fieldO rfl rfl) ?_
      refine PL.store rfl rfl rfl rfl rfl rfl rfl ?_
      refine PL.nO [some ⟨.mx [sL r70.2.b, iA r70.2.p], 68, 0⟩, some ⟨.mx [.t (.v (.slice none 0 0)), iA (0 : Int)], 28, 0⟩, some ⟨.mx [.os 5 0 xs72.length, iA v53], 28, 0⟩, none, some ⟨.tr (eL [(I_Frame.mk r66.1 false r70.1 r68.1)]), 59, 4⟩, some ⟨.tr (eL xs72), 59, 4⟩] rfl ?_
      refine PL.nil ?_
      refine inA_n ?_
      refine thA_n ?_
      refine PC.seq ?_
      refine PC.region ?_
      refine PL.op rfl (Rd.loadBox rfl rfl rfl) ?_
      refine PL.store rfl rfl rfl rfl rfl rfl rfl ?_
      refine PL.nO [some ⟨.mx [sL r70.2.b, iA r70.2.p], 68, 0⟩, some ⟨.mx [.os 5 0 xs72.length, iA v53], 28, 0⟩, some ⟨.mx [.os 5 0 xs72.length, iA v53], 28, 0⟩, none, some ⟨.tr (eL [(I_Frame.mk r66.1 false r70.1 r68.1)]), 59, 4⟩, some ⟨.tr (eL xs72), 59, 4⟩] rfl ?_
      refine PL.nil ?_
      refine thA_n ?_
      refine PC.ret ?_
      obtain rfl := some_in hh0
      exact FinA.mk (r := .agg [.os 1 0 ((((I_Buffer.mk xs72 v53), r70.2).1.frames).length), iA (((I_Buffer.mk xs72 v53), r70.2).1.forced)]) (bl := [⟨.mx [sL (((I_Buffer.mk xs72 v53), r70.2).2.b), iA (((I_Buffer.mk xs72 v53), r70.2).2.p)], 68, 0⟩, ⟨.tr (eL (((I_Buffer.mk xs72 v53), r70.2).1.frames)), 59, 4⟩]) [some 0, some 5] (.inl rfl) rfl (rl := [.cell 2 28]) (.cellN rfl rfl rfl rfl .nil) rfl rfl rfl (.aggL ⟨.os rfl, .t _, trivial⟩) ⟨⟨_, rfl, rfl, rfl, .mx ⟨.t _, .t _, trivial⟩⟩, ⟨_, rfl, rfl, rfl, .tr _⟩, trivial⟩ ⟨rfl, rfl⟩
    refine PT.seg ?_
    refine PR.er rfl rfl (Er.ints [(0 : Int), (7 : Int), (10000 : Int)] rfl rfl (by decide) rfl) ?_
    refine PR.nil ?_
    refine PT.fork ?_ ?_
    · refine PT.seg ?_
      refine PR.callM false [0] (w_S_reader_one N r66.2 [(0 : Int), (7 : Int), (10000 : Int)] r68 h_69) rfl Try.call39 rfl ⟨.op rfl, .t _, trivial⟩ rfl ⟨⟨_, rfl, rfl, rfl, .mx ⟨.t _, .t _, trivial⟩⟩, trivial⟩ (fun h => by cases h) rfl ?_
      refine PR.nm (iA r68.1) [some ⟨.mx [sL r68.2.b, iA r68.2.p], 68, 0⟩, some ⟨.mx [.t (.v (.slice none 0 0)), iA (0 : Int)], 28, 0⟩, some ⟨.mx [.os 3 0 v54.length, iA v53], 28, 0⟩, some ⟨.tr (eL v54), 59, 4⟩] rfl rfl ?_
      refine PR.er rfl rfl (Er.ints [(0 : Int), (7 : Int), (8 : Int)] rfl rfl (by decide) rfl) ?_
      refine PR.callM false [0] (w_S_reader_one N r68.2 [(0 : Int), (7 : Int), (8 : Int)] r70 h_71) rfl Try.call39 rfl ⟨.op rfl, .t _, trivial⟩ rfl ⟨⟨_, rfl, rfl, rfl, .mx ⟨.t _, .t _, trivial⟩⟩, trivial⟩ (fun h => by cases h) rfl ?_
      refine PR.nm (iA r70.1) [some ⟨.mx [sL r70.2.b, iA r70.2.p], 68, 0⟩, some ⟨.mx [.t (.v (.slice none 0 0)), iA (0 : Int)], 28, 0⟩, some ⟨.mx [.os 3 0 v54.length, iA v53], 28, 0⟩, some ⟨.tr (eL v54), 59, 4⟩] rfl rfl ?_
      refine PR.op rfl (Rd.build rfl rfl rfl rfl) ?_
      refine PR.ef rfl rfl (Ef.litM (α := I_Frame) [(I_Frame.mk r66.1 false r70.1 r68.1)] [_] rfl rfl (by decide) rfl rfl rfl rfl) ?_
      refine PR.nm (.os 4 0 1) [some ⟨.mx [sL r70.2.b, iA r70.2.p], 68, 0⟩, some ⟨.mx [.t (.v (.slice none 0 0)), iA (0 : Int)], 28, 0⟩, some ⟨.mx [.os 3 0 v54.length, iA v53], 28, 0⟩, some ⟨.tr (eL v54), 59, 4⟩, some ⟨.tr (eL [(I_Frame.mk r66.1 false r70.1 r68.1)]), 59, 4⟩] rfl rfl ?_
      refine PR.nil ?_
      refine PT.done ?_
      refine PL.apM hs rfl rfl rfl rfl (SrcA.ownE rfl rfl rfl) rfl rfl rfl rfl h_73 ?_
      refine PL.nm (.os 5 0 xs72.length) [some ⟨.mx [sL r70.2.b, iA r70.2.p], 68, 0⟩, some ⟨.mx [.t (.v (.slice none 0 0)), iA (0 : Int)], 28, 0⟩, some ⟨.mx [.os 3 0 v54.length, iA v53], 28, 0⟩, none, some ⟨.tr (eL [(I_Frame.mk r66.1 false r70.1 r68.1)]), 59, 4⟩, some ⟨.tr (eL xs72), 59, 4⟩] rfl rfl ?_
      refine PL.op rfl (Rd.fieldO rfl rfl) ?_
      refine PL.store rfl rfl rfl rfl rfl rfl rfl ?_
      refine PL.nO [some ⟨.mx [sL r70.2.b, iA r70.2.p], 68, 0⟩, some ⟨.mx [.t (.v (.slice none 0 0)), iA (0 : Int)], 28, 0⟩, some ⟨.mx [.os 5 0 xs72.length, iA v53], 28, 0⟩, none, some ⟨.tr (eL [(I_Frame.mk r66.1 false r70.1 r68.1)]), 59, 4⟩, some ⟨.tr (eL xs72), 59, 4⟩] rfl ?_
      refine PL.nil ?_
      refine inA_n ?_
      refine thA_n ?_
      refine PC.seq ?_
      refine PC.region ?_
      refine PL.op rfl (Rd.loadBox rfl rfl rfl) ?_
      refine PL.store rfl rfl rfl rfl rfl rfl rfl ?_
      refine PL.nO [some ⟨.mx [sL r70.2.b, iA r70.2.p], 68, 0⟩, some ⟨.mx [.os 5 0 xs72.length, iA v53], 28, 0⟩, some ⟨.mx [.os 5 0 xs72.length, iA v53], 28, 0⟩, none, some ⟨.tr (eL [(I_Frame.mk r66.1 false r70.1 r68.1)]), 59, 4⟩, some ⟨.tr (eL xs72), 59, 4⟩] rfl ?_
      refine PL.nil ?_
      refine thA_n ?_
      refine PC.ret ?_
      obtain rfl := some_in hh0
      exact FinA.mk (r := .agg [.os 1 0 ((((I_Buffer.mk xs72 v53), r70.2).1.frames).length), iA (((I_Buffer.mk xs72 v53), r70.2).1.forced)]) (bl := [⟨.mx [sL (((I_Buffer.mk xs72 v53), r70.2).2.b), iA (((I_Buffer.mk xs72 v53), r70.2).2.p)], 68, 0⟩, ⟨.tr (eL (((I_Buffer.mk xs72 v53), r70.2).1.frames)), 59, 4⟩]) [some 0, some 5] (.inl rfl) rfl (rl := [.cell 2 28]) (.cellN rfl rfl rfl rfl .nil) rfl rfl rfl (.aggL ⟨.os rfl, .t _, trivial⟩) ⟨⟨_, rfl, rfl, rfl, .mx ⟨.t _, .t _, trivial⟩⟩, ⟨_, rfl, rfl, rfl, .tr _⟩, trivial⟩ ⟨rfl, rfl⟩
    refine PT.seg ?_
    refine PR.er rfl rfl (Er.ints [(0 : Int), (7 : Int), (8 : Int)] rfl rfl (by decide) rfl) ?_
    refine PR.callM false [0] (w_S_reader_one N r66.2 [(0 : Int), (7 : Int), (10000 : Int)] r68 h_69) rfl Try.call39 rfl ⟨.op rfl, .t _, trivial⟩ rfl ⟨⟨_, rfl, rfl, rfl, .mx ⟨.t _, .t _, trivial⟩⟩, trivial⟩ (fun h => by cases h) rfl ?_
    refine PR.nm (iA r68.1) [some ⟨.mx [sL r68.2.b, iA r68.2.p], 68, 0⟩, some ⟨.mx [.t (.v (.slice none 0 0)), iA (0 : Int)], 28, 0⟩, some ⟨.mx [.os 3 0 v54.length, iA v53], 28, 0⟩, some ⟨.tr (eL v54), 59, 4⟩] rfl rfl ?_
    refine PR.callM false [0] (w_S_reader_one N r68.2 [(0 : Int), (7 : Int), (8 : Int)] r70 h_71) rfl Try.call39 rfl ⟨.op rfl, .t _, trivial⟩ rfl ⟨⟨_, rfl, rfl, rfl, .mx ⟨.t _, .t _, trivial⟩⟩, trivial⟩ (fun h => by cases h) rfl ?_
    refine PR.nm (iA r70.1) [some ⟨.mx [sL r70.2.b, iA r70.2.p], 68, 0⟩, some ⟨.mx [.t (.v (.slice none 0 0)), iA (0 : Int)], 28, 0⟩, some ⟨.mx [.os 3 0 v54.length, iA v53], 28, 0⟩, some ⟨.tr (eL v54), 59, 4⟩] rfl rfl ?_
    refine PR.op rfl (Rd.build rfl rfl rfl rfl) ?_
    refine PR.ef rfl rfl (Ef.litM (α := I_Frame) [(I_Frame.mk r66.1 false r70.1 r68.1)] [_] rfl rfl (by decide) rfl rfl rfl rfl) ?_
    refine PR.nm (.os 4 0 1) [some ⟨.mx [sL r70.2.b, iA r70.2.p], 68, 0⟩, some ⟨.mx [.t (.v (.slice none 0 0)), iA (0 : Int)], 28, 0⟩, some ⟨.mx [.os 3 0 v54.length, iA v53], 28, 0⟩, some ⟨.tr (eL v54), 59, 4⟩, some ⟨.tr (eL [(I_Frame.mk r66.1 false r70.1 r68.1)]), 59, 4⟩] rfl rfl ?_
    refine PR.nil ?_
    refine PT.done ?_
    refine PL.apM hs rfl rfl rfl rfl (SrcA.ownE rfl rfl rfl) rfl rfl rfl rfl h_73 ?_
    refine PL.nm (.os 5 0 xs72.length) [some ⟨.mx [sL r70.2.b, iA r70.2.p], 68, 0⟩, some ⟨.mx [.t (.v (.slice none 0 0)), iA (0 : Int)], 28, 0⟩, some ⟨.mx [.os 3 0 v54.length, iA v53], 28, 0⟩, none, some ⟨.tr (eL [(I_Frame.mk r66.1 false r70.1 r68.1)]), 59, 4⟩, some ⟨.tr (eL xs72), 59, 4⟩] rfl rfl ?_
    refine PL.op rfl (Rd.fieldO rfl rfl) ?_
    refine PL.store rfl rfl rfl rfl rfl rfl rfl ?_
    refine PL.nO [some ⟨.mx [sL r70.2.b, iA r70.2.p], 68, 0⟩, some ⟨.mx [.t (.v (.slice none 0 0)), iA (0 : Int)], 28, 0⟩, some ⟨.mx [.os 5 0 xs72.length, iA v53], 28, 0⟩, none, some ⟨.tr (eL [(I_Frame.mk r66.1 false r70.1 r68.1)]), 59, 4⟩, some ⟨.tr (eL xs72), 59, 4⟩] rfl ?_
    refine PL.nil ?_
    refine inA_n ?_
    refine thA_n ?_
    refine PC.seq ?_
    refine PC.region ?_
    refine PL.op rfl (Rd.loadBox rfl rfl rfl) ?_
    refine PL.store rfl rfl rfl rfl rfl rfl rfl ?_
    refine PL.nO [some ⟨.mx [sL r70.2.b, iA r70.2.p], 68, 0⟩, some ⟨.mx [.os 5 0 xs72.length, iA v53], 28, 0⟩, some ⟨.mx [.os 5 0 xs72.length, iA v53], 28, 0⟩, none, some ⟨.tr (eL [(I_Frame.mk r66.1 false r70.1 r68.1)]), 59, 4⟩, some ⟨.tr (eL xs72), 59, 4⟩] rfl ?_
    refine PL.nil ?_
    refine thA_n ?_
    refine PC.ret ?_
    obtain rfl := some_in hh0
    exact FinA.mk (r := .agg [.os 1 0 ((((I_Buffer.mk xs72 v53), r70.2).1.frames).length), iA (((I_Buffer.mk xs72 v53), r70.2).1.forced)]) (bl := [⟨.mx [sL (((I_Buffer.mk xs72 v53), r70.2).2.b), iA (((I_Buffer.mk xs72 v53), r70.2).2.p)], 68, 0⟩, ⟨.tr (eL (((I_Buffer.mk xs72 v53), r70.2).1.frames)), 59, 4⟩]) [some 0, some 5] (.inl rfl) rfl (rl := [.cell 2 28]) (.cellN rfl rfl rfl rfl .nil) rfl rfl rfl (.aggL ⟨.os rfl, .t _, trivial⟩) ⟨⟨_, rfl, rfl, rfl, .mx ⟨.t _, .t _, trivial⟩⟩, ⟨_, rfl, rfl, rfl, .tr _⟩, trivial⟩ ⟨rfl, rfl⟩
  refine PT.fork ?_ ?_
  rotate_left
  · refine PT.seg ?_
    refine PR.er rfl rfl (Er.ints [(0 : Int), (7 : Int), (8 : Int)] rfl rfl (by decide) rfl) ?_
    refine PR.nil ?_
    refine PT.fork ?_ ?_
    · refine PT.seg ?_
      refine PR.callM false [0] (w_S_reader_one N r60.2 [(0 : Int), (5 : Int), (6 : Int), (-1 : Int)] r66 h_67) rfl Try.call39 rfl ⟨.op rfl, .t _, trivial⟩ rfl ⟨⟨_, rfl, rfl, rfl, .mx ⟨.t _, .t _, trivial⟩⟩, trivial⟩ (fun h => by cases h) rfl ?_
      refine PR.nm (iA r66.1) [some ⟨.mx [sL r66.2.b, iA r66.2.p], 68, 0⟩, some ⟨.mx [.t (.v (.slice none 0 0)), iA (0 : Int)], 28, 0⟩, some ⟨.mx [.os 3 0 v54.length, iA v53], 28, 0⟩, some ⟨.tr (eL v54), 59, 4⟩] rfl rfl ?_
      refine PR.er rfl rfl (Er.ints [(0 : Int), (7 : Int), (10000 : Int)] rfl rfl (by decide) rfl) ?_
      refine PR.callM false [0] (w_S_reader_one N r66.2 [(0 : Int), (7 : Int), (10000 : Int)] r68 h_69) rfl Try.call39 rfl ⟨.op rfl, .t _, trivial⟩ rfl ⟨⟨_, rfl, rfl, rfl, .mx ⟨.t _, .t _, trivial⟩⟩, trivial⟩ (fun h => by cases h) rfl ?_
      refine PR.nm (iA r68.1) [some ⟨.mx [sL r68.2.b, iA r68.2.p], 68, 0⟩, some ⟨.mx [.t (.v (.slice none 0 0)), iA (0 : Int)], 28, 0⟩, some ⟨.mx [.os 3 0 v54.length, iA v53], 28, 0⟩, some ⟨.tr (eL v54), 59, 4⟩] rfl rfl ?_
      refine PR.callM false [0] (w_S_reader_one N r68.2 [(0 : Int), (7 : Int), (8 : Int)] r70 h_71) rfl Try.call39 rfl ⟨.op rfl, .t _, trivial⟩ rfl ⟨⟨_, rfl, rfl, rfl, .mx ⟨.t _, .t _, trivial⟩⟩, trivial⟩ (fun h => by cases h) rfl ?_
      refine PR.nm (iA r70.1) [some ⟨.mx [sL r70.2.b, iA r70.2.p], 68, 0⟩, some ⟨.mx [.t (.v (.slice none 0 0)), iA (0 : Int)], 28, 0⟩, some ⟨.mx [.os 3 0 v54.length, iA v53], 28, 0⟩, some ⟨.tr (eL v54), 59, 4⟩] rfl rfl ?_
      refine PR.op rfl (Rd.build rfl rfl rfl rfl) ?_
      refine PR.ef rfl rfl (Ef.litM (α := I_Frame) [(I_Frame.mk r66.1 false r70.1 r68.1)] [_] rfl rfl (by decide) rfl rfl rfl rfl) ?_
      refine PR.nm (.os 4 0 1) [some ⟨.mx [sL r70.2.b, iA r70.2.p], 68, 0⟩, some ⟨.mx [.t (.v (.slice none 0 0)), iA (0 : Int)], 28, 0⟩, some ⟨.mx [.os 3 0 v54.length, iA v53], 28, 0⟩, some ⟨.tr (eL v54), 59, 4⟩, some ⟨.tr (eL [(I_Frame.mk r66.1 false r70.1 r68.1)]), 59, 4⟩] rfl rfl ?_
      refine PR.nil ?_
      refine PT.done ?_
      refine PL.apM hs rfl rfl rfl rfl (SrcA.ownE rfl rfl rfl) rfl rfl rfl rfl h_73 ?_
      refine PL.nm (.os 5 0 xs72.length) [some ⟨.mx [sL r70.2.b, iA r70.2.p], 68, 0⟩, some ⟨.mx [.t (.v (.slice none 0 0)), iA (0 : Int)], 28, 0⟩, some ⟨.mx [.os 3 0 v54.length, iA v53], 28, 0⟩, none, some ⟨.tr (eL [(I_Frame.mk r66.1 false r70.1 r68.1)]), 59, 4⟩, some ⟨.tr (eL xs72), 59, 4⟩] rfl rfl ?_
      refine PL.op rfl (Rd.fieldO rfl rfl) ?_
      refine PL.store rfl rfl rfl rfl rfl rfl rfl ?_
      refine PL.nO [some ⟨.mx [sL r70.2.b, iA r70.2.p], 68, 0⟩, some ⟨.mx [.t (.v (.slice none 0 0)), iA (0 : Int)], 28, 0⟩, some ⟨.mx [.os 5 0 xs72.length, iA v53], 28, 0⟩, none, some ⟨.tr (eL [(I_Frame.mk r66.1 false r70.1 r68.1)]), 59, 4⟩, some ⟨.tr (eL xs72), 59, 4⟩] rfl ?_
      refine PL.nil ?_
      refine inA_n ?_
      refine thA_n ?_
      refine PC.seq ?_
      refine PC.region ?_
      refine PL.op rfl (Rd.loadBox rfl rfl rfl) ?_
      refine PL.store rfl rfl rfl rfl rfl rfl rfl ?_
      refine PL.nO [some ⟨.mx [sL r70.2.b, iA r70.2.p], 68, 0⟩, some ⟨.mx [.os 5 0 xs72.length, iA v53], 28, 0⟩, some ⟨.mx [.os 5 0 xs72.length, iA v53], 28, 0⟩, none, some ⟨.tr (eL [(I_Frame.mk r66.1 false r70.1 r68.1)]), 59, 4⟩, some ⟨.tr (eL xs72), 59, 4⟩] rfl ?_
      refine PL.nil ?_
      refine thA_n ?_
      refine PC.ret ?_
      obtain rfl := some_in hh0
      exact FinA.mk (r := .agg [.os 1 0 ((((I_Buffer.mk xs72 v53), r70.2).1.frames).length), iA (((I_Buffer.mk xs72 v53), r70.2).1.forced)]) (bl := [⟨.mx [sL (((I_Buffer.mk xs72 v53), r70.2).2.b), iA (((I_Buffer.mk xs72 v53), r70.2).2.p)], 68, 0⟩, ⟨.tr (eL (((I_Buffer.mk xs72 v53), r70.2).1.frames)), 59, 4⟩]) [some 0, some 5] (.inl rfl) rfl (rl := [.cell 2 28]) (.cellN rfl rfl rfl rfl .nil) rfl rfl rfl (.aggL ⟨.os rfl, .t _, trivial⟩) ⟨⟨_, rfl, rfl, rfl, .mx ⟨.t _, .t _, trivial⟩⟩, ⟨_, rfl, rfl, rfl, .tr _⟩, trivial⟩ ⟨rfl, rfl⟩
    refine PT.seg ?_
    refine PR.er rfl rfl (Er.ints [(0 : Int), (7 : Int), (10000 : Int)] rfl rfl (by decide) rfl) ?_
    refine PR.callM false [0] (w_S_reader_one N r60.2 [(0 : Int), (5 : Int), (6 : Int), (-1 : Int)] r66 h_67) rfl Try.call39 rfl ⟨.op rfl, .t _, trivial⟩ rfl ⟨⟨_, rfl, rfl, rfl, .mx ⟨.t _, .t _, trivial⟩⟩, trivial⟩ (fun h => by cases h) rfl ?_
    refine PR.nm (iA r66.1) [some ⟨.mx [sL r66.2.b, iA r66.2.p], 68, 0⟩, some ⟨.mx [.t (.v (.slice none 0 0)), iA (0 : Int)], 28, 0⟩, some ⟨.mx [.os 3 0 v54.length, iA v53], 28, 0⟩, some ⟨.tr (eL v54), 59, 4⟩] rfl rfl ?_
    refine PR.callM false [0] (w_S_reader_one N r66.2 [(0 : Int), (7 : Int), (10000 : Int)] r68 h_69) rfl Try.call39 rfl ⟨.op rfl, .t _, trivial⟩ rfl ⟨⟨_, rfl, rfl, rfl, .mx ⟨.t _, .t _, trivial⟩⟩, trivial⟩ (fun h => by cases h) rfl ?_
    refine PR.nm (iA r68.1) [some ⟨.mx [sL r68.2.b, iA r68.2.p], 68, 0⟩, some ⟨.mx [.t (.v (.slice none 0 0)), iA (0 : Int)], 28, 0⟩, some ⟨.mx [.os 3 0 v54.length, iA v53], 28, 0⟩, some ⟨.tr (eL v54), 59, 4⟩] rfl rfl ?_
    refine PR.callM false [0] (w_S_reader_one N r68.2 [(0 : Int), (7 : Int), (8 : Int)] r70 h_71) rfl Try.call39 rfl ⟨.op rfl, .t _, trivial⟩ rfl ⟨⟨_, rfl, rfl, rfl, .mx ⟨.t _, .t _, trivial⟩⟩, trivial⟩ (fun h => by cases h) rfl ?_
    refine PR.nm (iA r70.1) [some ⟨.mx [sL r70.2.b, iA r70.2.p], 68, 0⟩, some ⟨.mx [.t (.v (.slice none 0 0)), iA (0 : Int)], 28, 0⟩, some ⟨.mx [.os 3 0 v54.length, iA v53], 28, 0⟩, some ⟨.tr (eL v54), 59, 4⟩] rfl rfl ?_
    refine PR.op rfl (Rd.build rfl rfl rfl rfl) ?_
    refine PR.ef rfl rfl (Ef.litM (α := I_Frame) [(I_Frame.mk r66.1 false r70.1 r68.1)] [_] rfl rfl (by decide) rfl rfl rfl rfl) ?_
    refine PR.nm (.os 4 0 1) [some ⟨.mx [sL r70.2.b, iA r70.2.p], 68, 0⟩, some ⟨.mx [.t (.v (.slice none 0 0)), iA (0 : Int)], 28, 0⟩, some ⟨.mx [.os 3 0 v54.length, iA v53], 28, 0⟩, some ⟨.tr (eL v54), 59, 4⟩, some ⟨.tr (eL [(I_Frame.mk r66.1 false r70.1 r68.1)]), 59, 4⟩] rfl rfl ?_
    refine PR.nil ?_
    refine PT.done ?_
    refine PL.apM hs rfl rfl rfl rfl (SrcA.ownE rfl rfl rfl) rfl rfl rfl rfl h_73 ?_
    refine PL.nm (.os 5 0 xs72.length) [some ⟨.mx [sL r70.2.b, iA r70.2.p], 68, 0⟩, some ⟨.mx [.t (.v (.slice none 0 0)), iA (0 : Int)], 28, 0⟩, some ⟨.mx [.os 3 0 v54.length, iA v53], 28, 0⟩, none, some ⟨.tr (eL [(I_Frame.mk r66.1 false r70.1 r68.1)]), 59, 4⟩, some ⟨.tr (eL xs72), 59, 4⟩] rfl rfl ?_
    refine PL.op rfl (Rd.fieldO rfl rfl) ?_
    refine PL.store rfl rfl rfl rfl rfl rfl rfl ?_
    refine PL.nO [some ⟨.mx [sL r70.2.b, iA r70.2.p], 68, 0⟩, some ⟨.mx [.t (.v (.slice none 0 0)), iA (0 : Int)], 28, 0⟩, some ⟨.mx [.os 5 0 xs72.length, iA v53], 28, 0⟩, none, some ⟨.tr (eL [(I_Frame.mk r66.1 false r70.1 r68.1)]), 59, 4⟩, some ⟨.tr (eL xs72), 59, 4⟩] rfl ?_
    refine PL.nil ?_
    refine inA_n ?_
    refine thA_n ?_
    refine PC.seq ?_
    refine PC.region ?_
    refine PL.op rfl (Rd.loadBox rfl rfl rfl) ?_
    refine PL.store rfl rfl rfl rfl rfl rfl rfl ?_
    refine PL.nO [some ⟨.mx [sL r70.2.b, iA r70.2.p], 68, 0⟩, some ⟨.mx [.os 5 0 xs72.length, iA v53], 28, 0⟩, some ⟨.mx [.os 5 0 xs72.length, iA v53], 28, 0⟩, none, some ⟨.tr (eL [(I_Frame.mk r66.1 false r70.1 r68.1)]), 59, 4⟩, some ⟨.tr (eL xs72), 59, 4⟩] rfl ?_
    refine PL.nil ?_
    refine thA_n ?_
    refine PC.ret ?_
    obtain rfl := some_in hh0
    exact FinA.mk (r := .agg [.os 1 0 ((((I_Buffer.mk xs72 v53), r70.2).1.frames).length), iA (((I_Buffer.mk xs72 v53), r70.2).1.forced)]) (bl := [⟨.mx [sL (((I_Buffer.mk xs72 v53), r70.2).2.b), iA (((I_Buffer.mk xs72 v53), r70.2).2.p)], 68, 0⟩, ⟨.tr (eL (((I_Buffer.mk xs72 v53), r70.2).1.frames)), 59, 4⟩]) [some 0, some 5] (.inl rfl) rfl (rl := [.cell 2 28]) (.cellN rfl rfl rfl rfl .nil) rfl rfl rfl (.aggL ⟨.os rfl, .t _, trivial⟩) ⟨⟨_, rfl, rfl, rfl, .mx ⟨.t _, .t _, trivial⟩⟩, ⟨_, rfl, rfl, rfl, .tr _⟩, trivial⟩ ⟨rfl, rfl⟩
  refine PT.seg ?_
  refine PR.er rfl rfl (Er.ints [(0 : Int), (7 : Int), (10000 : Int)] rfl rfl (by decide) rfl) ?_
  refine PR.nil ?_
  refine PT.fork ?_ ?_
  rotate_left
  · refine PT.seg ?_
    refine PR.er rfl rfl (Er.ints [(0 : Int), (7 : Int), (8 : Int)] rfl rfl (by decide) rfl) ?_
    refine PR.callM false [0] (w_S_reader_one N r60.2 [(0 : Int), (5 : Int), (6 : Int), (-1 : Int)] r66 h_67) rfl Try.call39 rfl ⟨.op rfl, .t _, trivial⟩ rfl ⟨⟨_, rfl, rfl, rfl, .mx ⟨.t _, .t _, trivial⟩⟩, trivial⟩ (fun h => by cases h) rfl ?_
    refine PR.nm (iA r66.1) [some ⟨.mx [sL r66.2.b, iA r66.2.p], 68, 0⟩, some ⟨.mx [.t (.v (.slice none 0 0)), iA (0 : Int)], 28, 0⟩, some ⟨.mx [.os 3 0 v54.length, iA v53], 28, 0⟩, some ⟨.tr (eL v54), 59, 4⟩] rfl rfl ?_
    refine PR.callM false [0] (w_S_reader_one N r66.2 [(0 : Int), (7 : Int), (10000 : Int)] r68 h_69) rfl Try.call39 rfl ⟨.op rfl, .t _, trivial⟩ rfl ⟨⟨_, rfl, rfl, rfl, .mx ⟨.t _, .t _, trivial⟩⟩, trivial⟩ (fun h => by cases h) rfl ?_
    refine PR.nm (iA r68.1) [some ⟨.mx [sL r68.2.b, iA r68.2.p], 68, 0⟩, some ⟨.mx [.t (.v (.slice none 0 0)), iA (0 : Int)], 28, 0⟩, some ⟨.mx [.os 3 0 v54.length, iA v53], 28, 0⟩, some ⟨.tr (eL v54), 59, 4⟩] rfl rfl ?_
    refine PR.callM false [0] (w_S_reader_one N r68.2 [(0 : Int), (7 : Int), (8 : Int)] r70 h_71) rfl Try.call39 rfl ⟨.op rfl, .t _, trivial⟩ rfl ⟨⟨_, rfl, rfl, rfl, .mx ⟨.t _, .t _, trivial⟩⟩, trivial⟩ (fun h => by cases h) rfl ?_
    refine PR.nm (iA r70.1) [some ⟨.mx [sL r70.2.b, iA r70.2.p], 68, 0⟩, some ⟨.mx [.t (.v (.slice none 0 0)), iA (0 : Int)], 28, 0⟩, some ⟨.mx [.os 3 0 v54.length, iA v53], 28, 0⟩, some ⟨.tr (eL v54), 59, 4⟩] rfl rfl ?_
    refine PR.op rfl (Rd.build rfl rfl rfl rfl) ?_
    refine PR.ef rfl rfl (Ef.litM (α := I_Frame) [(I_Frame.mk r66.1 false r70.1 r68.1)] [_] rfl rfl (by decide) rfl rfl rfl rfl) ?_
    refine PR.nm (.os 4 0 1) [some ⟨.mx [sL r70.2.b, iA r70.2.p], 68, 0⟩, some ⟨.mx [.t (.v (.slice none 0 0)), iA (0 : Int)], 28, 0⟩, some ⟨.mx [.os 3 0 v54.length, iA v53], 28, 0⟩, some ⟨.tr (eL v54), 59, 4⟩, some ⟨.tr (eL [(I_Frame.mk r66.1 false r70.1 r68.1)]), 59, 4⟩] rfl rfl ?_
    refine PR.nil ?_
    refine PT.done ?_
    refine PL.apM hs rfl rfl rfl rfl (SrcA.ownE rfl rfl rfl) rfl rfl rfl rfl h_73 ?_
    refine PL.nm (.os 5 0 xs72.length) [some ⟨.mx [sL r70.2.b, iA r70.2.p], 68, 0⟩, some ⟨.mx [.t (.v (.slice none 0 0)), iA (0 : Int)], 28, 0⟩, some ⟨.mx [.os 3 0 v54.length, iA v53], 28, 0⟩, none, some ⟨.tr (eL [(I_Frame.mk r66.1 false r70.1 r68.1)]), 59, 4⟩, some ⟨.tr (eL xs72), 59, 4⟩] rfl rfl ?_
    refine PL.op rfl (Rd.fieldO rfl rfl) ?_
    refine PL.store rfl rfl rfl rfl rfl rfl rfl ?_
    refine PL.nO [some ⟨.mx [sL r70.2.b, iA r70.2.p], 68, 0⟩, some ⟨.mx [.t (.v (.slice none 0 0)), iA (0 : Int)], 28, 0⟩, some ⟨.mx [.os 5 0 xs72.length, iA v53], 28, 0⟩, none, some ⟨.tr (eL [(I_Frame.mk r66.1 false r70.1 r68.1)]), 59, 4⟩, some ⟨.tr (eL xs72), 59, 4⟩] rfl ?_
    refine PL.nil ?_
    refine inA_n ?_
    refine thA_n ?_
    refine PC.seq ?_
    refine PC.region ?_
    refine PL.op rfl (Rd.loadBox rfl rfl rfl) ?_
    refine PL.store rfl rfl rfl rfl rfl rfl rfl ?_
    refine PL.nO [some ⟨.mx [sL r70.2.b, iA r70.2.p], 68, 0⟩, some ⟨.mx [.os 5 0 xs72.length, iA v53], 28, 0⟩, some ⟨.mx [.os 5 0 xs72.length, iA v53], 28, 0⟩, none, some ⟨.tr (eL [(I_Frame.mk r66.1 false r70.1 r68.1)]), 59, 4⟩, some ⟨.tr (eL xs72), 59, 4⟩] rfl ?_
    refine PL.nil ?_
    refine thA_n ?_
    refine PC.ret ?_
    obtain rfl := some_in hh0
    exact FinA.mk (r := .agg [.os 1 0 ((((I_Buffer.mk xs72 v53), r70.2).1.frames).length), iA (((I_Buffer.mk xs72 v53), r70.2).1.forced)]) (bl := [⟨.mx [sL (((I_Buffer.mk xs72 v53), r70.2).2.b), iA (((I_Buffer.mk xs72 v53), r70.2).2.p)], 68, 0⟩, ⟨.tr (eL (((I_Buffer.mk xs72 v53), r70.2).1.frames)), 59, 4⟩]) [some 0, some 5] (.inl rfl) rfl (rl := [.cell 2 28]) (.cellN rfl rfl rfl rfl .nil) rfl rfl rfl (.aggL ⟨.os rfl, .t _, trivial⟩) ⟨⟨_, rfl, rfl, rfl, .mx ⟨.t _, .t _, trivial⟩⟩, ⟨_, rfl, rfl, rfl, .tr _⟩, trivial⟩ ⟨rfl, rfl⟩
  refine PT.seg ?_
  refine PR.callM false [0] (w_S_reader_one N r60.2 [(0 : Int), (5 : Int), (6 : Int), (-1 : Int)] r66 h_67) rfl Try.call39 rfl ⟨.op rfl, .t _, trivial⟩ rfl ⟨⟨_, rfl, rfl, rfl, .mx ⟨.t _, .t _, trivial⟩⟩, trivial⟩ (fun h => by cases h) rfl ?_
  refine PR.nm (iA r66.1) [some ⟨.mx [sL r66.2.b, iA r66.2.p], 68, 0⟩, some ⟨.mx [.t (.v (.slice none 0 0)), iA (0 : Int)], 28, 0⟩, some ⟨.mx [.os 3 0 v54.length, iA v53], 28, 0⟩, some ⟨.tr (eL v54), 59, 4⟩] rfl rfl ?_
  refine PR.nil ?_
  refine PT.fork ?_ ?_
  · refine PT.seg ?_
    refine PR.callM false [0] (w_S_reader_one N r66.2 [(0 : Int), (7 : Int), (10000 : Int)] r68 h_69) rfl Try.call39 rfl ⟨.op rfl, .t _, trivial⟩ rfl ⟨⟨_, rfl, rfl, rfl, .mx ⟨.t _, .t _, trivial⟩⟩, trivial⟩ (fun h => by cases h) rfl ?_
    refine PR.nm (iA r68.1) [some ⟨.mx [sL r68.2.b, iA r68.2.p], 68, 0⟩, some ⟨.mx [.t (.v (.slice none 0 0)), iA (0 : Int)], 28, 0⟩, some ⟨.mx [.os 3 0 v54.length, iA v53], 28, 0⟩, some ⟨.tr (eL v54), 59, 4⟩] rfl rfl ?_
    refine PR.er rfl rfl (Er.ints [(0 : Int), (7 : Int), (8 : Int)] rfl rfl (by decide) rfl) ?_
    refine PR.callM false [0] (w_S_reader_one N r68.2 [(0 : Int), (7 : Int), (8 : Int)] r70 h_71) rfl Try.call39 rfl ⟨.op rfl, .t _, trivial⟩ rfl ⟨⟨_, rfl, rfl, rfl, .mx ⟨.t _, .t _, trivial⟩⟩, trivial⟩ (fun h => by cases h) rfl ?_
    refine PR.nm (iA r70.1) [some ⟨.mx [sL r70.2.b, iA r70.2.p], 68, 0⟩, some ⟨.mx [.t (.v (.slice none 0 0)), iA (0 : Int)], 28, 0⟩, some ⟨.mx [.os 3 0 v54.length, iA v53], 28, 0⟩, some ⟨.tr (eL v54), 59, 4⟩] rfl rfl ?_
    refine PR.op rfl (Rd.build rfl rfl rfl rfl) ?_
    refine PR.ef rfl rfl (Ef.litM (α := I_Frame) [(I_Frame.mk r66.1 false r70.1 r68.1)] [_] rfl rfl (by decide) rfl rfl rfl rfl) ?_
    refine PR.nm (.os 4 0 1) [some ⟨.mx [sL r70.2.b, iA r70.2.p], 68, 0⟩, some ⟨.mx [.t (.v (.slice none 0 0)), iA (0 : Int)], 28, 0⟩, some ⟨.mx [.os 3 0 v54.length, iA v53], 28, 0⟩, some ⟨.tr (eL v54), 59, 4⟩, some ⟨.tr (eL [(I_Frame.mk r66.1 false r70.1 r68.1)]), 59, 4⟩] rfl rfl ?_
    refine PR.nil ?_
    refine PT.done ?_
    refine PL.apM hs rfl rfl rfl rfl (SrcA.ownE rfl rfl rfl) rfl rfl rfl rfl h_73 ?_
    refine PL.nm (.os 5 0 xs72.length) [some ⟨.mx [sL r70.2.b, iA r70.2.p], 68, 0⟩, some ⟨.mx [.t (.v (.slice none 0 0)), iA (0 : Int)], 28, 0⟩, some ⟨.mx [.os 3 0 v54.length, iA v53], 28, 0⟩, none, some ⟨.tr (eL [(I_Frame.mk r66.1 false r70.1 r68.1)]), 59, 4⟩, some ⟨.tr (eL xs72), 59, 4⟩] rfl rfl ?_
    refine PL.op rfl (Rd.fieldO rfl rfl) ?_
    refine PL.store rfl rfl rfl rfl rfl rfl rfl ?_
    refine PL.nO [some ⟨.mx [sL r70.2.b, iA r70.2.p], 68, 0⟩, some ⟨.mx [.t (.v (.slice none 0 0)), iA (0 : Int)], 28, 0⟩, some ⟨.mx [.os 5 0 xs72.length, iA v53], 28, 0⟩, none, some ⟨.tr (eL [(I_Frame.mk r66.1 false r70.1 r68.1)]), 59, 4⟩, some ⟨.tr (eL xs72), 59, 4⟩] rfl ?_
    refine PL.nil ?_
    refine inA_n ?_
    refine thA_n ?_
    refine PC.seq ?_
    refine PC.region ?_
    refine PL.op rfl (Rd.loadBox rfl rfl rfl) ?_
    refine PL.store rfl rfl rfl rfl rfl rfl rfl ?_
    refine PL.nO [some ⟨.mx [sL r70.2.b, iA r70.2.p], 68, 0⟩, some ⟨.mx [.os 5 0 xs72.length, iA v53], 28, 0⟩, some ⟨.mx [.os 5 0 xs72.length, iA v53], 28, 0⟩, none, some ⟨.tr (eL [(I_Frame.mk r66.1 false r70.1 r68.1)]), 59, 4⟩, some ⟨.tr (eL xs72), 59, 4⟩] rfl ?_
    refine PL.nil ?_
    refine thA_n ?_
    refine PC.ret ?_
    obtain rfl := some_in hh0
    exact FinA.mk (r := .agg [.os 1 0 ((((I_Buffer.mk xs72 v53), r70.2).1.frames).length), iA (((I_Buffer.mk xs72 v53), r70.2).1.forced)]) (bl := [⟨.mx [sL (((I_Buffer.mk xs72 v53), r70.2).2.b), iA (((I_Buffer.mk xs72 v53), r70.2).2.p)], 68, 0⟩, ⟨.tr (eL (((I_Buffer.mk xs72 v53), r70.2).1.frames)), 59, 4⟩]) [some 0, some 5] (.inl rfl) rfl (rl := [.cell 2 28]) (.cellN rfl rfl rfl rfl .nil) rfl rfl rfl (.aggL ⟨.os rfl, .t _, trivial⟩) ⟨⟨_, rfl, rfl, rfl, .mx ⟨.t _, .t _, trivial⟩⟩, ⟨_, rfl, rfl, rfl, .tr _⟩, trivial⟩ ⟨rfl, rfl⟩
  refine PT.seg ?_
  refine PR.er rfl rfl (Er.ints [(0 : Int), (7 : Int), (8 : Int)] rfl rfl (by decide) rfl) ?_
  refine PR.callM false [0] (w_S_reader_one N r66.2 [(0 : Int), (7 : Int), (10000 : Int)] r68 h_69) rfl Try.call39 rfl ⟨.op rfl, .t _, trivial⟩ rfl ⟨⟨_, rfl, rfl, rfl, .mx ⟨.t _, .t _, trivial⟩⟩, trivial⟩ (fun h => by cases h) rfl ?_
  refine PR.nm (iA r68.1) [some ⟨.mx [sL r68.2.b, iA r68.2.p], 68, 0⟩, some ⟨.mx [.t (.v (.slice none 0 0)), iA (0 : Int)], 28, 0⟩, some ⟨.mx [.os 3 0 v54.length, iA v53], 28, 0⟩, some ⟨.tr (eL v54), 59, 4⟩] rfl rfl ?_
  refine PR.callM false [0] (w_S_reader_one N r68.2 [(0 : Int), (7 : Int), (8 : Int)] r70 h_71) rfl Try.call39 rfl ⟨.op rfl, .t _, trivial⟩ rfl ⟨⟨_, rfl, rfl, rfl, .mx ⟨.t _, .t _, trivial⟩⟩, trivial⟩ (fun h => by cases h) rfl ?_
  refine PR.nm (iA r70.1) [some ⟨.mx [sL r70.2.b, iA r70.2.p], 68, 0⟩, some ⟨.mx [.t (.v (.slice none 0 0)), iA (0 : Int)], 28, 0⟩, some ⟨.mx [.os 3 0 v54.length, iA v53], 28, 0⟩, some ⟨.tr (eL v54), 59, 4⟩] rfl rfl ?_
  refine PR.op rfl (Rd.build rfl rfl rfl rfl) ?_
  refine PR.ef rfl rfl (Ef.litM (α := I_Frame) [(I_Frame.mk r66.1 false r70.1 r68.1)] [_] rfl rfl (by decide) rfl rfl rfl rfl) ?_
  refine PR.nm (.os 4 0 1) [some ⟨.mx [sL r70.2.b, iA r70.2.p], 68, 0⟩, some ⟨.mx [.t (.v (.slice none 0 0)), iA (0 : Int)], 28, 0⟩, some ⟨.mx [.os 3 0 v54.length, iA v53], 28, 0⟩, some ⟨.tr (eL v54), 59, 4⟩, some ⟨.tr (eL [(I_Frame.mk r66.1 false r70.1 r68.1)]), 59, 4⟩] rfl rfl ?_
  refine PR.nil ?_
  refine PT.done ?_
  refine PL.apM hs rfl rfl rfl rfl (SrcA.ownE rfl rfl rfl) rfl rfl rfl rfl h_73 ?_
  refine PL.nm (.os 5 0 xs72.length) [some ⟨.mx [sL r70.2.b, iA r70.2.p], 68, 0⟩, some ⟨.mx [.t (.v (.slice none 0 0)), iA (0 : Int)], 28, 0⟩, some ⟨.mx [.os 3 0 v54.length, iA v53], 28, 0⟩, none, some ⟨.tr (eL [(I_Frame.mk r66.1 false r70.1 r68.1)]), 59, 4⟩, some ⟨.tr (eL xs72), 59, 4⟩] rfl rfl ?_
  refine PL.op rfl (Rd.fieldO rfl rfl) ?_
  refine PL.store rfl rfl rfl rfl rfl rfl rfl ?_
  refine PL.nO [some ⟨.mx [sL r70.2.b, iA r70.2.p], 68, 0⟩, some ⟨.mx [.t (.v (.slice none 0 0)), iA (0 : Int)], 28, 0⟩, some ⟨.mx [.os 5 0 xs72.length, iA v53], 28, 0⟩, none, some ⟨.tr (eL [(I_Frame.mk r66.1 false r70.1 r68.1)]), 59, 4⟩, some ⟨.tr (eL xs72), 59, 4⟩] rfl ?_
  refine PL.nil ?_
  refine inA_n ?_
  refine thA_n ?_
  refine PC.seq ?_
  refine PC.region ?_
  refine PL.op rfl (Rd.loadBox rfl rfl rfl) ?_
  refine PL.store rfl rfl rfl rfl rfl rfl rfl ?_
  refine PL.nO [some ⟨.mx [sL r70.2.b, iA r70.2.p], 68, 0⟩, some ⟨.mx [.os 5 0 xs72.length, iA v53], 28, 0⟩, some ⟨.mx [.os 5 0 xs72.length, iA v53], 28, 0⟩, none, some ⟨.tr (eL [(I_Frame.mk r66.1 false r70.1 r68.1)]), 59, 4⟩, some ⟨.tr (eL xs72), 59, 4⟩] rfl ?_
  refine PL.nil ?_
  refine thA_n ?_
  refine PC.ret ?_
  obtain rfl := some_in hh0
  exact FinA.mk (r := .agg [.os 1 0 ((((I_Buffer.mk xs72 v53), r70.2).1.frames).length), iA (((I_Buffer.mk xs72 v53), r70.2).1.forced)]) (bl := [⟨.mx [sL (((I_Buffer.mk xs72 v53), r70.2).2.b), iA (((I_Buffer.mk xs72 v53), r70.2).2.p)], 68, 0⟩, ⟨.tr (eL (((I_Buffer.mk xs72 v53), r70.2).1.frames)), 59, 4⟩]) [some 0, some 5] (.inl rfl) rfl (rl := [.cell 2 28]) (.cellN rfl rfl rfl rfl .nil) rfl rfl rfl (.aggL ⟨.os rfl, .t _, trivial⟩) ⟨⟨_, rfl, rfl, rfl, .mx ⟨.t _, .t _, trivial⟩⟩, ⟨_, rfl, rfl, rfl, .tr _⟩, trivial⟩ ⟨rfl, rfl⟩

end V
end Go.Proofs.Ytifcacahgiihoaa
