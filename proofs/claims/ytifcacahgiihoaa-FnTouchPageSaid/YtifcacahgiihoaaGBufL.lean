/- Buffers: the laws' functions. No condition. -/
import Derived.Test.YtifcacahgiihoaaGBufE
import Derived.Test.YtifcacahgiihoaaGBufT
namespace Go.Proofs.Ytifcacahgiihoaa
namespace V
open Enc (enc)
set_option linter.unusedVariables false
set_option linter.unusedSimpArgs false
set_option maxHeartbeats 4000000
set_option maxRecDepth 100000
open Go.RowKit
attribute [local irreducible] thA inA FinA eL

def m_L_FnForceLog_k1 (N : Nat) (r2 : (I_Buffer × Int)) (r4 : (I_Buffer)) : Option (Bool) :=
  (m_I_ForceLog N r4 r2.2).bind fun r41 =>
  (m_L_equalBuffer N r41 r4).bind fun r43 =>
  cond r43
    (cond (decide (r2.1.forced ≤ r4.forced))
      (some (decide (r2.2 ≤ r4.forced)))
      (some false))
    (some false)
def m_L_FnForceLog_b1 (N : Nat) (r2 : (I_Buffer × Int)) (r4 : (I_Buffer)) (i24 : Int) : Option (Int ⊕ (Unit ⊕ Bool)) :=
  cond (decide (i24 < (6 : Int)))
    ((m_I_CanWrite N r2.1 i24).bind fun r48 =>
    cond r48
      ((m_I_CanWrite N r4 i24).bind fun r51 =>
      cond r51
        ((chk (i24 + (1 : Int))).bind fun n54 =>
        some (.inl n54))
        (some (.inr (.inr false))))
      ((chk (i24 + (1 : Int))).bind fun n56 =>
      some (.inl n56)))
    (some (.inr (.inl ())))
def m_L_FnForceLog (N : Nat) (p_code : (List UInt8)) : Option (Bool) :=
  cond (decide ((1048576 : Int) < (p_code.length : Int)))
    (some true)
    ((m_S_DrawForceLog N p_code).bind fun r2 =>
    (m_I_ForceLog N r2.1 r2.2).bind fun r4 =>
    (m_S_ForceLog N r2.1 r2.2).bind fun r6 =>
    (m_L_equalBuffer N r4 r6).bind fun r8 =>
    cond r8
      ((m_I_ValidBuffer N r2.1).bind fun r11 =>
      cond r11
        (cond (decide (r2.2 < (0 : Int)))
          ((m_S_ForceLog N r2.1 r2.2).bind fun r15 =>
          (m_L_equalBuffer N r4 r15).bind fun r17 =>
          some r17)
          (cond (decide ((9999 : Int) < r2.2))
            ((m_S_ForceLog N r2.1 r2.2).bind fun r20 =>
            (m_L_equalBuffer N r4 r20).bind fun r22 =>
            some r22)
            ((loopM (β := Unit ⊕ Bool) (fun s : Int => m_L_FnForceLog_b1 N r2 r4 s) N (0 : Int)).bind fun o => match o with
            | .inl e =>
              m_L_FnForceLog_k1 N r2 r4 
            | .inr v =>
              some v)))
        ((m_S_ForceLog N r2.1 r2.2).bind fun r58 =>
        (m_L_equalBuffer N r4 r58).bind fun r60 =>
        some r60))
      ((m_S_ForceLog N r2.1 r2.2).bind fun r62 =>
      (m_L_equalBuffer N r4 r62).bind fun r64 =>
      some r64))
theorem w_L_FnForceLog (N : Nat) (p_code : (List UInt8)) (r : Bool) (hh0 : m_L_FnForceLog N p_code = some r) : FnX Try.prog 4 [] [sL p_code] (RE (bA r) []) := by
  unfold m_L_FnForceLog at hh0
  refine FnX.mk Try.func4 rfl rfl ?_
  intro s hs
  refine PC.seq ?_
  refine PC.region ?_
  refine PL.op rfl (Rd.asnT rfl) ?_
  refine PL.nil ?_
  refine thA_n ?_
  refine PC.seq ?_
  refine PC.seq ?_
  refine PC.region ?_
  refine PL.op rfl (Rd.moveT rfl) ?_
  refine PL.op rfl (Rd.lenT rfl) ?_
  refine PL.op rfl (Rd.gtr rfl rfl) ?_
  refine PL.nil ?_
  refine thA_n ?_
  rcases cond_some hh0 with ⟨h_1, hh0⟩ | ⟨h_1, hh0⟩
  · refine PC.cond_true rfl h_1 ?_
    refine PC.seq ?_
    refine PC.region ?_
    refine PL.op rfl (Rd.asnT rfl) ?_
    refine PL.nil ?_
    refine thA_n ?_
    refine PC.ret ?_
    refine thA_r ?_
    obtain rfl := some_in hh0
    exact FinA.mk (r := bA true) (bl := []) [] (.inl rfl) rfl (rl := [.tmp 2]) (.tmp .nil) rfl rfl rfl (.t _) trivial ⟨rfl, rfl⟩
  refine PC.cond_false rfl h_1 ?_
  refine PC.skip ?_
  refine thA_n ?_
  refine PC.seq ?_
  obtain ⟨r2, h_3, hh0⟩ := bind_some hh0
  refine PC.region ?_
  refine PL.op rfl (Rd.moveT rfl) ?_
  refine PL.callM false [] (w_S_DrawForceLog N p_code r2 h_3) rfl Try.call18 rfl ⟨.t _, trivial⟩ rfl trivial (fun h => by cases h) ?_
  refine PL.nm (.tup [.agg [.os 0 0 r2.1.frames.length, iA r2.1.forced], iA r2.2]) [some ⟨.tr (eL r2.1.frames), 59, 4⟩] rfl rfl ?_
  refine PL.op rfl (Rd.moveU rfl) ?_
  refine PL.op rfl (Rd.extract rfl rfl) ?_
  refine PL.op rfl (Rd.extract rfl rfl) ?_
  refine PL.ef rfl (Ef.alloc rfl rfl) ?_
  refine PL.nm (.op 1 0) [some ⟨.tr (eL r2.1.frames), 59, 4⟩, some ⟨.mx [.t (.v (.slice none 0 0)), iA (0 : Int)], 28, 0⟩] rfl rfl ?_
  refine PL.store rfl rfl rfl rfl rfl rfl rfl ?_
  refine PL.nO [some ⟨.tr (eL r2.1.frames), 59, 4⟩, some ⟨.mx [.os 0 0 r2.1.frames.length, iA r2.1.forced], 28, 0⟩] rfl ?_
  refine PL.op rfl (Rd.asnT rfl) ?_
  refine PL.nil ?_
  refine thA_n ?_
  refine PC.seq ?_
  obtain ⟨r4, h_5, hh0⟩ := bind_some hh0
  refine PC.region ?_
  refine PL.op rfl (Rd.loadBox rfl rfl rfl) ?_
  refine PL.op rfl (Rd.moveT rfl) ?_
  refine PL.callM true [] (w_I_ForceLog N r2.1 r2.2 r4 h_5) rfl Try.call14 rfl ⟨.aggL ⟨.own rfl (by first | decide | exact List.not_mem_nil) rfl rfl, .t _, trivial⟩, .t _, trivial⟩ rfl trivial (fun _ => ⟨⟨trivial, trivial, trivial⟩, (flat_cons flat_ow flat_nil)⟩) ?_
  refine PL.nm (.agg [.os 2 0 r4.frames.length, iA r4.forced]) [some ⟨.tr (eL r2.1.frames), 59, 4⟩, some ⟨.mx [.os 0 0 r2.1.frames.length, iA r2.1.forced], 28, 0⟩, some ⟨.tr (eL r4.frames), 59, 4⟩] rfl rfl ?_
  refine PL.ef rfl (Ef.alloc rfl rfl) ?_
  refine PL.nm (.op 3 0) [some ⟨.tr (eL r2.1.frames), 59, 4⟩, some ⟨.mx [.os 0 0 r2.1.frames.length, iA r2.1.forced], 28, 0⟩, some ⟨.tr (eL r4.frames), 59, 4⟩, some ⟨.mx [.t (.v (.slice none 0 0)), iA (0 : Int)], 28, 0⟩] rfl rfl ?_
  refine PL.store rfl rfl rfl rfl rfl rfl rfl ?_
  refine PL.nO [some ⟨.tr (eL r2.1.frames), 59, 4⟩, some ⟨.mx [.os 0 0 r2.1.frames.length, iA r2.1.forced], 28, 0⟩, some ⟨.tr (eL r4.frames), 59, 4⟩, some ⟨.mx [.os 2 0 r4.frames.length, iA r4.forced], 28, 0⟩] rfl ?_
  refine PL.nil ?_
  refine thA_n ?_
  refine PC.seq ?_
  refine PC.seq ?_
  obtain ⟨r6, h_7, hh0⟩ := bind_some hh0
  obtain ⟨r8, h_9, hh0⟩ := bind_some hh0
  rcases cond_some hh0 with ⟨h_10, hh0⟩ | ⟨h_10, hh0⟩
  rotate_left
  · refine PC.any (id := 5) 19 (.seg [0, 1, 2, 3, 4, 5, 6, 7, 8, 9, 10, 11, 12, 13, 14, 15, 16, 17, 18] .done) [] rfl (by kernel_rfl) rfl ?_
    refine PT.seg ?_
    refine PR.op rfl (Rd.loadBox rfl rfl rfl) ?_
    refine PR.op rfl (Rd.loadBox rfl rfl rfl) ?_
    refine PR.op rfl (Rd.moveT rfl) ?_
    refine PR.callM true [] (w_S_ForceLog N r2.1 r2.2 r6 h_7) rfl Try.call12 rfl ⟨.aggL ⟨.own rfl (by first | decide | exact List.not_mem_nil) rfl rfl, .t _, trivial⟩, .t _, trivial⟩ rfl trivial (fun _ => ⟨⟨trivial, trivial, trivial⟩, (flat_cons flat_ow flat_nil)⟩) rfl ?_
    refine PR.nm (.agg [.os 4 0 r6.frames.length, iA r6.forced]) [some ⟨.tr (eL r2.1.frames), 59, 4⟩, some ⟨.mx [.os 0 0 r2.1.frames.length, iA r2.1.forced], 28, 0⟩, some ⟨.tr (eL r4.frames), 59, 4⟩, some ⟨.mx [.os 2 0 r4.frames.length, iA r4.forced], 28, 0⟩, some ⟨.tr (eL r6.frames), 59, 4⟩] rfl rfl ?_
    refine PR.callM true [] (w_L_equalBuffer N r4 r6 r8 h_9) rfl Try.call19 rfl ⟨.aggL ⟨.own rfl (by first | decide | exact List.not_mem_nil) rfl rfl, .t _, trivial⟩, .aggL ⟨.own rfl (by first | decide | exact List.not_mem_nil) rfl rfl, .t _, trivial⟩, trivial⟩ rfl trivial (fun _ => ⟨trivial, flat_nil⟩) rfl ?_
    refine PR.op rfl (Rd.unnot rfl) ?_
    refine PR.op rfl (Rd.moveT rfl) ?_
    refine PR.guard_off rfl rfl (not_f h_10) ?_
    refine PR.guard_off rfl rfl (not_f h_10) ?_
    refine PR.guard_off rfl rfl (not_f h_10) ?_
    refine PR.op rfl (Rd.pick_t rfl (not_f h_10)) ?_
    refine PR.op rfl (Rd.moveT rfl) ?_
    refine PR.guard_off rfl rfl rfl ?_
    refine PR.guard_off rfl rfl rfl ?_
    refine PR.op rfl (Rd.pick_t rfl rfl) ?_
    refine PR.op rfl (Rd.moveT rfl) ?_
    refine PR.guard_off rfl rfl rfl ?_
    refine PR.guard_off rfl rfl rfl ?_
    refine PR.op rfl (Rd.pick_t rfl rfl) ?_
    refine PR.nil ?_
    refine PT.done ?_
    refine PL.nil ?_
    refine thA_n ?_
    refine PC.cond_true rfl rfl ?_
    refine PC.seq ?_
    obtain ⟨r62, h_63, hh0⟩ := bind_some hh0
    obtain ⟨r64, h_65, hh0⟩ := bind_some hh0
    refine PC.any (id := 6) 6 (.seg [0, 1, 2, 3, 4, 5] .done) [] rfl (by kernel_rfl) rfl ?_
    refine PT.seg ?_
    refine PR.op rfl (Rd.loadBox rfl rfl rfl) ?_
    refine PR.op rfl (Rd.loadBox rfl rfl rfl) ?_
    refine PR.op rfl (Rd.moveT rfl) ?_
    refine PR.callM true [] (w_S_ForceLog N r2.1 r2.2 r62 h_63) rfl Try.call12 rfl ⟨.aggL ⟨.own rfl (by first | decide | exact List.not_mem_nil) rfl rfl, .t _, trivial⟩, .t _, trivial⟩ rfl trivial (fun _ => ⟨⟨trivial, trivial, trivial⟩, (flat_cons flat_ow flat_nil)⟩) rfl ?_
    refine PR.nm (.agg [.os 5 0 r62.frames.length, iA r62.forced]) [some ⟨.tr (eL r2.1.frames), 59, 4⟩, some ⟨.mx [.os 0 0 r2.1.frames.length, iA r2.1.forced], 28, 0⟩, some ⟨.tr (eL r4.frames), 59, 4⟩, some ⟨.mx [.os 2 0 r4.frames.length, iA r4.forced], 28, 0⟩, some ⟨.tr (eL r6.frames), 59, 4⟩, some ⟨.tr (eL r62.frames), 59, 4⟩] rfl rfl ?_
    refine PR.callM true [] (w_L_equalBuffer N r4 r62 r64 h_65) rfl Try.call19 rfl ⟨.aggL ⟨.own rfl (by first | decide | exact List.not_mem_nil) rfl rfl, .t _, trivial⟩, .aggL ⟨.own rfl (by first | decide | exact List.not_mem_nil) rfl rfl, .t _, trivial⟩, trivial⟩ rfl trivial (fun _ => ⟨trivial, flat_nil⟩) rfl ?_
    refine PR.op rfl (Rd.asnT rfl) ?_
    refine PR.nil ?_
    refine PT.done ?_
    refine PL.nil ?_
    refine thA_n ?_
    refine PC.ret ?_
    refine thA_r ?_
    obtain rfl := some_in hh0
    exact FinA.mk (r := bA r64) (bl := []) [] (.inl rfl) rfl (rl := [.tmp 2]) (.tmp .nil) rfl rfl rfl (.t _) trivial ⟨rfl, rfl⟩
  obtain ⟨r11, h_12, hh0⟩ := bind_some hh0
  rcases cond_some hh0 with ⟨h_13, hh0⟩ | ⟨h_13, hh0⟩
  rotate_left
  · refine PC.any (id := 5) 19 (.seg [0, 1, 2, 3, 4, 5, 6, 7, 8, 9, 10, 11, 12, 13, 14, 15, 16, 17, 18] .done) [] rfl (by kernel_rfl) rfl ?_
    refine PT.seg ?_
    refine PR.op rfl (Rd.loadBox rfl rfl rfl) ?_
    refine PR.op rfl (Rd.loadBox rfl rfl rfl) ?_
    refine PR.op rfl (Rd.moveT rfl) ?_
    refine PR.callM true [] (w_S_ForceLog N r2.1 r2.2 r6 h_7) rfl Try.call12 rfl ⟨.aggL ⟨.own rfl (by first | decide | exact List.not_mem_nil) rfl rfl, .t _, trivial⟩, .t _, trivial⟩ rfl trivial (fun _ => ⟨⟨trivial, trivial, trivial⟩, (flat_cons flat_ow flat_nil)⟩) rfl ?_
    refine PR.nm (.agg [.os 4 0 r6.frames.length, iA r6.forced]) [some ⟨.tr (eL r2.1.frames), 59, 4⟩, some ⟨.mx [.os 0 0 r2.1.frames.length, iA r2.1.forced], 28, 0⟩, some ⟨.tr (eL r4.frames), 59, 4⟩, some ⟨.mx [.os 2 0 r4.frames.length, iA r4.forced], 28, 0⟩, some ⟨.tr (eL r6.frames), 59, 4⟩] rfl rfl ?_
    refine PR.callM true [] (w_L_equalBuffer N r4 r6 r8 h_9) rfl Try.call19 rfl ⟨.aggL ⟨.own rfl (by first | decide | exact List.not_mem_nil) rfl rfl, .t _, trivial⟩, .aggL ⟨.own rfl (by first | decide | exact List.not_mem_nil) rfl rfl, .t _, trivial⟩, trivial⟩ rfl trivial (fun _ => ⟨trivial, flat_nil⟩) rfl ?_
    refine PR.op rfl (Rd.unnot rfl) ?_
    refine PR.op rfl (Rd.moveT rfl) ?_
    refine PR.guard_on rfl rfl (not_t h_10) ?_
    refine PR.op rfl (Rd.loadBox rfl rfl rfl) ?_
    refine PR.guard_on rfl rfl (not_t h_10) ?_
    refine PR.callM true [] (w_I_ValidBuffer N r2.1 r11 h_12) rfl Try.call20 rfl ⟨.aggL ⟨.own rfl (by first | decide | exact List.not_mem_nil) rfl rfl, .t _, trivial⟩, trivial⟩ rfl trivial (fun _ => ⟨trivial, flat_nil⟩) rfl ?_
    refine PR.guard_on rfl rfl (not_t h_10) ?_
    refine PR.op rfl (Rd.unnot rfl) ?_
    refine PR.op rfl (Rd.pick_f rfl (not_t h_10)) ?_
    refine PR.op rfl (Rd.moveT rfl) ?_
    refine PR.guard_off rfl rfl (not_f h_13) ?_
    refine PR.guard_off rfl rfl (not_f h_13) ?_
    refine PR.op rfl (Rd.pick_t rfl (not_f h_13)) ?_
    refine PR.op rfl (Rd.moveT rfl) ?_
    refine PR.guard_off rfl rfl rfl ?_
    refine PR.guard_off rfl rfl rfl ?_
    refine PR.op rfl (Rd.pick_t rfl rfl) ?_
    refine PR.nil ?_
    refine PT.done ?_
    refine PL.nil ?_
    refine thA_n ?_
    refine PC.cond_true rfl rfl ?_
    refine PC.seq ?_
    obtain ⟨r58, h_59, hh0⟩ := bind_some hh0
    obtain ⟨r60, h_61, hh0⟩ := bind_some hh0
    refine PC.any (id := 6) 6 (.seg [0, 1, 2, 3, 4, 5] .done) [] rfl (by kernel_rfl) rfl ?_
    refine PT.seg ?_
    refine PR.op rfl (Rd.loadBox rfl rfl rfl) ?_
    refine PR.op rfl (Rd.loadBox rfl rfl rfl) ?_
    refine PR.op rfl (Rd.moveT rfl) ?_
    refine PR.callM true [] (w_S_ForceLog N r2.1 r2.2 r58 h_59) rfl Try.call12 rfl ⟨.aggL ⟨.own rfl (by first | decide | exact List.not_mem_nil) rfl rfl, .t _, trivial⟩, .t _, trivial⟩ rfl trivial (fun _ => ⟨⟨trivial, trivial, trivial⟩, (flat_cons flat_ow flat_nil)⟩) rfl ?_
    refine PR.nm (.agg [.os 5 0 r58.frames.length, iA r58.forced]) [some ⟨.tr (eL r2.1.frames), 59, 4⟩, some ⟨.mx [.os 0 0 r2.1.frames.length, iA r2.1.forced], 28, 0⟩, some ⟨.tr (eL r4.frames), 59, 4⟩, some ⟨.mx [.os 2 0 r4.frames.length, iA r4.forced], 28, 0⟩, some ⟨.tr (eL r6.frames), 59, 4⟩, some ⟨.tr (eL r58.frames), 59, 4⟩] rfl rfl ?_
    refine PR.callM true [] (w_L_equalBuffer N r4 r58 r60 h_61) rfl Try.call19 rfl ⟨.aggL ⟨.own rfl (by first | decide | exact List.not_mem_nil) rfl rfl, .t _, trivial⟩, .aggL ⟨.own rfl (by first | decide | exact List.not_mem_nil) rfl rfl, .t _, trivial⟩, trivial⟩ rfl trivial (fun _ => ⟨trivial, flat_nil⟩) rfl ?_
    refine PR.op rfl (Rd.asnT rfl) ?_
    refine PR.nil ?_
    refine PT.done ?_
    refine PL.nil ?_
    refine thA_n ?_
    refine PC.ret ?_
    refine thA_r ?_
    obtain rfl := some_in hh0
    exact FinA.mk (r := bA r60) (bl := []) [] (.inl rfl) rfl (rl := [.tmp 2]) (.tmp .nil) rfl rfl rfl (.t _) trivial ⟨rfl, rfl⟩
  rcases cond_some hh0 with ⟨h_14, hh0⟩ | ⟨h_14, hh0⟩
  · refine PC.any (id := 5) 19 (.seg [0, 1, 2, 3, 4, 5, 6, 7, 8, 9, 10, 11, 12, 13, 14, 15, 16, 17, 18] .done) [] rfl (by kernel_rfl) rfl ?_
    refine PT.seg ?_
    refine PR.op rfl (Rd.loadBox rfl rfl rfl) ?_
    refine PR.op rfl (Rd.loadBox rfl rfl rfl) ?_
    refine PR.op rfl (Rd.moveT rfl) ?_
    refine PR.callM true [] (w_S_ForceLog N r2.1 r2.2 r6 h_7) rfl Try.call12 rfl ⟨.aggL ⟨.own rfl (by first | decide | exact List.not_mem_nil) rfl rfl, .t _, trivial⟩, .t _, trivial⟩ rfl trivial (fun _ => ⟨⟨trivial, trivial, trivial⟩, (flat_cons flat_ow flat_nil)⟩) rfl ?_
    refine PR.nm (.agg [.os 4 0 r6.frames.length, iA r6.forced]) [some ⟨.tr (eL r2.1.frames), 59, 4⟩, some ⟨.mx [.os 0 0 r2.1.frames.length, iA r2.1.forced], 28, 0⟩, some ⟨.tr (eL r4.frames), 59, 4⟩, some ⟨.mx [.os 2 0 r4.frames.length, iA r4.forced], 28, 0⟩, some ⟨.tr (eL r6.frames), 59, 4⟩] rfl rfl ?_
    refine PR.callM true [] (w_L_equalBuffer N r4 r6 r8 h_9) rfl Try.call19 rfl ⟨.aggL ⟨.own rfl (by first | decide | exact List.not_mem_nil) rfl rfl, .t _, trivial⟩, .aggL ⟨.own rfl (by first | decide | exact List.not_mem_nil) rfl rfl, .t _, trivial⟩, trivial⟩ rfl trivial (fun _ => ⟨trivial, flat_nil⟩) rfl ?_
    refine PR.op rfl (Rd.unnot rfl) ?_
    refine PR.op rfl (Rd.moveT rfl) ?_
    refine PR.guard_on rfl rfl (not_t h_10) ?_
    refine PR.op rfl (Rd.loadBox rfl rfl rfl) ?_
    refine PR.guard_on rfl rfl (not_t h_10) ?_
    refine PR.callM true [] (w_I_ValidBuffer N r2.1 r11 h_12) rfl Try.call20 rfl ⟨.aggL ⟨.own rfl (by first | decide | exact List.not_mem_nil) rfl rfl, .t _, trivial⟩, trivial⟩ rfl trivial (fun _ => ⟨trivial, flat_nil⟩) rfl ?_
    refine PR.guard_on rfl rfl (not_t h_10) ?_
    refine PR.op rfl (Rd.unnot rfl) ?_
    refine PR.op rfl (Rd.pick_f rfl (not_t h_10)) ?_
    refine PR.op rfl (Rd.moveT rfl) ?_
    refine PR.guard_on rfl rfl (not_t h_13) ?_
    refine PR.op rfl (Rd.moveT rfl) ?_
    refine PR.guard_on rfl rfl (not_t h_13) ?_
    refine PR.op rfl (Rd.lss rfl rfl) ?_
    refine PR.op rfl (Rd.pick_f rfl (not_t h_13)) ?_
    refine PR.op rfl (Rd.moveT rfl) ?_
    refine PR.guard_off rfl rfl h_14 ?_
    refine PR.guard_off rfl rfl h_14 ?_
    refine PR.op rfl (Rd.pick_t rfl h_14) ?_
    refine PR.nil ?_
    refine PT.done ?_
    refine PL.nil ?_
    refine thA_n ?_
    refine PC.cond_true rfl rfl ?_
    refine PC.seq ?_
    obtain ⟨r15, h_16, hh0⟩ := bind_some hh0
    obtain ⟨r17, h_18, hh0⟩ := bind_some hh0
    refine PC.any (id := 6) 6 (.seg [0, 1, 2, 3, 4, 5] .done) [] rfl (by kernel_rfl) rfl ?_
    refine PT.seg ?_
    refine PR.op rfl (Rd.loadBox rfl rfl rfl) ?_
    refine PR.op rfl (Rd.loadBox rfl rfl rfl) ?_
    refine PR.op rfl (Rd.moveT rfl) ?_
    refine PR.callM true [] (w_S_ForceLog N r2.1 r2.2 r15 h_16) rfl Try.call12 rfl ⟨.aggL ⟨.own rfl (by first | decide | exact List.not_mem_nil) rfl rfl, .t _, trivial⟩, .t _, trivial⟩ rfl trivial (fun _ => ⟨⟨trivial, trivial, trivial⟩, (flat_cons flat_ow flat_nil)⟩) rfl ?_
    refine PR.nm (.agg [.os 5 0 r15.frames.length, iA r15.forced]) [some ⟨.tr (eL r2.1.frames), 59, 4⟩, some ⟨.mx [.os 0 0 r2.1.frames.length, iA r2.1.forced], 28, 0⟩, some ⟨.tr (eL r4.frames), 59, 4⟩, some ⟨.mx [.os 2 0 r4.frames.length, iA r4.forced], 28, 0⟩, some ⟨.tr (eL r6.frames), 59, 4⟩, some ⟨.tr (eL r15.frames), 59, 4⟩] rfl rfl ?_
    refine PR.callM true [] (w_L_equalBuffer N r4 r15 r17 h_18) rfl Try.call19 rfl ⟨.aggL ⟨.own rfl (by first | decide | exact List.not_mem_nil) rfl rfl, .t _, trivial⟩, .aggL ⟨.own rfl (by first | decide | exact List.not_mem_nil) rfl rfl, .t _, trivial⟩, trivial⟩ rfl trivial (fun _ => ⟨trivial, flat_nil⟩) rfl ?_
    refine PR.op rfl (Rd.asnT rfl) ?_
    refine PR.nil ?_
    refine PT.done ?_
    refine PL.nil ?_
    refine thA_n ?_
    refine PC.ret ?_
    refine thA_r ?_
    obtain rfl := some_in hh0
    exact FinA.mk (r := bA r17) (bl := []) [] (.inl rfl) rfl (rl := [.tmp 2]) (.tmp .nil) rfl rfl rfl (.t _) trivial ⟨rfl, rfl⟩
  refine PC.any (id := 5) 19 (.seg [0, 1, 2, 3, 4, 5, 6, 7, 8, 9, 10, 11, 12, 13, 14, 15, 16, 17, 18] .done) [] rfl (by kernel_rfl) rfl ?_
  refine PT.seg ?_
  refine PR.op rfl (Rd.loadBox rfl rfl rfl) ?_
  refine PR.op rfl (Rd.loadBox rfl rfl rfl) ?_
  refine PR.op rfl (Rd.moveT rfl) ?_
  refine PR.callM true [] (w_S_ForceLog N r2.1 r2.2 r6 h_7) rfl Try.call12 rfl ⟨.aggL ⟨.own rfl (by first | decide | exact List.not_mem_nil) rfl rfl, .t _, trivial⟩, .t _, trivial⟩ rfl trivial (fun _ => ⟨⟨trivial, trivial, trivial⟩, (flat_cons flat_ow flat_nil)⟩) rfl ?_
  refine PR.nm (.agg [.os 4 0 r6.frames.length, iA r6.forced]) [some ⟨.tr (eL r2.1.frames), 59, 4⟩, some ⟨.mx [.os 0 0 r2.1.frames.length, iA r2.1.forced], 28, 0⟩, some ⟨.tr (eL r4.frames), 59, 4⟩, some ⟨.mx [.os 2 0 r4.frames.length, iA r4.forced], 28, 0⟩, some ⟨.tr (eL r6.frames), 59, 4⟩] rfl rfl ?_
  refine PR.callM true [] (w_L_equalBuffer N r4 r6 r8 h_9) rfl Try.call19 rfl ⟨.aggL ⟨.own rfl (by first | decide | exact List.not_mem_nil) rfl rfl, .t _, trivial⟩, .aggL ⟨.own rfl (by first | decide | exact List.not_mem_nil) rfl rfl, .t _, trivial⟩, trivial⟩ rfl trivial (fun _ => ⟨trivial, flat_nil⟩) rfl ?_
  refine PR.op rfl (Rd.unnot rfl) ?_
  refine PR.op rfl (Rd.moveT rfl) ?_
  refine PR.guard_on rfl rfl (not_t h_10) ?_
  refine PR.op rfl (Rd.loadBox rfl rfl rfl) ?_
  refine PR.guard_on rfl rfl (not_t h_10) ?_
  refine PR.callM true [] (w_I_ValidBuffer N r2.1 r11 h_12) rfl Try.call20 rfl ⟨.aggL ⟨.own rfl (by first | decide | exact List.not_mem_nil) rfl rfl, .t _, trivial⟩, trivial⟩ rfl trivial (fun _ => ⟨trivial, flat_nil⟩) rfl ?_
  refine PR.guard_on rfl rfl (not_t h_10) ?_
  refine PR.op rfl (Rd.unnot rfl) ?_
  refine PR.op rfl (Rd.pick_f rfl (not_t h_10)) ?_
  refine PR.op rfl (Rd.moveT rfl) ?_
  refine PR.guard_on rfl rfl (not_t h_13) ?_
  refine PR.op rfl (Rd.moveT rfl) ?_
  refine PR.guard_on rfl rfl (not_t h_13) ?_
  refine PR.op rfl (Rd.lss rfl rfl) ?_
  refine PR.op rfl (Rd.pick_f rfl (not_t h_13)) ?_
  refine PR.op rfl (Rd.moveT rfl) ?_
  refine PR.guard_on rfl rfl h_14 ?_
  refine PR.op rfl (Rd.moveT rfl) ?_
  refine PR.guard_on rfl rfl h_14 ?_
  refine PR.op rfl (Rd.gtr rfl rfl) ?_
  refine PR.op rfl (Rd.pick_f rfl h_14) ?_
  refine PR.nil ?_
  refine PT.done ?_
  refine PL.nil ?_
  refine thA_n ?_
  rcases cond_some hh0 with ⟨h_19, hh0⟩ | ⟨h_19, hh0⟩
  · refine PC.cond_true rfl h_19 ?_
    refine PC.seq ?_
    obtain ⟨r20, h_21, hh0⟩ := bind_some hh0
    obtain ⟨r22, h_23, hh0⟩ := bind_some hh0
    refine PC.any (id := 6) 6 (.seg [0, 1, 2, 3, 4, 5] .done) [] rfl (by kernel_rfl) rfl ?_
    refine PT.seg ?_
    refine PR.op rfl (Rd.loadBox rfl rfl rfl) ?_
    refine PR.op rfl (Rd.loadBox rfl rfl rfl) ?_
    refine PR.op rfl (Rd.moveT rfl) ?_
    refine PR.callM true [] (w_S_ForceLog N r2.1 r2.2 r20 h_21) rfl Try.call12 rfl ⟨.aggL ⟨.own rfl (by first | decide | exact List.not_mem_nil) rfl rfl, .t _, trivial⟩, .t _, trivial⟩ rfl trivial (fun _ => ⟨⟨trivial, trivial, trivial⟩, (flat_cons flat_ow flat_nil)⟩) rfl ?_
    refine PR.nm (.agg [.os 5 0 r20.frames.length, iA r20.forced]) [some ⟨.tr (eL r2.1.frames), 59, 4⟩, some ⟨.mx [.os 0 0 r2.1.frames.length, iA r2.1.forced], 28, 0⟩, some ⟨.tr (eL r4.frames), 59, 4⟩, some ⟨.mx [.os 2 0 r4.frames.length, iA r4.forced], 28, 0⟩, some ⟨.tr (eL r6.frames), 59, 4⟩, some ⟨.tr (eL r20.frames), 59, 4⟩] rfl rfl ?_
    refine PR.callM true [] (w_L_equalBuffer N r4 r20 r22 h_23) rfl Try.call19 rfl ⟨.aggL ⟨.own rfl (by first | decide | exact List.not_mem_nil) rfl rfl, .t _, trivial⟩, .aggL ⟨.own rfl (by first | decide | exact List.not_mem_nil) rfl rfl, .t _, trivial⟩, trivial⟩ rfl trivial (fun _ => ⟨trivial, flat_nil⟩) rfl ?_
    refine PR.op rfl (Rd.asnT rfl) ?_
    refine PR.nil ?_
    refine PT.done ?_
    refine PL.nil ?_
    refine thA_n ?_
    refine PC.ret ?_
    refine thA_r ?_
    obtain rfl := some_in hh0
    exact FinA.mk (r := bA r22) (bl := []) [] (.inl rfl) rfl (rl := [.tmp 2]) (.tmp .nil) rfl rfl rfl (.t _) trivial ⟨rfl, rfl⟩
  refine PC.cond_false rfl h_19 ?_
  refine PC.skip ?_
  refine thA_n ?_
  refine PC.seq ?_
  refine PC.seq ?_
  refine PC.region ?_
  refine PL.op rfl (Rd.asnT rfl) ?_
  refine PL.nil ?_
  refine thA_n ?_
  obtain ⟨o36, h_37, hh0⟩ := bind_some hh0
  refine PC.cutE hs (fun x : Unit => [(3, .op 0 0), (4, iA r2.2), (5, .op 2 0)]) (fun x => [⟨.mx [.os 1 0 r2.1.frames.length, iA r2.1.forced], 28, 0⟩, ⟨.tr (eL r2.1.frames), 59, 4⟩, ⟨.mx [.os 3 0 r4.frames.length, iA r4.forced], 28, 0⟩, ⟨.tr (eL r4.frames), 59, 4⟩]) (fun x => m_L_FnForceLog_k1 N r2 r4  = some r) ?_ ?_
  · refine PC.block ?_
    refine PC.loop hs (fun x : Nat × (Int) => [(3, .op 0 0), (4, iA r2.2), (5, .op 2 0), (6, iA x.2)]) (fun x => [⟨.mx [.os 1 0 r2.1.frames.length, iA r2.1.forced], 28, 0⟩, ⟨.tr (eL r2.1.frames), 59, 4⟩, ⟨.mx [.os 3 0 r4.frames.length, iA r4.forced], 28, 0⟩, ⟨.tr (eL r4.frames), 59, 4⟩]) (fun x => loopM (β := Unit ⊕ Bool) (fun s : Int => m_L_FnForceLog_b1 N r2 r4 s) x.1 x.2 = some o36) (fun x => x.1) (N, (0 : Int)) [some 1, some 0, some 3, some 2] ⟨rfl, rfl, ⟨⟨_, rfl, rfl, rfl, .mx ⟨.os rfl, .t _, trivial⟩⟩, ⟨_, rfl, rfl, rfl, .tr _⟩, ⟨_, rfl, rfl, rfl, .mx ⟨.os rfl, .t _, trivial⟩⟩, ⟨_, rfl, rfl, rfl, .tr _⟩, trivial⟩, ⟨.op rfl, .t _, .op rfl, .t _, trivial⟩⟩ h_37 ?_
    rintro ⟨f38_, i24⟩ h_40
    obtain ⟨f38, y39, rfl, hh1, kk1⟩ := loopM_some h_40
    replace hh1 : m_L_FnForceLog_b1 N r2 r4 i24 = some y39 := hh1
    unfold m_L_FnForceLog_b1 at hh1
    refine PC.seq ?_
    refine PC.seq ?_
    refine PC.region ?_
    refine PL.op rfl (Rd.moveT rfl) ?_
    refine PL.op rfl (Rd.lss rfl rfl) ?_
    refine PL.nil ?_
    refine thA_n ?_
    rcases cond_some hh1 with ⟨h_47, hh1⟩ | ⟨h_47, hh1⟩
    rotate_left
    · refine PC.cond_false rfl h_47 ?_
      refine PC.exit ?_
      refine thA_e ?_
      refine thA_e ?_
      refine inA_eq rfl ?_
      refine thA_n ?_
      obtain rfl := some_in hh1
      obtain rfl : (.inl () : Unit ⊕ Bool) = o36 := kk1
      exact ⟨(), hh0, [some 0, some 1, some 2, some 3], ⟨rfl, rfl, ⟨⟨_, rfl, rfl, rfl, .mx ⟨.os rfl, .t _, trivial⟩⟩, ⟨_, rfl, rfl, rfl, .tr _⟩, ⟨_, rfl, rfl, rfl, .mx ⟨.os rfl, .t _, trivial⟩⟩, ⟨_, rfl, rfl, rfl, .tr _⟩, trivial⟩, ⟨.op rfl, .t _, .op rfl, trivial⟩⟩⟩
    refine PC.cond_true rfl h_47 ?_
    refine PC.skip ?_
    refine thA_n ?_
    refine PC.seq ?_
    refine PC.block ?_
    refine PC.seq ?_
    obtain ⟨r48, h_49, hh1⟩ := bind_some hh1
    rcases cond_some hh1 with ⟨h_50, hh1⟩ | ⟨h_50, hh1⟩
    rotate_left
    · refine PC.region ?_
      refine PL.op rfl (Rd.loadBox rfl rfl rfl) ?_
      refine PL.op rfl (Rd.moveT rfl) ?_
      refine PL.callM true [] (w_I_CanWrite N r2.1 i24 r48 h_49) rfl Try.call21 rfl ⟨.aggL ⟨.own rfl (by first | decide | exact List.not_mem_nil) rfl rfl, .t _, trivial⟩, .t _, trivial⟩ rfl trivial (fun _ => ⟨trivial, flat_nil⟩) ?_
      refine PL.op rfl (Rd.moveT rfl) ?_
      refine PL.guard_off rfl rfl h_50 ?_
      refine PL.guard_off rfl rfl h_50 ?_
      refine PL.guard_off rfl rfl h_50 ?_
      refine PL.guard_off rfl rfl h_50 ?_
      refine PL.op rfl (Rd.pick_f rfl h_50) ?_
      refine PL.nil ?_
      refine thA_n ?_
      refine PC.cond_false rfl rfl ?_
      refine PC.skip ?_
      refine inA_n ?_
      refine thA_n ?_
      obtain ⟨n56, h_57, hh1⟩ := bind_some hh1
      refine PC.region ?_
      refine PL.op rfl (Rd.moveT rfl) ?_
      refine PL.op rfl (Rd.addM rfl rfl h_57) ?_
      refine PL.op rfl (Rd.asnT rfl) ?_
      refine PL.nil ?_
      obtain rfl := some_in hh1
      refine thA_n ?_
      exact ⟨(f38, n56), Nat.lt_succ_self _, kk1, [some 0, some 1, some 2, some 3], ⟨rfl, rfl, ⟨⟨_, rfl, rfl, rfl, .mx ⟨.os rfl, .t _, trivial⟩⟩, ⟨_, rfl, rfl, rfl, .tr _⟩, ⟨_, rfl, rfl, rfl, .mx ⟨.os rfl, .t _, trivial⟩⟩, ⟨_, rfl, rfl, rfl, .tr _⟩, trivial⟩, ⟨.op rfl, .t _, .op rfl, .t _, trivial⟩⟩⟩
    obtain ⟨r51, h_52, hh1⟩ := bind_some hh1
    refine PC.region ?_
    refine PL.op rfl (Rd.loadBox rfl rfl rfl) ?_
    refine PL.op rfl (Rd.moveT rfl) ?_
    refine PL.callM true [] (w_I_CanWrite N r2.1 i24 r48 h_49) rfl Try.call21 rfl ⟨.aggL ⟨.own rfl (by first | decide | exact List.not_mem_nil) rfl rfl, .t _, trivial⟩, .t _, trivial⟩ rfl trivial (fun _ => ⟨trivial, flat_nil⟩) ?_
    refine PL.op rfl (Rd.moveT rfl) ?_
    refine PL.guard_on rfl h_50 ?_
    refine PL.op rfl (Rd.loadBox rfl rfl rfl) ?_
    refine PL.guard_on rfl h_50 ?_
    refine PL.op rfl (Rd.moveT rfl) ?_
    refine PL.guard_on rfl h_50 ?_
    refine PL.callM true [] (w_I_CanWrite N r4 i24 r51 h_52) rfl Try.call21 rfl ⟨.aggL ⟨.own rfl (by first | decide | exact List.not_mem_nil) rfl rfl, .t _, trivial⟩, .t _, trivial⟩ rfl trivial (fun _ => ⟨trivial, flat_nil⟩) ?_
    refine PL.guard_on rfl h_50 ?_
    refine PL.op rfl (Rd.unnot rfl) ?_
    refine PL.op rfl (Rd.pick_t rfl h_50) ?_
    refine PL.nil ?_
    refine thA_n ?_
    rcases cond_some hh1 with ⟨h_53, hh1⟩ | ⟨h_53, hh1⟩
    rotate_left
    · refine PC.cond_true rfl (not_f h_53) ?_
      refine PC.seq ?_
      refine PC.region ?_
      refine PL.op rfl (Rd.asnT rfl) ?_
      refine PL.nil ?_
      refine thA_n ?_
      refine PC.ret ?_
      refine inA_r ?_
      refine thA_r ?_
      refine thA_r ?_
      refine inA_r ?_
      refine thA_r ?_
      obtain rfl := some_in hh1
      obtain rfl : (.inr false : Unit ⊕ Bool) = o36 := kk1
      refine thA_r ?_
      obtain rfl := some_in hh0
      exact FinA.mk (r := bA false) (bl := []) [] (.inl rfl) rfl (rl := [.tmp 2]) (.tmp .nil) rfl rfl rfl (.t _) trivial ⟨rfl, rfl⟩
    refine PC.cond_false rfl (not_t h_53) ?_
    refine PC.skip ?_
    refine inA_n ?_
    refine thA_n ?_
    obtain ⟨n54, h_55, hh1⟩ := bind_some hh1
    refine PC.region ?_
    refine PL.op rfl (Rd.moveT rfl) ?_
    refine PL.op rfl (Rd.addM rfl rfl h_55) ?_
    refine PL.op rfl (Rd.asnT rfl) ?_
    refine PL.nil ?_
    obtain rfl := some_in hh1
    refine thA_n ?_
    exact ⟨(f38, n54), Nat.lt_succ_self _, kk1, [some 0, some 1, some 2, some 3], ⟨rfl, rfl, ⟨⟨_, rfl, rfl, rfl, .mx ⟨.os rfl, .t _, trivial⟩⟩, ⟨_, rfl, rfl, rfl, .tr _⟩, ⟨_, rfl, rfl, rfl, .mx ⟨.os rfl, .t _, trivial⟩⟩, ⟨_, rfl, rfl, rfl, .tr _⟩, trivial⟩, ⟨.op rfl, .t _, .op rfl, .t _, trivial⟩⟩⟩
  clear hh0
  rintro ⟨⟩ hh0
  replace hh0 : m_L_FnForceLog_k1 N r2 r4  = some r := hh0
  unfold m_L_FnForceLog_k1 at hh0
  refine thA_n ?_
  refine PC.seq ?_
  obtain ⟨r41, h_42, hh0⟩ := bind_some hh0
  obtain ⟨r43, h_44, hh0⟩ := bind_some hh0
  rcases cond_some hh0 with ⟨h_45, hh0⟩ | ⟨h_45, hh0⟩
  rotate_left
  · refine PC.any (id := 12) 19 (.seg [0, 1, 3, 2, 4, 5, 6, 7, 8, 9, 10, 11, 12, 13, 14, 15, 16, 17, 18] .done) [] rfl (by kernel_rfl) rfl ?_
    refine PT.seg ?_
    refine PR.op rfl (Rd.loadBox rfl rfl rfl) ?_
    refine PR.op rfl (Rd.moveT rfl) ?_
    refine PR.op rfl (Rd.loadBox rfl rfl rfl) ?_
    refine PR.callM true [] (w_I_ForceLog N r4 r2.2 r41 h_42) rfl Try.call14 rfl ⟨.aggL ⟨.own rfl (by first | decide | exact List.not_mem_nil) rfl rfl, .t _, trivial⟩, .t _, trivial⟩ rfl trivial (fun _ => ⟨⟨trivial, trivial, trivial⟩, (flat_cons flat_ow flat_nil)⟩) rfl ?_
    refine PR.nm (.agg [.os 4 0 r41.frames.length, iA r41.forced]) [some ⟨.mx [.os 1 0 r2.1.frames.length, iA r2.1.forced], 28, 0⟩, some ⟨.tr (eL r2.1.frames), 59, 4⟩, some ⟨.mx [.os 3 0 r4.frames.length, iA r4.forced], 28, 0⟩, some ⟨.tr (eL r4.frames), 59, 4⟩, some ⟨.tr (eL r41.frames), 59, 4⟩] rfl rfl ?_
    refine PR.callM true [] (w_L_equalBuffer N r41 r4 r43 h_44) rfl Try.call19 rfl ⟨.aggL ⟨.own rfl (by first | decide | exact List.not_mem_nil) rfl rfl, .t _, trivial⟩, .aggL ⟨.own rfl (by first | decide | exact List.not_mem_nil) rfl rfl, .t _, trivial⟩, trivial⟩ rfl trivial (fun _ => ⟨trivial, flat_nil⟩) rfl ?_
    refine PR.op rfl (Rd.moveT rfl) ?_
    refine PR.guard_off rfl rfl h_45 ?_
    refine PR.guard_off rfl rfl h_45 ?_
    refine PR.guard_off rfl rfl h_45 ?_
    refine PR.guard_off rfl rfl h_45 ?_
    refine PR.guard_off rfl rfl h_45 ?_
    refine PR.op rfl (Rd.pick_f rfl h_45) ?_
    refine PR.op rfl (Rd.moveT rfl) ?_
    refine PR.guard_off rfl rfl rfl ?_
    refine PR.guard_off rfl rfl rfl ?_
    refine PR.guard_off rfl rfl rfl ?_
    refine PR.guard_off rfl rfl rfl ?_
    refine PR.op rfl (Rd.pick_f rfl rfl) ?_
    refine PR.op rfl (Rd.asnT rfl) ?_
    refine PR.nil ?_
    refine PT.done ?_
    refine PL.nil ?_
    refine thA_n ?_
    refine PC.ret ?_
    obtain rfl := some_in hh0
    exact FinA.mk (r := bA false) (bl := []) [] (.inl rfl) rfl (rl := [.tmp 2]) (.tmp .nil) rfl rfl rfl (.t _) trivial ⟨rfl, rfl⟩
  rcases cond_some hh0 with ⟨h_46, hh0⟩ | ⟨h_46, hh0⟩
  rotate_left
  · refine PC.any (id := 12) 19 (.seg [0, 1, 3, 2, 4, 5, 6, 7, 8, 9, 10, 11, 12, 13, 14, 15, 16, 17, 18] .done) [] rfl (by kernel_rfl) rfl ?_
    refine PT.seg ?_
    refine PR.op rfl (Rd.loadBox rfl rfl rfl) ?_
    refine PR.op rfl (Rd.moveT rfl) ?_
    refine PR.op rfl (Rd.loadBox rfl rfl rfl) ?_
    refine PR.callM true [] (w_I_ForceLog N r4 r2.2 r41 h_42) rfl Try.call14 rfl ⟨.aggL ⟨.own rfl (by first | decide | exact List.not_mem_nil) rfl rfl, .t _, trivial⟩, .t _, trivial⟩ rfl trivial (fun _ => ⟨⟨trivial, trivial, trivial⟩, (flat_cons flat_ow flat_nil)⟩) rfl ?_
    refine PR.nm (.agg [.os 4 0 r41.frames.length, iA r41.forced]) [some ⟨.mx [.os 1 0 r2.1.frames.length, iA r2.1.forced], 28, 0⟩, some ⟨.tr (eL r2.1.frames), 59, 4⟩, some ⟨.mx [.os 3 0 r4.frames.length, iA r4.forced], 28, 0⟩, some ⟨.tr (eL r4.frames), 59, 4⟩, some ⟨.tr (eL r41.frames), 59, 4⟩] rfl rfl ?_
    refine PR.callM true [] (w_L_equalBuffer N r41 r4 r43 h_44) rfl Try.call19 rfl ⟨.aggL ⟨.own rfl (by first | decide | exact List.not_mem_nil) rfl rfl, .t _, trivial⟩, .aggL ⟨.own rfl (by first | decide | exact List.not_mem_nil) rfl rfl, .t _, trivial⟩, trivial⟩ rfl trivial (fun _ => ⟨trivial, flat_nil⟩) rfl ?_
    refine PR.op rfl (Rd.moveT rfl) ?_
    refine PR.guard_on rfl rfl h_45 ?_
    refine PR.op rfl (Rd.fieldO rfl rfl) ?_
    refine PR.guard_on rfl rfl h_45 ?_
    refine PR.op rfl (Rd.loadO rfl rfl rfl) ?_
    refine PR.guard_on rfl rfl h_45 ?_
    refine PR.op rfl (Rd.fieldO rfl rfl) ?_
    refine PR.guard_on rfl rfl h_45 ?_
    refine PR.op rfl (Rd.loadO rfl rfl rfl) ?_
    refine PR.guard_on rfl rfl h_45 ?_
    refine PR.op rfl (Rd.geq rfl rfl) ?_
    refine PR.op rfl (Rd.pick_t rfl h_45) ?_
    refine PR.op rfl (Rd.moveT rfl) ?_
    refine PR.guard_off rfl rfl h_46 ?_
    refine PR.guard_off rfl rfl h_46 ?_
    refine PR.guard_off rfl rfl h_46 ?_
    refine PR.guard_off rfl rfl h_46 ?_
    refine PR.op rfl (Rd.pick_f rfl h_46) ?_
    refine PR.op rfl (Rd.asnT rfl) ?_
    refine PR.nil ?_
    refine PT.done ?_
    refine PL.nil ?_
    refine thA_n ?_
    refine PC.ret ?_
    obtain rfl := some_in hh0
    exact FinA.mk (r := bA false) (bl := []) [] (.inl rfl) rfl (rl := [.tmp 2]) (.tmp .nil) rfl rfl rfl (.t _) trivial ⟨rfl, rfl⟩
  refine PC.any (id := 12) 19 (.seg [0, 1, 3, 2, 4, 5, 6, 7, 8, 9, 10, 11, 12, 13, 14, 15, 16, 17, 18] .done) [] rfl (by kernel_rfl) rfl ?_
  refine PT.seg ?_
  refine PR.op rfl (Rd.loadBox rfl rfl rfl) ?_
  refine PR.op rfl (Rd.moveT rfl) ?_
  refine PR.op rfl (Rd.loadBox rfl rfl rfl) ?_
  refine PR.callM true [] (w_I_ForceLog N r4 r2.2 r41 h_42) rfl Try.call14 rfl ⟨.aggL ⟨.own rfl (by first | decide | exact List.not_mem_nil) rfl rfl, .t _, trivial⟩, .t _, trivial⟩ rfl trivial (fun _ => ⟨⟨trivial, trivial, trivial⟩, (flat_cons flat_ow flat_nil)⟩) rfl ?_
  refine PR.nm (.agg [.os 4 0 r41.frames.length, iA r41.forced]) [some ⟨.mx [.os 1 0 r2.1.frames.length, iA r2.1.forced], 28, 0⟩, some ⟨.tr (eL r2.1.frames), 59, 4⟩, some ⟨.mx [.os 3 0 r4.frames.length, iA r4.forced], 28, 0⟩, some ⟨.tr (eL r4.frames), 59, 4⟩, some ⟨.tr (eL r41.frames), 59, 4⟩] rfl rfl ?_
  refine PR.callM true [] (w_L_equalBuffer N r41 r4 r43 h_44) rfl Try.call19 rfl ⟨.aggL ⟨.own rfl (by first | decide | exact List.not_mem_nil) rfl rfl, .t _, trivial⟩, .aggL ⟨.own rfl (by first | decide | exact List.not_mem_nil) rfl rfl, .t _, trivial⟩, trivial⟩ rfl trivial (fun _ => ⟨trivial, flat_nil⟩) rfl ?_
  refine PR.op rfl (Rd.moveT rfl) ?_
  refine PR.guard_on rfl rfl h_45 ?_
  refine PR.op rfl (Rd.fieldO rfl rfl) ?_
  refine PR.guard_on rfl rfl h_45 ?_
  refine PR.op rfl (Rd.loadO rfl rfl rfl) ?_
  refine PR.guard_on rfl rfl h_45 ?_
  refine PR.op rfl (Rd.fieldO rfl rfl) ?_
  refine PR.guard_on rfl rfl h_45 ?_
  refine PR.op rfl (Rd.loadO rfl rfl rfl) ?_
  refine PR.guard_on rfl rfl h_45 ?_
  refine PR.op rfl (Rd.geq rfl rfl) ?_
  refine PR.op rfl (Rd.pick_t rfl h_45) ?_
  refine PR.op rfl (Rd.moveT rfl) ?_
  refine PR.guard_on rfl rfl h_46 ?_
  refine PR.op rfl (Rd.fieldO rfl rfl) ?_
  refine PR.guard_on rfl rfl h_46 ?_
  refine PR.op rfl (Rd.loadO rfl rfl rfl) ?_
  refine PR.guard_on rfl rfl h_46 ?_
  refine PR.op rfl (Rd.moveT rfl) ?_
  refine PR.guard_on rfl rfl h_46 ?_
  refine PR.op rfl (Rd.geq rfl rfl) ?_
  refine PR.op rfl (Rd.pick_t rfl h_46) ?_
  refine PR.op rfl (Rd.asnT rfl) ?_
  refine PR.nil ?_
  refine PT.done ?_
  refine PL.nil ?_
  refine thA_n ?_
  refine PC.ret ?_
  obtain rfl := some_in hh0
  exact FinA.mk (r := bA (decide (r2.2 ≤ r4.forced))) (bl := []) [] (.inl rfl) rfl (rl := [.tmp 2]) (.tmp .nil) rfl rfl rfl (.t _) trivial ⟨rfl, rfl⟩

def m_L_FnTouchPageOrder (N : Nat) (p_code : (List UInt8)) : Option (Bool) :=
  cond (decide ((1048576 : Int) < (p_code.length : Int)))
    (some true)
    ((m_S_DrawTouchPage N p_code).bind fun r2 =>
    (m_I_TouchPage N r2.1 r2.2.1 r2.2.2).bind fun r4 =>
    (m_S_TouchPage N r2.1 r2.2.1 r2.2.2).bind fun r6 =>
    (m_L_equalBuffer N r4.1 r6.1).bind fun r8 =>
    cond r8
      (cond (r4.2 == r6.2)
        (cond r4.2
          ((m_I_TouchPage N r4.1 r2.2.1 r2.2.2).bind fun r13 =>
          (chk (r2.2.2 - (1 : Int))).bind fun n15 =>
          (m_I_TouchPage N r4.1 r2.2.1 n15).bind fun r17 =>
          (chk (r2.2.2 + (1 : Int))).bind fun n19 =>
          (m_I_TouchPage N r4.1 r2.2.1 n19).bind fun r21 =>
          cond r13.2
            (some false)
            (cond r17.2
              (some false)
              (cond r21.2
                (some true)
                (some (decide (r2.2.2 = (9999 : Int)))))))
          ((m_L_equalBuffer N r4.1 r6.1).bind fun r26 =>
          cond r26
            (some (r4.2 == r6.2))
            (some false)))
        ((m_L_equalBuffer N r4.1 r6.1).bind fun r29 =>
        cond r29
          (some (r4.2 == r6.2))
          (some false)))
      ((m_L_equalBuffer N r4.1 r6.1).bind fun r32 =>
      cond r32
        (some (r4.2 == r6.2))
        (some false)))
theorem w_L_FnTouchPageOrder (N : Nat) (p_code : (List UInt8)) (r : Bool) (hh0 : m_L_FnTouchPageOrder N p_code = some r) : FnX Try.prog 5 [] [sL p_code] (RE (bA r) []) := by
  unfold m_L_FnTouchPageOrder at hh0
  refine FnX.mk Try.func5 rfl rfl ?_
  intro s hs
  refine PC.seq ?_
  refine PC.region ?_
  refine PL.op rfl (Rd.asnT rfl) ?_
  refine PL.nil ?_
  refine thA_n ?_
  refine PC.seq ?_
  refine PC.seq ?_
  refine PC.region ?_
  refine PL.op rfl (Rd.moveT rfl) ?_
  refine PL.op rfl (Rd.lenT rfl) ?_
  refine PL.op rfl (Rd.gtr rfl rfl) ?_
  refine PL.nil ?_
  refine thA_n ?_
  rcases cond_some hh0 with ⟨h_1, hh0⟩ | ⟨h_1, hh0⟩
  · refine PC.cond_true rfl h_1 ?_
    refine PC.seq ?_
    refine PC.region ?_
    refine PL.op rfl (Rd.asnT rfl) ?_
    refine PL.nil ?_
    refine thA_n ?_
    refine PC.ret ?_
    refine thA_r ?_
    obtain rfl := some_in hh0
    exact FinA.mk (r := bA true) (bl := []) [] (.inl rfl) rfl (rl := [.tmp 2]) (.tmp .nil) rfl rfl rfl (.t _) trivial ⟨rfl, rfl⟩
  refine PC.cond_false rfl h_1 ?_
  refine PC.skip ?_
  refine thA_n ?_
  refine PC.seq ?_
  obtain ⟨r2, h_3, hh0⟩ := bind_some hh0
  refine PC.region ?_
  refine PL.op rfl (Rd.moveT rfl) ?_
  refine PL.callM false [] (w_S_DrawTouchPage N p_code r2 h_3) rfl Try.call22 rfl ⟨.t _, trivial⟩ rfl trivial (fun h => by cases h) ?_
  refine PL.nm (.tup [.agg [.os 0 0 r2.1.frames.length, iA r2.1.forced], iA r2.2.1, iA r2.2.2]) [some ⟨.tr (eL r2.1.frames), 59, 4⟩] rfl rfl ?_
  refine PL.op rfl (Rd.moveU rfl) ?_
  refine PL.op rfl (Rd.extract rfl rfl) ?_
  refine PL.op rfl (Rd.extract rfl rfl) ?_
  refine PL.op rfl (Rd.extract rfl rfl) ?_
  refine PL.ef rfl (Ef.alloc rfl rfl) ?_
  refine PL.nm (.op 1 0) [some ⟨.tr (eL r2.1.frames), 59, 4⟩, some ⟨.mx [.t (.v (.slice none 0 0)), iA (0 : Int)], 28, 0⟩] rfl rfl ?_
  refine PL.store rfl rfl rfl rfl rfl rfl rfl ?_
  refine PL.nO [some ⟨.tr (eL r2.1.frames), 59, 4⟩, some ⟨.mx [.os 0 0 r2.1.frames.length, iA r2.1.forced], 28, 0⟩] rfl ?_
  refine PL.op rfl (Rd.asnT rfl) ?_
  refine PL.op rfl (Rd.asnT rfl) ?_
  refine PL.nil ?_
  refine thA_n ?_
  refine PC.seq ?_
  obtain ⟨r4, h_5, hh0⟩ := bind_some hh0
  refine PC.region ?_
  refine PL.op rfl (Rd.loadBox rfl rfl rfl) ?_
  refine PL.op rfl (Rd.moveT rfl) ?_
  refine PL.op rfl (Rd.moveT rfl) ?_
  refine PL.callM true [] (w_I_TouchPage N r2.1 r2.2.1 r2.2.2 r4 h_5) rfl Try.call23 rfl ⟨.aggL ⟨.own rfl (by first | decide | exact List.not_mem_nil) rfl rfl, .t _, trivial⟩, .t _, .t _, trivial⟩ rfl trivial (fun _ => ⟨⟨⟨trivial, trivial, trivial⟩, trivial, trivial⟩, (flat_cons flat_ow flat_nil)⟩) ?_
  refine PL.nm (.tup [.agg [.os 2 0 r4.1.frames.length, iA r4.1.forced], bA r4.2]) [some ⟨.tr (eL r2.1.frames), 59, 4⟩, some ⟨.mx [.os 0 0 r2.1.frames.length, iA r2.1.forced], 28, 0⟩, some ⟨.tr (eL r4.1.frames), 59, 4⟩] rfl rfl ?_
  refine PL.op rfl (Rd.moveU rfl) ?_
  refine PL.op rfl (Rd.extract rfl rfl) ?_
  refine PL.op rfl (Rd.extract rfl rfl) ?_
  refine PL.ef rfl (Ef.alloc rfl rfl) ?_
  refine PL.nm (.op 3 0) [some ⟨.tr (eL r2.1.frames), 59, 4⟩, some ⟨.mx [.os 0 0 r2.1.frames.length, iA r2.1.forced], 28, 0⟩, some ⟨.tr (eL r4.1.frames), 59, 4⟩, some ⟨.mx [.t (.v (.slice none 0 0)), iA (0 : Int)], 28, 0⟩] rfl rfl ?_
  refine PL.store rfl rfl rfl rfl rfl rfl rfl ?_
  refine PL.nO [some ⟨.tr (eL r2.1.frames), 59, 4⟩, some ⟨.mx [.os 0 0 r2.1.frames.length, iA r2.1.forced], 28, 0⟩, some ⟨.tr (eL r4.1.frames), 59, 4⟩, some ⟨.mx [.os 2 0 r4.1.frames.length, iA r4.1.forced], 28, 0⟩] rfl ?_
  refine PL.op rfl (Rd.asnT rfl) ?_
  refine PL.nil ?_
  refine thA_n ?_
  refine PC.seq ?_
  obtain ⟨r6, h_7, hh0⟩ := bind_some hh0
  refine PC.region ?_
  refine PL.op rfl (Rd.loadBox rfl rfl rfl) ?_
  refine PL.op rfl (Rd.moveT rfl) ?_
  refine PL.op rfl (Rd.moveT rfl) ?_
  refine PL.callM true [] (w_S_TouchPage N r2.1 r2.2.1 r2.2.2 r6 h_7) rfl Try.call24 rfl ⟨.aggL ⟨.own rfl (by first | decide | exact List.not_mem_nil) rfl rfl, .t _, trivial⟩, .t _, .t _, trivial⟩ rfl trivial (fun _ => ⟨⟨⟨trivial, trivial, trivial⟩, trivial, trivial⟩, (flat_cons flat_ow flat_nil)⟩) ?_
  refine PL.nm (.tup [.agg [.os 4 0 r6.1.frames.length, iA r6.1.forced], bA r6.2]) [some ⟨.tr (eL r2.1.frames), 59, 4⟩, some ⟨.mx [.os 0 0 r2.1.frames.length, iA r2.1.forced], 28, 0⟩, some ⟨.tr (eL r4.1.frames), 59, 4⟩, some ⟨.mx [.os 2 0 r4.1.frames.length, iA r4.1.forced], 28, 0⟩, some ⟨.tr (eL r6.1.frames), 59, 4⟩] rfl rfl ?_
  refine PL.op rfl (Rd.moveU rfl) ?_
  refine PL.op rfl (Rd.extract rfl rfl) ?_
  refine PL.op rfl (Rd.extract rfl rfl) ?_
  refine PL.ef rfl (Ef.alloc rfl rfl) ?_
  refine PL.nm (.op 5 0) [some ⟨.tr (eL r2.1.frames), 59, 4⟩, some ⟨.mx [.os 0 0 r2.1.frames.length, iA r2.1.forced], 28, 0⟩, some ⟨.tr (eL r4.1.frames), 59, 4⟩, some ⟨.mx [.os 2 0 r4.1.frames.length, iA r4.1.forced], 28, 0⟩, some ⟨.tr (eL r6.1.frames), 59, 4⟩, some ⟨.mx [.t (.v (.slice none 0 0)), iA (0 : Int)], 28, 0⟩] rfl rfl ?_
  refine PL.store rfl rfl rfl rfl rfl rfl rfl ?_
  refine PL.nO [some ⟨.tr (eL r2.1.frames), 59, 4⟩, some ⟨.mx [.os 0 0 r2.1.frames.length, iA r2.1.forced], 28, 0⟩, some ⟨.tr (eL r4.1.frames), 59, 4⟩, some ⟨.mx [.os 2 0 r4.1.frames.length, iA r4.1.forced], 28, 0⟩, some ⟨.tr (eL r6.1.frames), 59, 4⟩, some ⟨.mx [.os 4 0 r6.1.frames.length, iA r6.1.forced], 28, 0⟩] rfl ?_
  refine PL.op rfl (Rd.asnT rfl) ?_
  refine PL.nil ?_
  refine thA_n ?_
  refine PC.seq ?_
  refine PC.seq ?_
  obtain ⟨r8, h_9, hh0⟩ := bind_some hh0
  rcases cond_some hh0 with ⟨h_10, hh0⟩ | ⟨h_10, hh0⟩
  rotate_left
  · refine PC.region ?_
    refine PL.op rfl (Rd.loadBox rfl rfl rfl) ?_
    refine PL.op rfl (Rd.loadBox rfl rfl rfl) ?_
    refine PL.callM true [] (w_L_equalBuffer N r4.1 r6.1 r8 h_9) rfl Try.call19 rfl ⟨.aggL ⟨.own rfl (by first | decide | exact List.not_mem_nil) rfl rfl, .t _, trivial⟩, .aggL ⟨.own rfl (by first | decide | exact List.not_mem_nil) rfl rfl, .t _, trivial⟩, trivial⟩ rfl trivial (fun _ => ⟨trivial, flat_nil⟩) ?_
    refine PL.op rfl (Rd.unnot rfl) ?_
    refine PL.op rfl (Rd.moveT rfl) ?_
    refine PL.guard_off rfl rfl (not_f h_10) ?_
    refine PL.guard_off rfl rfl (not_f h_10) ?_
    refine PL.guard_off rfl rfl (not_f h_10) ?_
    refine PL.op rfl (Rd.pick_t rfl (not_f h_10)) ?_
    refine PL.op rfl (Rd.moveT rfl) ?_
    refine PL.guard_off rfl rfl rfl ?_
    refine PL.guard_off rfl rfl rfl ?_
    refine PL.op rfl (Rd.pick_t rfl rfl) ?_
    refine PL.nil ?_
    refine thA_n ?_
    refine PC.cond_true rfl rfl ?_
    refine PC.seq ?_
    obtain ⟨r32, h_33, hh0⟩ := bind_some hh0
    rcases cond_some hh0 with ⟨h_34, hh0⟩ | ⟨h_34, hh0⟩
    rotate_left
    · refine PC.region ?_
      refine PL.op rfl (Rd.loadBox rfl rfl rfl) ?_
      refine PL.op rfl (Rd.loadBox rfl rfl rfl) ?_
      refine PL.callM true [] (w_L_equalBuffer N r4.1 r6.1 r32 h_33) rfl Try.call19 rfl ⟨.aggL ⟨.own rfl (by first | decide | exact List.not_mem_nil) rfl rfl, .t _, trivial⟩, .aggL ⟨.own rfl (by first | decide | exact List.not_mem_nil) rfl rfl, .t _, trivial⟩, trivial⟩ rfl trivial (fun _ => ⟨trivial, flat_nil⟩) ?_
      refine PL.op rfl (Rd.moveT rfl) ?_
      refine PL.guard_off rfl rfl h_34 ?_
      refine PL.guard_off rfl rfl h_34 ?_
      refine PL.guard_off rfl rfl h_34 ?_
      refine PL.op rfl (Rd.pick_f rfl h_34) ?_
      refine PL.op rfl (Rd.asnT rfl) ?_
      refine PL.nil ?_
      refine thA_n ?_
      refine PC.ret ?_
      refine thA_r ?_
      obtain rfl := some_in hh0
      exact FinA.mk (r := bA false) (bl := []) [] (.inl rfl) rfl (rl := [.tmp 2]) (.tmp .nil) rfl rfl rfl (.t _) trivial ⟨rfl, rfl⟩
    refine PC.region ?_
    refine PL.op rfl (Rd.loadBox rfl rfl rfl) ?_
    refine PL.op rfl (Rd.loadBox rfl rfl rfl) ?_
    refine PL.callM true [] (w_L_equalBuffer N r4.1 r6.1 r32 h_33) rfl Try.call19 rfl ⟨.aggL ⟨.own rfl (by first | decide | exact List.not_mem_nil) rfl rfl, .t _, trivial⟩, .aggL ⟨.own rfl (by first | decide | exact List.not_mem_nil) rfl rfl, .t _, trivial⟩, trivial⟩ rfl trivial (fun _ => ⟨trivial, flat_nil⟩) ?_
    refine PL.op rfl (Rd.moveT rfl) ?_
    refine PL.guard_on rfl h_34 ?_
    refine PL.op rfl (Rd.moveT rfl) ?_
    refine PL.guard_on rfl h_34 ?_
    refine PL.op rfl (Rd.moveT rfl) ?_
    refine PL.guard_on rfl h_34 ?_
    refine PL.op rfl (Rd.eqlB rfl rfl) ?_
    refine PL.op rfl (Rd.pick_t rfl h_34) ?_
    refine PL.op rfl (Rd.asnT rfl) ?_
    refine PL.nil ?_
    refine thA_n ?_
    refine PC.ret ?_
    refine thA_r ?_
    obtain rfl := some_in hh0
    exact FinA.mk (r := bA (r4.2 == r6.2)) (bl := []) [] (.inl rfl) rfl (rl := [.tmp 2]) (.tmp .nil) rfl rfl rfl (.t _) trivial ⟨rfl, rfl⟩
  rcases cond_some hh0 with ⟨h_11, hh0⟩ | ⟨h_11, hh0⟩
  rotate_left
  · refine PC.region ?_
    refine PL.op rfl (Rd.loadBox rfl rfl rfl) ?_
    refine PL.op rfl (Rd.loadBox rfl rfl rfl) ?_
    refine PL.callM true [] (w_L_equalBuffer N r4.1 r6.1 r8 h_9) rfl Try.call19 rfl ⟨.aggL ⟨.own rfl (by first | decide | exact List.not_mem_nil) rfl rfl, .t _, trivial⟩, .aggL ⟨.own rfl (by first | decide | exact List.not_mem_nil) rfl rfl, .t _, trivial⟩, trivial⟩ rfl trivial (fun _ => ⟨trivial, flat_nil⟩) ?_
    refine PL.op rfl (Rd.unnot rfl) ?_
    refine PL.op rfl (Rd.moveT rfl) ?_
    refine PL.guard_on rfl (not_t h_10) ?_
    refine PL.op rfl (Rd.moveT rfl) ?_
    refine PL.guard_on rfl (not_t h_10) ?_
    refine PL.op rfl (Rd.moveT rfl) ?_
    refine PL.guard_on rfl (not_t h_10) ?_
    refine PL.op rfl (Rd.neqB rfl rfl) ?_
    refine PL.op rfl (Rd.pick_f rfl (not_t h_10)) ?_
    refine PL.op rfl (Rd.moveT rfl) ?_
    refine PL.guard_off rfl rfl (not_f h_11) ?_
    refine PL.guard_off rfl rfl (not_f h_11) ?_
    refine PL.op rfl (Rd.pick_t rfl (not_f h_11)) ?_
    refine PL.nil ?_
    refine thA_n ?_
    refine PC.cond_true rfl rfl ?_
    refine PC.seq ?_
    obtain ⟨r29, h_30, hh0⟩ := bind_some hh0
    rcases cond_some hh0 with ⟨h_31, hh0⟩ | ⟨h_31, hh0⟩
    rotate_left
    · refine PC.region ?_
      refine PL.op rfl (Rd.loadBox rfl rfl rfl) ?_
      refine PL.op rfl (Rd.loadBox rfl rfl rfl) ?_
      refine PL.callM true [] (w_L_equalBuffer N r4.1 r6.1 r29 h_30) rfl Try.call19 rfl ⟨.aggL ⟨.own rfl (by first | decide | exact List.not_mem_nil) rfl rfl, .t _, trivial⟩, .aggL ⟨.own rfl (by first | decide | exact List.not_mem_nil) rfl rfl, .t _, trivial⟩, trivial⟩ rfl trivial (fun _ => ⟨trivial, flat_nil⟩) ?_
      refine PL.op rfl (Rd.moveT rfl) ?_
      refine PL.guard_off rfl rfl h_31 ?_
      refine PL.guard_off rfl rfl h_31 ?_
      refine PL.guard_off rfl rfl h_31 ?_
      refine PL.op rfl (Rd.pick_f rfl h_31) ?_
      refine PL.op rfl (Rd.asnT rfl) ?_
      refine PL.nil ?_
      refine thA_n ?_
      refine PC.ret ?_
      refine thA_r ?_
      obtain rfl := some_in hh0
      exact FinA.mk (r := bA false) (bl := []) [] (.inl rfl) rfl (rl := [.tmp 2]) (.tmp .nil) rfl rfl rfl (.t _) trivial ⟨rfl, rfl⟩
    refine PC.region ?_
    refine PL.op rfl (Rd.loadBox rfl rfl rfl) ?_
    refine PL.op rfl (Rd.loadBox rfl rfl rfl) ?_
    refine PL.callM true [] (w_L_equalBuffer N r4.1 r6.1 r29 h_30) rfl Try.call19 rfl ⟨.aggL ⟨.own rfl (by first | decide | exact List.not_mem_nil) rfl rfl, .t _, trivial⟩, .aggL ⟨.own rfl (by first | decide | exact List.not_mem_nil) rfl rfl, .t _, trivial⟩, trivial⟩ rfl trivial (fun _ => ⟨trivial, flat_nil⟩) ?_
    refine PL.op rfl (Rd.moveT rfl) ?_
    refine PL.guard_on rfl h_31 ?_
    refine PL.op rfl (Rd.moveT rfl) ?_
    refine PL.guard_on rfl h_31 ?_
    refine PL.op rfl (Rd.moveT rfl) ?_
    refine PL.guard_on rfl h_31 ?_
    refine PL.op rfl (Rd.eqlB rfl rfl) ?_
    refine PL.op rfl (Rd.pick_t rfl h_31) ?_
    refine PL.op rfl (Rd.asnT rfl) ?_
    refine PL.nil ?_
    refine thA_n ?_
    refine PC.ret ?_
    refine thA_r ?_
    obtain rfl := some_in hh0
    exact FinA.mk (r := bA (r4.2 == r6.2)) (bl := []) [] (.inl rfl) rfl (rl := [.tmp 2]) (.tmp .nil) rfl rfl rfl (.t _) trivial ⟨rfl, rfl⟩
  refine PC.region ?_
  refine PL.op rfl (Rd.loadBox rfl rfl rfl) ?_
  refine PL.op rfl (Rd.loadBox rfl rfl rfl) ?_
  refine PL.callM true [] (w_L_equalBuffer N r4.1 r6.1 r8 h_9) rfl Try.call19 rfl ⟨.aggL ⟨.own rfl (by first | decide | exact List.not_mem_nil) rfl rfl, .t _, trivial⟩, .aggL ⟨.own rfl (by first | decide | exact List.not_mem_nil) rfl rfl, .t _, trivial⟩, trivial⟩ rfl trivial (fun _ => ⟨trivial, flat_nil⟩) ?_
  refine PL.op rfl (Rd.unnot rfl) ?_
  refine PL.op rfl (Rd.moveT rfl) ?_
  refine PL.guard_on rfl (not_t h_10) ?_
  refine PL.op rfl (Rd.moveT rfl) ?_
  refine PL.guard_on rfl (not_t h_10) ?_
  refine PL.op rfl (Rd.moveT rfl) ?_
  refine PL.guard_on rfl (not_t h_10) ?_
  refine PL.op rfl (Rd.neqB rfl rfl) ?_
  refine PL.op rfl (Rd.pick_f rfl (not_t h_10)) ?_
  refine PL.op rfl (Rd.moveT rfl) ?_
  refine PL.guard_on rfl (not_t h_11) ?_
  refine PL.op rfl (Rd.moveT rfl) ?_
  refine PL.guard_on rfl (not_t h_11) ?_
  refine PL.op rfl (Rd.unnot rfl) ?_
  refine PL.op rfl (Rd.pick_f rfl (not_t h_11)) ?_
  refine PL.nil ?_
  refine thA_n ?_
  rcases cond_some hh0 with ⟨h_12, hh0⟩ | ⟨h_12, hh0⟩
  rotate_left
  · refine PC.cond_true rfl (not_f h_12) ?_
    refine PC.seq ?_
    obtain ⟨r26, h_27, hh0⟩ := bind_some hh0
    rcases cond_some hh0 with ⟨h_28, hh0⟩ | ⟨h_28, hh0⟩
    rotate_left
    · refine PC.region ?_
      refine PL.op rfl (Rd.loadBox rfl rfl rfl) ?_
      refine PL.op rfl (Rd.loadBox rfl rfl rfl) ?_
      refine PL.callM true [] (w_L_equalBuffer N r4.1 r6.1 r26 h_27) rfl Try.call19 rfl ⟨.aggL ⟨.own rfl (by first | decide | exact List.not_mem_nil) rfl rfl, .t _, trivial⟩, .aggL ⟨.own rfl (by first | decide | exact List.not_mem_nil) rfl rfl, .t _, trivial⟩, trivial⟩ rfl trivial (fun _ => ⟨trivial, flat_nil⟩) ?_
      refine PL.op rfl (Rd.moveT rfl) ?_
      refine PL.guard_off rfl rfl h_28 ?_
      refine PL.guard_off rfl rfl h_28 ?_
      refine PL.guard_off rfl rfl h_28 ?_
      refine PL.op rfl (Rd.pick_f rfl h_28) ?_
      refine PL.op rfl (Rd.asnT rfl) ?_
      refine PL.nil ?_
      refine thA_n ?_
      refine PC.ret ?_
      refine thA_r ?_
      obtain rfl := some_in hh0
      exact FinA.mk (r := bA false) (bl := []) [] (.inl rfl) rfl (rl := [.tmp 2]) (.tmp .nil) rfl rfl rfl (.t _) trivial ⟨rfl, rfl⟩
    refine PC.region ?_
    refine PL.op rfl (Rd.loadBox rfl rfl rfl) ?_
    refine PL.op rfl (Rd.loadBox rfl rfl rfl) ?_
    refine PL.callM true [] (w_L_equalBuffer N r4.1 r6.1 r26 h_27) rfl Try.call19 rfl ⟨.aggL ⟨.own rfl (by first | decide | exact List.not_mem_nil) rfl rfl, .t _, trivial⟩, .aggL ⟨.own rfl (by first | decide | exact List.not_mem_nil) rfl rfl, .t _, trivial⟩, trivial⟩ rfl trivial (fun _ => ⟨trivial, flat_nil⟩) ?_
    refine PL.op rfl (Rd.moveT rfl) ?_
    refine PL.guard_on rfl h_28 ?_
    refine PL.op rfl (Rd.moveT rfl) ?_
    refine PL.guard_on rfl h_28 ?_
    refine PL.op rfl (Rd.moveT rfl) ?_
    refine PL.guard_on rfl h_28 ?_
    refine PL.op rfl (Rd.eqlB rfl rfl) ?_
    refine PL.op rfl (Rd.pick_t rfl h_28) ?_
    refine PL.op rfl (Rd.asnT rfl) ?_
    refine PL.nil ?_
    refine thA_n ?_
    refine PC.ret ?_
    refine thA_r ?_
    obtain rfl := some_in hh0
    exact FinA.mk (r := bA (r4.2 == r6.2)) (bl := []) [] (.inl rfl) rfl (rl := [.tmp 2]) (.tmp .nil) rfl rfl rfl (.t _) trivial ⟨rfl, rfl⟩
  refine PC.cond_false rfl (not_t h_12) ?_
  refine PC.skip ?_
  refine thA_n ?_
  refine PC.seq ?_
  obtain ⟨r13, h_14, hh0⟩ := bind_some hh0
  refine PC.region ?_
  refine PL.op rfl (Rd.loadBox rfl rfl rfl) ?_
  refine PL.op rfl (Rd.moveT rfl) ?_
  refine PL.op rfl (Rd.moveT rfl) ?_
  refine PL.callM true [] (w_I_TouchPage N r4.1 r2.2.1 r2.2.2 r13 h_14) rfl Try.call23 rfl ⟨.aggL ⟨.own rfl (by first | decide | exact List.not_mem_nil) rfl rfl, .t _, trivial⟩, .t _, .t _, trivial⟩ rfl trivial (fun _ => ⟨⟨⟨trivial, trivial, trivial⟩, trivial, trivial⟩, (flat_cons flat_ow flat_nil)⟩) ?_
  refine PL.nm (.tup [.agg [.os 6 0 r13.1.frames.length, iA r13.1.forced], bA r13.2]) [some ⟨.tr (eL r2.1.frames), 59, 4⟩, some ⟨.mx [.os 0 0 r2.1.frames.length, iA r2.1.forced], 28, 0⟩, some ⟨.tr (eL r4.1.frames), 59, 4⟩, some ⟨.mx [.os 2 0 r4.1.frames.length, iA r4.1.forced], 28, 0⟩, some ⟨.tr (eL r6.1.frames), 59, 4⟩, some ⟨.mx [.os 4 0 r6.1.frames.length, iA r6.1.forced], 28, 0⟩, some ⟨.tr (eL r13.1.frames), 59, 4⟩] rfl rfl ?_
  refine PL.op rfl (Rd.moveU rfl) ?_
  refine PL.op rfl (Rd.extract rfl rfl) ?_
  refine PL.op rfl (Rd.extract rfl rfl) ?_
  refine PL.ef rfl (Ef.alloc rfl rfl) ?_
  refine PL.nm (.op 7 0) [some ⟨.tr (eL r2.1.frames), 59, 4⟩, some ⟨.mx [.os 0 0 r2.1.frames.length, iA r2.1.forced], 28, 0⟩, some ⟨.tr (eL r4.1.frames), 59, 4⟩, some ⟨.mx [.os 2 0 r4.1.frames.length, iA r4.1.forced], 28, 0⟩, some ⟨.tr (eL r6.1.frames), 59, 4⟩, some ⟨.mx [.os 4 0 r6.1.frames.length, iA r6.1.forced], 28, 0⟩, some ⟨.tr (eL r13.1.frames), 59, 4⟩, some ⟨.mx [.t (.v (.slice none 0 0)), iA (0 : Int)], 28, 0⟩] rfl rfl ?_
  refine PL.store rfl rfl rfl rfl rfl rfl rfl ?_
  refine PL.nO [some ⟨.tr (eL r2.1.frames), 59, 4⟩, some ⟨.mx [.os 0 0 r2.1.frames.length, iA r2.1.forced], 28, 0⟩, some ⟨.tr (eL r4.1.frames), 59, 4⟩, some ⟨.mx [.os 2 0 r4.1.frames.length, iA r4.1.forced], 28, 0⟩, some ⟨.tr (eL r6.1.frames), 59, 4⟩, some ⟨.mx [.os 4 0 r6.1.frames.length, iA r6.1.forced], 28, 0⟩, some ⟨.tr (eL r13.1.frames), 59, 4⟩, some ⟨.mx [.os 6 0 r13.1.frames.length, iA r13.1.forced], 28, 0⟩] rfl ?_
  refine PL.op rfl (Rd.asnT rfl) ?_
  refine PL.nil ?_
  refine thA_n ?_
  refine PC.seq ?_
  obtain ⟨n15, h_16, hh0⟩ := bind_some hh0
  obtain ⟨r17, h_18, hh0⟩ := bind_some hh0
  refine PC.region ?_
  refine PL.op rfl (Rd.loadBox rfl rfl rfl) ?_
  refine PL.op rfl (Rd.moveT rfl) ?_
  refine PL.op rfl (Rd.moveT rfl) ?_
  refine PL.op rfl (Rd.subM rfl rfl h_16) ?_
  refine PL.callM true [] (w_I_TouchPage N r4.1 r2.2.1 n15 r17 h_18) rfl Try.call23 rfl ⟨.aggL ⟨.own rfl (by first | decide | exact List.not_mem_nil) rfl rfl, .t _, trivial⟩, .t _, .t _, trivial⟩ rfl trivial (fun _ => ⟨⟨⟨trivial, trivial, trivial⟩, trivial, trivial⟩, (flat_cons flat_ow flat_nil)⟩) ?_
  refine PL.nm (.tup [.agg [.os 8 0 r17.1.frames.length, iA r17.1.forced], bA r17.2]) [some ⟨.tr (eL r2.1.frames), 59, 4⟩, some ⟨.mx [.os 0 0 r2.1.frames.length, iA r2.1.forced], 28, 0⟩, some ⟨.tr (eL r4.1.frames), 59, 4⟩, some ⟨.mx [.os 2 0 r4.1.frames.length, iA r4.1.forced], 28, 0⟩, some ⟨.tr (eL r6.1.frames), 59, 4⟩, some ⟨.mx [.os 4 0 r6.1.frames.length, iA r6.1.forced], 28, 0⟩, some ⟨.tr (eL r13.1.frames), 59, 4⟩, some ⟨.mx [.os 6 0 r13.1.frames.length, iA r13.1.forced], 28, 0⟩, some ⟨.tr (eL r17.1.frames), 59, 4⟩] rfl rfl ?_
  refine PL.op rfl (Rd.moveU rfl) ?_
  refine PL.op rfl (Rd.extract rfl rfl) ?_
  refine PL.op rfl (Rd.extract rfl rfl) ?_
  refine PL.ef rfl (Ef.alloc rfl rfl) ?_
  refine PL.nm (.op 9 0) [some ⟨.tr (eL r2.1.frames), 59, 4⟩, some ⟨.mx [.os 0 0 r2.1.frames.length, iA r2.1.forced], 28, 0⟩, some ⟨.tr (eL r4.1.frames), 59, 4⟩, some ⟨.mx [.os 2 0 r4.1.frames.length, iA r4.1.forced], 28, 0⟩, some ⟨.tr (eL r6.1.frames), 59, 4⟩, some ⟨.mx [.os 4 0 r6.1.frames.length, iA r6.1.forced], 28, 0⟩, some ⟨.tr (eL r13.1.frames), 59, 4⟩, some ⟨.mx [.os 6 0 r13.1.frames.length, iA r13.1.forced], 28, 0⟩, some ⟨.tr (eL r17.1.frames), 59, 4⟩, some ⟨.mx [.t (.v (.slice none 0 0)), iA (0 : Int)], 28, 0⟩] rfl rfl ?_
  refine PL.store rfl rfl rfl rfl rfl rfl rfl ?_
  refine PL.nO [some ⟨.tr (eL r2.1.frames), 59, 4⟩, some ⟨.mx [.os 0 0 r2.1.frames.length, iA r2.1.forced], 28, 0⟩, some ⟨.tr (eL r4.1.frames), 59, 4⟩, some ⟨.mx [.os 2 0 r4.1.frames.length, iA r4.1.forced], 28, 0⟩, some ⟨.tr (eL r6.1.frames), 59, 4⟩, some ⟨.mx [.os 4 0 r6.1.frames.length, iA r6.1.forced], 28, 0⟩, some ⟨.tr (eL r13.1.frames), 59, 4⟩, some ⟨.mx [.os 6 0 r13.1.frames.length, iA r13.1.forced], 28, 0⟩, some ⟨.tr (eL r17.1.frames), 59, 4⟩, some ⟨.mx [.os 8 0 r17.1.frames.length, iA r17.1.forced], 28, 0⟩] rfl ?_
  refine PL.op rfl (Rd.asnT rfl) ?_
  refine PL.nil ?_
  refine thA_n ?_
  refine PC.seq ?_
  obtain ⟨n19, h_20, hh0⟩ := bind_some hh0
  obtain ⟨r21, h_22, hh0⟩ := bind_some hh0
  refine PC.region ?_
  refine PL.op rfl (Rd.loadBox rfl rfl rfl) ?_
  refine PL.op rfl (Rd.moveT rfl) ?_
  refine PL.op rfl (Rd.moveT rfl) ?_
  refine PL.op rfl (Rd.addM rfl rfl h_20) ?_
  refine PL.callM true [] (w_I_TouchPage N r4.1 r2.2.1 n19 r21 h_22) rfl Try.call23 rfl ⟨.aggL ⟨.own rfl (by first | decide | exact List.not_mem_nil) rfl rfl, .t _, trivial⟩, .t _, .t _, trivial⟩ rfl trivial (fun _ => ⟨⟨⟨trivial, trivial, trivial⟩, trivial, trivial⟩, (flat_cons flat_ow flat_nil)⟩) ?_
  refine PL.nm (.tup [.agg [.os 10 0 r21.1.frames.length, iA r21.1.forced], bA r21.2]) [some ⟨.tr (eL r2.1.frames), 59, 4⟩, some ⟨.mx [.os 0 0 r2.1.frames.length, iA r2.1.forced], 28, 0⟩, some ⟨.tr (eL r4.1.frames), 59, 4⟩, some ⟨.mx [.os 2 0 r4.1.frames.length, iA r4.1.forced], 28, 0⟩, some ⟨.tr (eL r6.1.frames), 59, 4⟩, some ⟨.mx [.os 4 0 r6.1.frames.length, iA r6.1.forced], 28, 0⟩, some ⟨.tr (eL r13.1.frames), 59, 4⟩, some ⟨.mx [.os 6 0 r13.1.frames.length, iA r13.1.forced], 28, 0⟩, some ⟨.tr (eL r17.1.frames), 59, 4⟩, some ⟨.mx [.os 8 0 r17.1.frames.length, iA r17.1.forced], 28, 0⟩, some ⟨.tr (eL r21.1.frames), 59, 4⟩] rfl rfl ?_
  refine PL.op rfl (Rd.moveU rfl) ?_
  refine PL.op rfl (Rd.extract rfl rfl) ?_
  refine PL.op rfl (Rd.extract rfl rfl) ?_
  refine PL.ef rfl (Ef.alloc rfl rfl) ?_
  refine PL.nm (.op 11 0) [some ⟨.tr (eL r2.1.frames), 59, 4⟩, some ⟨.mx [.os 0 0 r2.1.frames.length, iA r2.1.forced], 28, 0⟩, some ⟨.tr (eL r4.1.frames), 59, 4⟩, some ⟨.mx [.os 2 0 r4.1.frames.length, iA r4.1.forced], 28, 0⟩, some ⟨.tr (eL r6.1.frames), 59, 4⟩, some ⟨.mx [.os 4 0 r6.1.frames.length, iA r6.1.forced], 28, 0⟩, some ⟨.tr (eL r13.1.frames), 59, 4⟩, some ⟨.mx [.os 6 0 r13.1.frames.length, iA r13.1.forced], 28, 0⟩, some ⟨.tr (eL r17.1.frames), 59, 4⟩, some ⟨.mx [.os 8 0 r17.1.frames.length, iA r17.1.forced], 28, 0⟩, some ⟨.tr (eL r21.1.frames), 59, 4⟩, some ⟨.mx [.t (.v (.slice none 0 0)), iA (0 : Int)], 28, 0⟩] rfl rfl ?_
  refine PL.store rfl rfl rfl rfl rfl rfl rfl ?_
  refine PL.nO [some ⟨.tr (eL r2.1.frames), 59, 4⟩, some ⟨.mx [.os 0 0 r2.1.frames.length, iA r2.1.forced], 28, 0⟩, some ⟨.tr (eL r4.1.frames), 59, 4⟩, some ⟨.mx [.os 2 0 r4.1.frames.length, iA r4.1.forced], 28, 0⟩, some ⟨.tr (eL r6.1.frames), 59, 4⟩, some ⟨.mx [.os 4 0 r6.1.frames.length, iA r6.1.forced], 28, 0⟩, some ⟨.tr (eL r13.1.frames), 59, 4⟩, some ⟨.mx [.os 6 0 r13.1.frames.length, iA r13.1.forced], 28, 0⟩, some ⟨.tr (eL r17.1.frames), 59, 4⟩, some ⟨.mx [.os 8 0 r17.1.frames.length, iA r17.1.forced], 28, 0⟩, some ⟨.tr (eL r21.1.frames), 59, 4⟩, some ⟨.mx [.os 10 0 r21.1.frames.length, iA r21.1.forced], 28, 0⟩] rfl ?_
  refine PL.op rfl (Rd.asnT rfl) ?_
  refine PL.nil ?_
  refine thA_n ?_
  refine PC.seq ?_
  rcases cond_some hh0 with ⟨h_23, hh0⟩ | ⟨h_23, hh0⟩
  · refine PC.region ?_
    refine PL.op rfl (Rd.moveT rfl) ?_
    refine PL.op rfl (Rd.unnot rfl) ?_
    refine PL.op rfl (Rd.moveT rfl) ?_
    refine PL.guard_off rfl rfl (not_t h_23) ?_
    refine PL.guard_off rfl rfl (not_t h_23) ?_
    refine PL.op rfl (Rd.pick_f rfl (not_t h_23)) ?_
    refine PL.op rfl (Rd.moveT rfl) ?_
    refine PL.guard_off rfl rfl rfl ?_
    refine PL.guard_off rfl rfl rfl ?_
    refine PL.guard_un rfl rfl ?_
    refine PL.guard_un rfl rfl ?_
    refine PL.guard_off rfl rfl rfl ?_
    refine PL.op rfl (Rd.pick_f rfl rfl) ?_
    refine PL.op rfl (Rd.asnT rfl) ?_
    refine PL.nil ?_
    refine thA_n ?_
    refine PC.ret ?_
    obtain rfl := some_in hh0
    exact FinA.mk (r := bA false) (bl := []) [] (.inl rfl) rfl (rl := [.tmp 2]) (.tmp .nil) rfl rfl rfl (.t _) trivial ⟨rfl, rfl⟩
  rcases cond_some hh0 with ⟨h_24, hh0⟩ | ⟨h_24, hh0⟩
  · refine PC.region ?_
    refine PL.op rfl (Rd.moveT rfl) ?_
    refine PL.op rfl (Rd.unnot rfl) ?_
    refine PL.op rfl (Rd.moveT rfl) ?_
    refine PL.guard_on rfl (not_f h_23) ?_
    refine PL.op rfl (Rd.moveT rfl) ?_
    refine PL.guard_on rfl (not_f h_23) ?_
    refine PL.op rfl (Rd.unnot rfl) ?_
    refine PL.op rfl (Rd.pick_t rfl (not_f h_23)) ?_
    refine PL.op rfl (Rd.moveT rfl) ?_
    refine PL.guard_off rfl rfl (not_t h_24) ?_
    refine PL.guard_off rfl rfl (not_t h_24) ?_
    refine PL.guard_un rfl rfl ?_
    refine PL.guard_un rfl rfl ?_
    refine PL.guard_off rfl rfl (not_t h_24) ?_
    refine PL.op rfl (Rd.pick_f rfl (not_t h_24)) ?_
    refine PL.op rfl (Rd.asnT rfl) ?_
    refine PL.nil ?_
    refine thA_n ?_
    refine PC.ret ?_
    obtain rfl := some_in hh0
    exact FinA.mk (r := bA false) (bl := []) [] (.inl rfl) rfl (rl := [.tmp 2]) (.tmp .nil) rfl rfl rfl (.t _) trivial ⟨rfl, rfl⟩
  rcases cond_some hh0 with ⟨h_25, hh0⟩ | ⟨h_25, hh0⟩
  · refine PC.region ?_
    refine PL.op rfl (Rd.moveT rfl) ?_
    refine PL.op rfl (Rd.unnot rfl) ?_
    refine PL.op rfl (Rd.moveT rfl) ?_
    refine PL.guard_on rfl (not_f h_23) ?_
    refine PL.op rfl (Rd.moveT rfl) ?_
    refine PL.guard_on rfl (not_f h_23) ?_
    refine PL.op rfl (Rd.unnot rfl) ?_
    refine PL.op rfl (Rd.pick_t rfl (not_f h_23)) ?_
    refine PL.op rfl (Rd.moveT rfl) ?_
    refine PL.guard_on rfl (not_f h_24) ?_
    refine PL.op rfl (Rd.moveT rfl) ?_
    refine PL.guard_on rfl (not_f h_24) ?_
    refine PL.op rfl (Rd.moveT rfl) ?_
    refine PL.guard_off rfl rfl h_25 ?_
    refine PL.guard_off rfl rfl h_25 ?_
    refine PL.guard_on rfl (not_f h_24) ?_
    refine PL.op rfl (Rd.pick_t rfl h_25) ?_
    refine PL.op rfl (Rd.pick_t rfl (not_f h_24)) ?_
    refine PL.op rfl (Rd.asnT rfl) ?_
    refine PL.nil ?_
    refine thA_n ?_
    refine PC.ret ?_
    obtain rfl := some_in hh0
    exact FinA.mk (r := bA true) (bl := []) [] (.inl rfl) rfl (rl := [.tmp 2]) (.tmp .nil) rfl rfl rfl (.t _) trivial ⟨rfl, rfl⟩
  refine PC.region ?_
  refine PL.op rfl (Rd.moveT rfl) ?_
  refine PL.op rfl (Rd.unnot rfl) ?_
  refine PL.op rfl (Rd.moveT rfl) ?_
  refine PL.guard_on rfl (not_f h_23) ?_
  refine PL.op rfl (Rd.moveT rfl) ?_
  refine PL.guard_on rfl (not_f h_23) ?_
  refine PL.op rfl (Rd.unnot rfl) ?_
  refine PL.op rfl (Rd.pick_t rfl (not_f h_23)) ?_
  refine PL.op rfl (Rd.moveT rfl) ?_
  refine PL.guard_on rfl (not_f h_24) ?_
  refine PL.op rfl (Rd.moveT rfl) ?_
  refine PL.guard_on rfl (not_f h_24) ?_
  refine PL.op rfl (Rd.moveT rfl) ?_
  refine PL.guard_on rfl h_25 ?_
  refine PL.op rfl (Rd.moveT rfl) ?_
  refine PL.guard_on rfl h_25 ?_
  refine PL.op rfl (Rd.eql rfl rfl) ?_
  refine PL.guard_on rfl (not_f h_24) ?_
  refine PL.op rfl (Rd.pick_f rfl h_25) ?_
  refine PL.op rfl (Rd.pick_t rfl (not_f h_24)) ?_
  refine PL.op rfl (Rd.asnT rfl) ?_
  refine PL.nil ?_
  refine thA_n ?_
  refine PC.ret ?_
  obtain rfl := some_in hh0
  exact FinA.mk (r := bA (decide (r2.2.2 = (9999 : Int)))) (bl := []) [] (.inl rfl) rfl (rl := [.tmp 2]) (.tmp .nil) rfl rfl rfl (.t _) trivial ⟨rfl, rfl⟩

def m_L_FnWritePage (N : Nat) (p_code : (List UInt8)) : Option (Bool) :=
  cond (decide ((1048576 : Int) < (p_code.length : Int)))
    (some true)
    ((m_S_DrawWritePage N p_code).bind fun r2 =>
    (m_I_WritePage N r2.1 r2.2).bind fun r4 =>
    (m_S_WritePage N r2.1 r2.2).bind fun r6 =>
    (m_L_equalBuffer N r4.1 r6.1).bind fun r8 =>
    cond r8
      (cond (r4.2 == r6.2)
        ((m_I_CanWrite N r2.1 r2.2).bind fun r12 =>
        cond (r4.2 == r12)
          (cond r4.2
            ((m_I_RedoStart N r4.1).bind fun r16 =>
            (m_I_ValidBuffer N r4.1).bind fun r18 =>
            cond r18
              ((m_I_CanWrite N r4.1 r2.2).bind fun r21 =>
              cond r21
                (some false)
                (cond (decide (r16 = (0 : Int)))
                  (some true)
                  ((m_I_RedoStart N r2.1).bind fun r25 =>
                  some (decide (r25 ≤ r16)))))
              (some false))
            ((m_L_equalBuffer N r4.1 r6.1).bind fun r27 =>
            cond r27
              ((m_I_CanWrite N r2.1 r2.2).bind fun r30 =>
              some (r4.2 == r30))
              (some false)))
          ((m_L_equalBuffer N r4.1 r6.1).bind fun r32 =>
          cond r32
            ((m_I_CanWrite N r2.1 r2.2).bind fun r35 =>
            some (r4.2 == r35))
            (some false)))
        ((m_L_equalBuffer N r4.1 r6.1).bind fun r37 =>
        cond r37
          (some false)
          (some false)))
      ((m_L_equalBuffer N r4.1 r6.1).bind fun r40 =>
      cond r40
        (cond (r4.2 == r6.2)
          ((m_I_CanWrite N r2.1 r2.2).bind fun r44 =>
          some (r4.2 == r44))
          (some false))
        (some false)))
theorem w_L_FnWritePage (N : Nat) (p_code : (List UInt8)) (r : Bool) (hh0 : m_L_FnWritePage N p_code = some r) : FnX Try.prog 6 [] [sL p_code] (RE (bA r) []) := by
  unfold m_L_FnWritePage at hh0
  refine FnX.mk Try.func6 rfl rfl ?_
  intro s hs
  refine PC.seq ?_
  refine PC.region ?_
  refine PL.op rfl (Rd.asnT rfl) ?_
  refine PL.nil ?_
  refine thA_n ?_
  refine PC.seq ?_
  refine PC.seq ?_
  refine PC.region ?_
  refine PL.op rfl (Rd.moveT rfl) ?_
  refine PL.op rfl (Rd.lenT rfl) ?_
  refine PL.op rfl (Rd.gtr rfl rfl) ?_
  refine PL.nil ?_
  refine thA_n ?_
  rcases cond_some hh0 with ⟨h_1, hh0⟩ | ⟨h_1, hh0⟩
  · refine PC.cond_true rfl h_1 ?_
    refine PC.seq ?_
    refine PC.region ?_
    refine PL.op rfl (Rd.asnT rfl) ?_
    refine PL.nil ?_
    refine thA_n ?_
    refine PC.ret ?_
    refine thA_r ?_
    obtain rfl := some_in hh0
    exact FinA.mk (r := bA true) (bl := []) [] (.inl rfl) rfl (rl := [.tmp 2]) (.tmp .nil) rfl rfl rfl (.t _) trivial ⟨rfl, rfl⟩
  refine PC.cond_false rfl h_1 ?_
  refine PC.skip ?_
  refine thA_n ?_
  refine PC.seq ?_
  obtain ⟨r2, h_3, hh0⟩ := bind_some hh0
  refine PC.region ?_
  refine PL.op rfl (Rd.moveT rfl) ?_
  refine PL.callM false [] (w_S_DrawWritePage N p_code r2 h_3) rfl Try.call25 rfl ⟨.t _, trivial⟩ rfl trivial (fun h => by cases h) ?_
  refine PL.nm (.tup [.agg [.os 0 0 r2.1.frames.length, iA r2.1.forced], iA r2.2]) [some ⟨.tr (eL r2.1.frames), 59, 4⟩] rfl rfl ?_
  refine PL.op rfl (Rd.moveU rfl) ?_
  refine PL.op rfl (Rd.extract rfl rfl) ?_
  refine PL.op rfl (Rd.extract rfl rfl) ?_
  refine PL.ef rfl (Ef.alloc rfl rfl) ?_
  refine PL.nm (.op 1 0) [some ⟨.tr (eL r2.1.frames), 59, 4⟩, some ⟨.mx [.t (.v (.slice none 0 0)), iA (0 : Int)], 28, 0⟩] rfl rfl ?_
  refine PL.store rfl rfl rfl rfl rfl rfl rfl ?_
  refine PL.nO [some ⟨.tr (eL r2.1.frames), 59, 4⟩, some ⟨.mx [.os 0 0 r2.1.frames.length, iA r2.1.forced], 28, 0⟩] rfl ?_
  refine PL.op rfl (Rd.asnT rfl) ?_
  refine PL.nil ?_
  refine thA_n ?_
  refine PC.seq ?_
  obtain ⟨r4, h_5, hh0⟩ := bind_some hh0
  refine PC.region ?_
  refine PL.op rfl (Rd.loadBox rfl rfl rfl) ?_
  refine PL.op rfl (Rd.moveT rfl) ?_
  refine PL.callM true [] (w_I_WritePage N r2.1 r2.2 r4 h_5) rfl Try.call26 rfl ⟨.aggL ⟨.own rfl (by first | decide | exact List.not_mem_nil) rfl rfl, .t _, trivial⟩, .t _, trivial⟩ rfl trivial (fun _ => ⟨⟨⟨trivial, trivial, trivial⟩, trivial, trivial⟩, (flat_cons flat_ow flat_nil)⟩) ?_
  refine PL.nm (.tup [.agg [.os 2 0 r4.1.frames.length, iA r4.1.forced], bA r4.2]) [some ⟨.tr (eL r2.1.frames), 59, 4⟩, some ⟨.mx [.os 0 0 r2.1.frames.length, iA r2.1.forced], 28, 0⟩, some ⟨.tr (eL r4.1.frames), 59, 4⟩] rfl rfl ?_
  refine PL.op rfl (Rd.moveU rfl) ?_
  refine PL.op rfl (Rd.extract rfl rfl) ?_
  refine PL.op rfl (Rd.extract rfl rfl) ?_
  refine PL.ef rfl (Ef.alloc rfl rfl) ?_
  refine PL.nm (.op 3 0) [some ⟨.tr (eL r2.1.frames), 59, 4⟩, some ⟨.mx [.os 0 0 r2.1.frames.length, iA r2.1.forced], 28, 0⟩, some ⟨.tr (eL r4.1.frames), 59, 4⟩, some ⟨.mx [.t (.v (.slice none 0 0)), iA (0 : Int)], 28, 0⟩] rfl rfl ?_
  refine PL.store rfl rfl rfl rfl rfl rfl rfl ?_
  refine PL.nO [some ⟨.tr (eL r2.1.frames), 59, 4⟩, some ⟨.mx [.os 0 0 r2.1.frames.length, iA r2.1.forced], 28, 0⟩, some ⟨.tr (eL r4.1.frames), 59, 4⟩, some ⟨.mx [.os 2 0 r4.1.frames.length, iA r4.1.forced], 28, 0⟩] rfl ?_
  refine PL.op rfl (Rd.asnT rfl) ?_
  refine PL.nil ?_
  refine thA_n ?_
  refine PC.seq ?_
  obtain ⟨r6, h_7, hh0⟩ := bind_some hh0
  refine PC.region ?_
  refine PL.op rfl (Rd.loadBox rfl rfl rfl) ?_
  refine PL.op rfl (Rd.moveT rfl) ?_
  refine PL.callM true [] (w_S_WritePage N r2.1 r2.2 r6 h_7) rfl Try.call27 rfl ⟨.aggL ⟨.own rfl (by first | decide | exact List.not_mem_nil) rfl rfl, .t _, trivial⟩, .t _, trivial⟩ rfl trivial (fun _ => ⟨⟨⟨trivial, trivial, trivial⟩, trivial, trivial⟩, (flat_cons flat_ow flat_nil)⟩) ?_
  refine PL.nm (.tup [.agg [.os 4 0 r6.1.frames.length, iA r6.1.forced], bA r6.2]) [some ⟨.tr (eL r2.1.frames), 59, 4⟩, some ⟨.mx [.os 0 0 r2.1.frames.length, iA r2.1.forced], 28, 0⟩, some ⟨.tr (eL r4.1.frames), 59, 4⟩, some ⟨.mx [.os 2 0 r4.1.frames.length, iA r4.1.forced], 28, 0⟩, some ⟨.tr (eL r6.1.frames), 59, 4⟩] rfl rfl ?_
  refine PL.op rfl (Rd.moveU rfl) ?_
  refine PL.op rfl (Rd.extract rfl rfl) ?_
  refine PL.op rfl (Rd.extract rfl rfl) ?_
  refine PL.ef rfl (Ef.alloc rfl rfl) ?_
  refine PL.nm (.op 5 0) [some ⟨.tr (eL r2.1.frames), 59, 4⟩, some ⟨.mx [.os 0 0 r2.1.frames.length, iA r2.1.forced], 28, 0⟩, some ⟨.tr (eL r4.1.frames), 59, 4⟩, some ⟨.mx [.os 2 0 r4.1.frames.length, iA r4.1.forced], 28, 0⟩, some ⟨.tr (eL r6.1.frames), 59, 4⟩, some ⟨.mx [.t (.v (.slice none 0 0)), iA (0 : Int)], 28, 0⟩] rfl rfl ?_
  refine PL.store rfl rfl rfl rfl rfl rfl rfl ?_
  refine PL.nO [some ⟨.tr (eL r2.1.frames), 59, 4⟩, some ⟨.mx [.os 0 0 r2.1.frames.length, iA r2.1.forced], 28, 0⟩, some ⟨.tr (eL r4.1.frames), 59, 4⟩, some ⟨.mx [.os 2 0 r4.1.frames.length, iA r4.1.forced], 28, 0⟩, some ⟨.tr (eL r6.1.frames), 59, 4⟩, some ⟨.mx [.os 4 0 r6.1.frames.length, iA r6.1.forced], 28, 0⟩] rfl ?_
  refine PL.op rfl (Rd.asnT rfl) ?_
  refine PL.nil ?_
  refine thA_n ?_
  refine PC.seq ?_
  refine PC.seq ?_
  obtain ⟨r8, h_9, hh0⟩ := bind_some hh0
  rcases cond_some hh0 with ⟨h_10, hh0⟩ | ⟨h_10, hh0⟩
  rotate_left
  · refine PC.region ?_
    refine PL.op rfl (Rd.loadBox rfl rfl rfl) ?_
    refine PL.op rfl (Rd.loadBox rfl rfl rfl) ?_
    refine PL.callM true [] (w_L_equalBuffer N r4.1 r6.1 r8 h_9) rfl Try.call19 rfl ⟨.aggL ⟨.own rfl (by first | decide | exact List.not_mem_nil) rfl rfl, .t _, trivial⟩, .aggL ⟨.own rfl (by first | decide | exact List.not_mem_nil) rfl rfl, .t _, trivial⟩, trivial⟩ rfl trivial (fun _ => ⟨trivial, flat_nil⟩) ?_
    refine PL.op rfl (Rd.unnot rfl) ?_
    refine PL.op rfl (Rd.moveT rfl) ?_
    refine PL.guard_off rfl rfl (not_f h_10) ?_
    refine PL.guard_off rfl rfl (not_f h_10) ?_
    refine PL.guard_off rfl rfl (not_f h_10) ?_
    refine PL.op rfl (Rd.pick_t rfl (not_f h_10)) ?_
    refine PL.op rfl (Rd.moveT rfl) ?_
    refine PL.guard_off rfl rfl rfl ?_
    refine PL.guard_off rfl rfl rfl ?_
    refine PL.guard_off rfl rfl rfl ?_
    refine PL.guard_off rfl rfl rfl ?_
    refine PL.guard_off rfl rfl rfl ?_
    refine PL.op rfl (Rd.pick_t rfl rfl) ?_
    refine PL.op rfl (Rd.moveT rfl) ?_
    refine PL.guard_off rfl rfl rfl ?_
    refine PL.guard_off rfl rfl rfl ?_
    refine PL.op rfl (Rd.pick_t rfl rfl) ?_
    refine PL.nil ?_
    refine thA_n ?_
    refine PC.cond_true rfl rfl ?_
    refine PC.seq ?_
    obtain ⟨r40, h_41, hh0⟩ := bind_some hh0
    rcases cond_some hh0 with ⟨h_42, hh0⟩ | ⟨h_42, hh0⟩
    rotate_left
    · refine PC.region ?_
      refine PL.op rfl (Rd.loadBox rfl rfl rfl) ?_
      refine PL.op rfl (Rd.loadBox rfl rfl rfl) ?_
      refine PL.callM true [] (w_L_equalBuffer N r4.1 r6.1 r40 h_41) rfl Try.call19 rfl ⟨.aggL ⟨.own rfl (by first | decide | exact List.not_mem_nil) rfl rfl, .t _, trivial⟩, .aggL ⟨.own rfl (by first | decide | exact List.not_mem_nil) rfl rfl, .t _, trivial⟩, trivial⟩ rfl trivial (fun _ => ⟨trivial, flat_nil⟩) ?_
      refine PL.op rfl (Rd.moveT rfl) ?_
      refine PL.guard_off rfl rfl h_42 ?_
      refine PL.guard_off rfl rfl h_42 ?_
      refine PL.guard_off rfl rfl h_42 ?_
      refine PL.op rfl (Rd.pick_f rfl h_42) ?_
      refine PL.op rfl (Rd.moveT rfl) ?_
      refine PL.guard_off rfl rfl rfl ?_
      refine PL.guard_off rfl rfl rfl ?_
      refine PL.guard_off rfl rfl rfl ?_
      refine PL.guard_off rfl rfl rfl ?_
      refine PL.guard_off rfl rfl rfl ?_
      refine PL.op rfl (Rd.pick_f rfl rfl) ?_
      refine PL.op rfl (Rd.asnT rfl) ?_
      refine PL.nil ?_
      refine thA_n ?_
      refine PC.ret ?_
      refine thA_r ?_
      obtain rfl := some_in hh0
      exact FinA.mk (r := bA false) (bl := []) [] (.inl rfl) rfl (rl := [.tmp 2]) (.tmp .nil) rfl rfl rfl (.t _) trivial ⟨rfl, rfl⟩
    rcases cond_some hh0 with ⟨h_43, hh0⟩ | ⟨h_43, hh0⟩
    rotate_left
    · refine PC.region ?_
      refine PL.op rfl (Rd.loadBox rfl rfl rfl) ?_
      refine PL.op rfl (Rd.loadBox rfl rfl rfl) ?_
      refine PL.callM true [] (w_L_equalBuffer N r4.1 r6.1 r40 h_41) rfl Try.call19 rfl ⟨.aggL ⟨.own rfl (by first | decide | exact List.not_mem_nil) rfl rfl, .t _, trivial⟩, .aggL ⟨.own rfl (by first | decide | exact List.not_mem_nil) rfl rfl, .t _, trivial⟩, trivial⟩ rfl trivial (fun _ => ⟨trivial, flat_nil⟩) ?_
      refine PL.op rfl (Rd.moveT rfl) ?_
      refine PL.guard_on rfl h_42 ?_
      refine PL.op rfl (Rd.moveT rfl) ?_
      refine PL.guard_on rfl h_42 ?_
      refine PL.op rfl (Rd.moveT rfl) ?_
      refine PL.guard_on rfl h_42 ?_
      refine PL.op rfl (Rd.eqlB rfl rfl) ?_
      refine PL.op rfl (Rd.pick_t rfl h_42) ?_
      refine PL.op rfl (Rd.moveT rfl) ?_
      refine PL.guard_off rfl rfl h_43 ?_
      refine PL.guard_off rfl rfl h_43 ?_
      refine PL.guard_off rfl rfl h_43 ?_
      refine PL.guard_off rfl rfl h_43 ?_
      refine PL.guard_off rfl rfl h_43 ?_
      refine PL.op rfl (Rd.pick_f rfl h_43) ?_
      refine PL.op rfl (Rd.asnT rfl) ?_
      refine PL.nil ?_
      refine thA_n ?_
      refine PC.ret ?_
      refine thA_r ?_
      obtain rfl := some_in hh0
      exact FinA.mk (r := bA false) (bl := []) [] (.inl rfl) rfl (rl := [.tmp 2]) (.tmp .nil) rfl rfl rfl (.t _) trivial ⟨rfl, rfl⟩
    obtain ⟨r44, h_45, hh0⟩ := bind_some hh0
    refine PC.region ?_
    refine PL.op rfl (Rd.loadBox rfl rfl rfl) ?_
    refine PL.op rfl (Rd.loadBox rfl rfl rfl) ?_
    refine PL.callM true [] (w_L_equalBuffer N r4.1 r6.1 r40 h_41) rfl Try.call19 rfl ⟨.aggL ⟨.own rfl (by first | decide | exact List.not_mem_nil) rfl rfl, .t _, trivial⟩, .aggL ⟨.own rfl (by first | decide | exact List.not_mem_nil) rfl rfl, .t _, trivial⟩, trivial⟩ rfl trivial (fun _ => ⟨trivial, flat_nil⟩) ?_
    refine PL.op rfl (Rd.moveT rfl) ?_
    refine PL.guard_on rfl h_42 ?_
    refine PL.op rfl (Rd.moveT rfl) ?_
    refine PL.guard_on rfl h_42 ?_
    refine PL.op rfl (Rd.moveT rfl) ?_
    refine PL.guard_on rfl h_42 ?_
    refine PL.op rfl (Rd.eqlB rfl rfl) ?_
    refine PL.op rfl (Rd.pick_t rfl h_42) ?_
    refine PL.op rfl (Rd.moveT rfl) ?_
    refine PL.guard_on rfl h_43 ?_
    refine PL.op rfl (Rd.moveT rfl) ?_
    refine PL.guard_on rfl h_43 ?_
    refine PL.op rfl (Rd.loadBox rfl rfl rfl) ?_
    refine PL.guard_on rfl h_43 ?_
    refine PL.op rfl (Rd.moveT rfl) ?_
    refine PL.guard_on rfl h_43 ?_
    refine PL.callM true [] (w_I_CanWrite N r2.1 r2.2 r44 h_45) rfl Try.call21 rfl ⟨.aggL ⟨.own rfl (by first | decide | exact List.not_mem_nil) rfl rfl, .t _, trivial⟩, .t _, trivial⟩ rfl trivial (fun _ => ⟨trivial, flat_nil⟩) ?_
    refine PL.guard_on rfl h_43 ?_
    refine PL.op rfl (Rd.eqlB rfl rfl) ?_
    refine PL.op rfl (Rd.pick_t rfl h_43) ?_
    refine PL.op rfl (Rd.asnT rfl) ?_
    refine PL.nil ?_
    refine thA_n ?_
    refine PC.ret ?_
    refine thA_r ?_
    obtain rfl := some_in hh0
    exact FinA.mk (r := bA (r4.2 == r44)) (bl := []) [] (.inl rfl) rfl (rl := [.tmp 2]) (.tmp .nil) rfl rfl rfl (.t _) trivial ⟨rfl, rfl⟩
  rcases cond_some hh0 with ⟨h_11, hh0⟩ | ⟨h_11, hh0⟩
  rotate_left
  · refine PC.region ?_
    refine PL.op rfl (Rd.loadBox rfl rfl rfl) ?_
    refine PL.op rfl (Rd.loadBox rfl rfl rfl) ?_
    refine PL.callM true [] (w_L_equalBuffer N r4.1 r6.1 r8 h_9) rfl Try.call19 rfl ⟨.aggL ⟨.own rfl (by first | decide | exact List.not_mem_nil) rfl rfl, .t _, trivial⟩, .aggL ⟨.own rfl (by first | decide | exact List.not_mem_nil) rfl rfl, .t _, trivial⟩, trivial⟩ rfl trivial (fun _ => ⟨trivial, flat_nil⟩) ?_
    refine PL.op rfl (Rd.unnot rfl) ?_
    refine PL.op rfl (Rd.moveT rfl) ?_
    refine PL.guard_on rfl (not_t h_10) ?_
    refine PL.op rfl (Rd.moveT rfl) ?_
    refine PL.guard_on rfl (not_t h_10) ?_
    refine PL.op rfl (Rd.moveT rfl) ?_
    refine PL.guard_on rfl (not_t h_10) ?_
    refine PL.op rfl (Rd.neqB rfl rfl) ?_
    refine PL.op rfl (Rd.pick_f rfl (not_t h_10)) ?_
    refine PL.op rfl (Rd.moveT rfl) ?_
    refine PL.guard_off rfl rfl (not_f h_11) ?_
    refine PL.guard_off rfl rfl (not_f h_11) ?_
    refine PL.guard_off rfl rfl (not_f h_11) ?_
    refine PL.guard_off rfl rfl (not_f h_11) ?_
    refine PL.guard_off rfl rfl (not_f h_11) ?_
    refine PL.op rfl (Rd.pick_t rfl (not_f h_11)) ?_
    refine PL.op rfl (Rd.moveT rfl) ?_
    refine PL.guard_off rfl rfl rfl ?_
    refine PL.guard_off rfl rfl rfl ?_
    refine PL.op rfl (Rd.pick_t rfl rfl) ?_
    refine PL.nil ?_
    refine thA_n ?_
    refine PC.cond_true rfl rfl ?_
    refine PC.seq ?_
    obtain ⟨r37, h_38, hh0⟩ := bind_some hh0
    rcases cond_some hh0 with ⟨h_39, hh0⟩ | ⟨h_39, hh0⟩
    rotate_left
    · refine PC.region ?_
      refine PL.op rfl (Rd.loadBox rfl rfl rfl) ?_
      refine PL.op rfl (Rd.loadBox rfl rfl rfl) ?_
      refine PL.callM true [] (w_L_equalBuffer N r4.1 r6.1 r37 h_38) rfl Try.call19 rfl ⟨.aggL ⟨.own rfl (by first | decide | exact List.not_mem_nil) rfl rfl, .t _, trivial⟩, .aggL ⟨.own rfl (by first | decide | exact List.not_mem_nil) rfl rfl, .t _, trivial⟩, trivial⟩ rfl trivial (fun _ => ⟨trivial, flat_nil⟩) ?_
      refine PL.op rfl (Rd.moveT rfl) ?_
      refine PL.guard_off rfl rfl h_39 ?_
      refine PL.guard_off rfl rfl h_39 ?_
      refine PL.guard_off rfl rfl h_39 ?_
      refine PL.op rfl (Rd.pick_f rfl h_39) ?_
      refine PL.op rfl (Rd.moveT rfl) ?_
      refine PL.guard_off rfl rfl rfl ?_
      refine PL.guard_off rfl rfl rfl ?_
      refine PL.guard_off rfl rfl rfl ?_
      refine PL.guard_off rfl rfl rfl ?_
      refine PL.guard_off rfl rfl rfl ?_
      refine PL.op rfl (Rd.pick_f rfl rfl) ?_
      refine PL.op rfl (Rd.asnT rfl) ?_
      refine PL.nil ?_
      refine thA_n ?_
      refine PC.ret ?_
      refine thA_r ?_
      obtain rfl := some_in hh0
      exact FinA.mk (r := bA false) (bl := []) [] (.inl rfl) rfl (rl := [.tmp 2]) (.tmp .nil) rfl rfl rfl (.t _) trivial ⟨rfl, rfl⟩
    refine PC.region ?_
    refine PL.op rfl (Rd.loadBox rfl rfl rfl) ?_
    refine PL.op rfl (Rd.loadBox rfl rfl rfl) ?_
    refine PL.callM true [] (w_L_equalBuffer N r4.1 r6.1 r37 h_38) rfl Try.call19 rfl ⟨.aggL ⟨.own rfl (by first | decide | exact List.not_mem_nil) rfl rfl, .t _, trivial⟩, .aggL ⟨.own rfl (by first | decide | exact List.not_mem_nil) rfl rfl, .t _, trivial⟩, trivial⟩ rfl trivial (fun _ => ⟨trivial, flat_nil⟩) ?_
    refine PL.op rfl (Rd.moveT rfl) ?_
    refine PL.guard_on rfl h_39 ?_
    refine PL.op rfl (Rd.moveT rfl) ?_
    refine PL.guard_on rfl h_39 ?_
    refine PL.op rfl (Rd.moveT rfl) ?_
    refine PL.guard_on rfl h_39 ?_
    refine PL.op rfl (Rd.eqlB rfl rfl) ?_
    refine PL.op rfl (Rd.pick_t rfl h_39) ?_
    refine PL.op rfl (Rd.moveT rfl) ?_
    refine PL.guard_off rfl rfl h_11 ?_
    refine PL.guard_off rfl rfl h_11 ?_
    refine PL.guard_off rfl rfl h_11 ?_
    refine PL.guard_off rfl rfl h_11 ?_
    refine PL.guard_off rfl rfl h_11 ?_
    refine PL.op rfl (Rd.pick_f rfl h_11) ?_
    refine PL.op rfl (Rd.asnT rfl) ?_
    refine PL.nil ?_
    refine thA_n ?_
    refine PC.ret ?_
    refine thA_r ?_
    obtain rfl := some_in hh0
    exact FinA.mk (r := bA false) (bl := []) [] (.inl rfl) rfl (rl := [.tmp 2]) (.tmp .nil) rfl rfl rfl (.t _) trivial ⟨rfl, rfl⟩
  obtain ⟨r12, h_13, hh0⟩ := bind_some hh0
  rcases cond_some hh0 with ⟨h_14, hh0⟩ | ⟨h_14, hh0⟩
  rotate_left
  · refine PC.region ?_
    refine PL.op rfl (Rd.loadBox rfl rfl rfl) ?_
    refine PL.op rfl (Rd.loadBox rfl rfl rfl) ?_
    refine PL.callM true [] (w_L_equalBuffer N r4.1 r6.1 r8 h_9) rfl Try.call19 rfl ⟨.aggL ⟨.own rfl (by first | decide | exact List.not_mem_nil) rfl rfl, .t _, trivial⟩, .aggL ⟨.own rfl (by first | decide | exact List.not_mem_nil) rfl rfl, .t _, trivial⟩, trivial⟩ rfl trivial (fun _ => ⟨trivial, flat_nil⟩) ?_
    refine PL.op rfl (Rd.unnot rfl) ?_
    refine PL.op rfl (Rd.moveT rfl) ?_
    refine PL.guard_on rfl (not_t h_10) ?_
    refine PL.op rfl (Rd.moveT rfl) ?_
    refine PL.guard_on rfl (not_t h_10) ?_
    refine PL.op rfl (Rd.moveT rfl) ?_
    refine PL.guard_on rfl (not_t h_10) ?_
    refine PL.op rfl (Rd.neqB rfl rfl) ?_
    refine PL.op rfl (Rd.pick_f rfl (not_t h_10)) ?_
    refine PL.op rfl (Rd.moveT rfl) ?_
    refine PL.guard_on rfl (not_t h_11) ?_
    refine PL.op rfl (Rd.moveT rfl) ?_
    refine PL.guard_on rfl (not_t h_11) ?_
    refine PL.op rfl (Rd.loadBox rfl rfl rfl) ?_
    refine PL.guard_on rfl (not_t h_11) ?_
    refine PL.op rfl (Rd.moveT rfl) ?_
    refine PL.guard_on rfl (not_t h_11) ?_
    refine PL.callM true [] (w_I_CanWrite N r2.1 r2.2 r12 h_13) rfl Try.call21 rfl ⟨.aggL ⟨.own rfl (by first | decide | exact List.not_mem_nil) rfl rfl, .t _, trivial⟩, .t _, trivial⟩ rfl trivial (fun _ => ⟨trivial, flat_nil⟩) ?_
    refine PL.guard_on rfl (not_t h_11) ?_
    refine PL.op rfl (Rd.neqB rfl rfl) ?_
    refine PL.op rfl (Rd.pick_f rfl (not_t h_11)) ?_
    refine PL.op rfl (Rd.moveT rfl) ?_
    refine PL.guard_off rfl rfl (not_f h_14) ?_
    refine PL.guard_off rfl rfl (not_f h_14) ?_
    refine PL.op rfl (Rd.pick_t rfl (not_f h_14)) ?_
    refine PL.nil ?_
    refine thA_n ?_
    refine PC.cond_true rfl rfl ?_
    refine PC.seq ?_
    obtain ⟨r32, h_33, hh0⟩ := bind_some hh0
    rcases cond_some hh0 with ⟨h_34, hh0⟩ | ⟨h_34, hh0⟩
    rotate_left
    · refine PC.region ?_
      refine PL.op rfl (Rd.loadBox rfl rfl rfl) ?_
      refine PL.op rfl (Rd.loadBox rfl rfl rfl) ?_
      refine PL.callM true [] (w_L_equalBuffer N r4.1 r6.1 r32 h_33) rfl Try.call19 rfl ⟨.aggL ⟨.own rfl (by first | decide | exact List.not_mem_nil) rfl rfl, .t _, trivial⟩, .aggL ⟨.own rfl (by first | decide | exact List.not_mem_nil) rfl rfl, .t _, trivial⟩, trivial⟩ rfl trivial (fun _ => ⟨trivial, flat_nil⟩) ?_
      refine PL.op rfl (Rd.moveT rfl) ?_
      refine PL.guard_off rfl rfl h_34 ?_
      refine PL.guard_off rfl rfl h_34 ?_
      refine PL.guard_off rfl rfl h_34 ?_
      refine PL.op rfl (Rd.pick_f rfl h_34) ?_
      refine PL.op rfl (Rd.moveT rfl) ?_
      refine PL.guard_off rfl rfl rfl ?_
      refine PL.guard_off rfl rfl rfl ?_
      refine PL.guard_off rfl rfl rfl ?_
      refine PL.guard_off rfl rfl rfl ?_
      refine PL.guard_off rfl rfl rfl ?_
      refine PL.op rfl (Rd.pick_f rfl rfl) ?_
      refine PL.op rfl (Rd.asnT rfl) ?_
      refine PL.nil ?_
      refine thA_n ?_
      refine PC.ret ?_
      refine thA_r ?_
      obtain rfl := some_in hh0
      exact FinA.mk (r := bA false) (bl := []) [] (.inl rfl) rfl (rl := [.tmp 2]) (.tmp .nil) rfl rfl rfl (.t _) trivial ⟨rfl, rfl⟩
    obtain ⟨r35, h_36, hh0⟩ := bind_some hh0
    refine PC.region ?_
    refine PL.op rfl (Rd.loadBox rfl rfl rfl) ?_
    refine PL.op rfl (Rd.loadBox rfl rfl rfl) ?_
    refine PL.callM true [] (w_L_equalBuffer N r4.1 r6.1 r32 h_33) rfl Try.call19 rfl ⟨.aggL ⟨.own rfl (by first | decide | exact List.not_mem_nil) rfl rfl, .t _, trivial⟩, .aggL ⟨.own rfl (by first | decide | exact List.not_mem_nil) rfl rfl, .t _, trivial⟩, trivial⟩ rfl trivial (fun _ => ⟨trivial, flat_nil⟩) ?_
    refine PL.op rfl (Rd.moveT rfl) ?_
    refine PL.guard_on rfl h_34 ?_
    refine PL.op rfl (Rd.moveT rfl) ?_
    refine PL.guard_on rfl h_34 ?_
    refine PL.op rfl (Rd.moveT rfl) ?_
    refine PL.guard_on rfl h_34 ?_
    refine PL.op rfl (Rd.eqlB rfl rfl) ?_
    refine PL.op rfl (Rd.pick_t rfl h_34) ?_
    refine PL.op rfl (Rd.moveT rfl) ?_
    refine PL.guard_on rfl h_11 ?_
    refine PL.op rfl (Rd.moveT rfl) ?_
    refine PL.guard_on rfl h_11 ?_
    refine PL.op rfl (Rd.loadBox rfl rfl rfl) ?_
    refine PL.guard_on rfl h_11 ?_
    refine PL.op rfl (Rd.moveT rfl) ?_
    refine PL.guard_on rfl h_11 ?_
    refine PL.callM true [] (w_I_CanWrite N r2.1 r2.2 r35 h_36) rfl Try.call21 rfl ⟨.aggL ⟨.own rfl (by first | decide | exact List.not_mem_nil) rfl rfl, .t _, trivial⟩, .t _, trivial⟩ rfl trivial (fun _ => ⟨trivial, flat_nil⟩) ?_
    refine PL.guard_on rfl h_11 ?_
    refine PL.op rfl (Rd.eqlB rfl rfl) ?_
    refine PL.op rfl (Rd.pick_t rfl h_11) ?_
    refine PL.op rfl (Rd.asnT rfl) ?_
    refine PL.nil ?_
    refine thA_n ?_
    refine PC.ret ?_
    refine thA_r ?_
    obtain rfl := some_in hh0
    exact FinA.mk (r := bA (r4.2 == r35)) (bl := []) [] (.inl rfl) rfl (rl := [.tmp 2]) (.tmp .nil) rfl rfl rfl (.t _) trivial ⟨rfl, rfl⟩
  refine PC.region ?_
  refine PL.op rfl (Rd.loadBox rfl rfl rfl) ?_
  refine PL.op rfl (Rd.loadBox rfl rfl rfl) ?_
  refine PL.callM true [] (w_L_equalBuffer N r4.1 r6.1 r8 h_9) rfl Try.call19 rfl ⟨.aggL ⟨.own rfl (by first | decide | exact List.not_mem_nil) rfl rfl, .t _, trivial⟩, .aggL ⟨.own rfl (by first | decide | exact List.not_mem_nil) rfl rfl, .t _, trivial⟩, trivial⟩ rfl trivial (fun _ => ⟨trivial, flat_nil⟩) ?_
  refine PL.op rfl (Rd.unnot rfl) ?_
  refine PL.op rfl (Rd.moveT rfl) ?_
  refine PL.guard_on rfl (not_t h_10) ?_
  refine PL.op rfl (Rd.moveT rfl) ?_
  refine PL.guard_on rfl (not_t h_10) ?_
  refine PL.op rfl (Rd.moveT rfl) ?_
  refine PL.guard_on rfl (not_t h_10) ?_
  refine PL.op rfl (Rd.neqB rfl rfl) ?_
  refine PL.op rfl (Rd.pick_f rfl (not_t h_10)) ?_
  refine PL.op rfl (Rd.moveT rfl) ?_
  refine PL.guard_on rfl (not_t h_11) ?_
  refine PL.op rfl (Rd.moveT rfl) ?_
  refine PL.guard_on rfl (not_t h_11) ?_
  refine PL.op rfl (Rd.loadBox rfl rfl rfl) ?_
  refine PL.guard_on rfl (not_t h_11) ?_
  refine PL.op rfl (Rd.moveT rfl) ?_
  refine PL.guard_on rfl (not_t h_11) ?_
  refine PL.callM true [] (w_I_CanWrite N r2.1 r2.2 r12 h_13) rfl Try.call21 rfl ⟨.aggL ⟨.own rfl (by first | decide | exact List.not_mem_nil) rfl rfl, .t _, trivial⟩, .t _, trivial⟩ rfl trivial (fun _ => ⟨trivial, flat_nil⟩) ?_
  refine PL.guard_on rfl (not_t h_11) ?_
  refine PL.op rfl (Rd.neqB rfl rfl) ?_
  refine PL.op rfl (Rd.pick_f rfl (not_t h_11)) ?_
  refine PL.op rfl (Rd.moveT rfl) ?_
  refine PL.guard_on rfl (not_t h_14) ?_
  refine PL.op rfl (Rd.moveT rfl) ?_
  refine PL.guard_on rfl (not_t h_14) ?_
  refine PL.op rfl (Rd.unnot rfl) ?_
  refine PL.op rfl (Rd.pick_f rfl (not_t h_14)) ?_
  refine PL.nil ?_
  refine thA_n ?_
  rcases cond_some hh0 with ⟨h_15, hh0⟩ | ⟨h_15, hh0⟩
  rotate_left
  · refine PC.cond_true rfl (not_f h_15) ?_
    refine PC.seq ?_
    obtain ⟨r27, h_28, hh0⟩ := bind_some hh0
    rcases cond_some hh0 with ⟨h_29, hh0⟩ | ⟨h_29, hh0⟩
    rotate_left
    · refine PC.region ?_
      refine PL.op rfl (Rd.loadBox rfl rfl rfl) ?_
      refine PL.op rfl (Rd.loadBox rfl rfl rfl) ?_
      refine PL.callM true [] (w_L_equalBuffer N r4.1 r6.1 r27 h_28) rfl Try.call19 rfl ⟨.aggL ⟨.own rfl (by first | decide | exact List.not_mem_nil) rfl rfl, .t _, trivial⟩, .aggL ⟨.own rfl (by first | decide | exact List.not_mem_nil) rfl rfl, .t _, trivial⟩, trivial⟩ rfl trivial (fun _ => ⟨trivial, flat_nil⟩) ?_
      refine PL.op rfl (Rd.moveT rfl) ?_
      refine PL.guard_off rfl rfl h_29 ?_
      refine PL.guard_off rfl rfl h_29 ?_
      refine PL.guard_off rfl rfl h_29 ?_
      refine PL.op rfl (Rd.pick_f rfl h_29) ?_
      refine PL.op rfl (Rd.moveT rfl) ?_
      refine PL.guard_off rfl rfl rfl ?_
      refine PL.guard_off rfl rfl rfl ?_
      refine PL.guard_off rfl rfl rfl ?_
      refine PL.guard_off rfl rfl rfl ?_
      refine PL.guard_off rfl rfl rfl ?_
      refine PL.op rfl (Rd.pick_f rfl rfl) ?_
      refine PL.op rfl (Rd.asnT rfl) ?_
      refine PL.nil ?_
      refine thA_n ?_
      refine PC.ret ?_
      refine thA_r ?_
      obtain rfl := some_in hh0
      exact FinA.mk (r := bA false) (bl := []) [] (.inl rfl) rfl (rl := [.tmp 2]) (.tmp .nil) rfl rfl rfl (.t _) trivial ⟨rfl, rfl⟩
    obtain ⟨r30, h_31, hh0⟩ := bind_some hh0
    refine PC.region ?_
    refine PL.op rfl (Rd.loadBox rfl rfl rfl) ?_
    refine PL.op rfl (Rd.loadBox rfl rfl rfl) ?_
    refine PL.callM true [] (w_L_equalBuffer N r4.1 r6.1 r27 h_28) rfl Try.call19 rfl ⟨.aggL ⟨.own rfl (by first | decide | exact List.not_mem_nil) rfl rfl, .t _, trivial⟩, .aggL ⟨.own rfl (by first | decide | exact List.not_mem_nil) rfl rfl, .t _, trivial⟩, trivial⟩ rfl trivial (fun _ => ⟨trivial, flat_nil⟩) ?_
    refine PL.op rfl (Rd.moveT rfl) ?_
    refine PL.guard_on rfl h_29 ?_
    refine PL.op rfl (Rd.moveT rfl) ?_
    refine PL.guard_on rfl h_29 ?_
    refine PL.op rfl (Rd.moveT rfl) ?_
    refine PL.guard_on rfl h_29 ?_
    refine PL.op rfl (Rd.eqlB rfl rfl) ?_
    refine PL.op rfl (Rd.pick_t rfl h_29) ?_
    refine PL.op rfl (Rd.moveT rfl) ?_
    refine PL.guard_on rfl h_11 ?_
    refine PL.op rfl (Rd.moveT rfl) ?_
    refine PL.guard_on rfl h_11 ?_
    refine PL.op rfl (Rd.loadBox rfl rfl rfl) ?_
    refine PL.guard_on rfl h_11 ?_
    refine PL.op rfl (Rd.moveT rfl) ?_
    refine PL.guard_on rfl h_11 ?_
    refine PL.callM true [] (w_I_CanWrite N r2.1 r2.2 r30 h_31) rfl Try.call21 rfl ⟨.aggL ⟨.own rfl (by first | decide | exact List.not_mem_nil) rfl rfl, .t _, trivial⟩, .t _, trivial⟩ rfl trivial (fun _ => ⟨trivial, flat_nil⟩) ?_
    refine PL.guard_on rfl h_11 ?_
    refine PL.op rfl (Rd.eqlB rfl rfl) ?_
    refine PL.op rfl (Rd.pick_t rfl h_11) ?_
    refine PL.op rfl (Rd.asnT rfl) ?_
    refine PL.nil ?_
    refine thA_n ?_
    refine PC.ret ?_
    refine thA_r ?_
    obtain rfl := some_in hh0
    exact FinA.mk (r := bA (r4.2 == r30)) (bl := []) [] (.inl rfl) rfl (rl := [.tmp 2]) (.tmp .nil) rfl rfl rfl (.t _) trivial ⟨rfl, rfl⟩
  refine PC.cond_false rfl (not_t h_15) ?_
  refine PC.skip ?_
  refine thA_n ?_
  refine PC.seq ?_
  obtain ⟨r16, h_17, hh0⟩ := bind_some hh0
  refine PC.region ?_
  refine PL.op rfl (Rd.loadBox rfl rfl rfl) ?_
  refine PL.callM true [] (w_I_RedoStart N r4.1 r16 h_17) rfl Try.call28 rfl ⟨.aggL ⟨.own rfl (by first | decide | exact List.not_mem_nil) rfl rfl, .t _, trivial⟩, trivial⟩ rfl trivial (fun _ => ⟨trivial, flat_nil⟩) ?_
  refine PL.op rfl (Rd.asnT rfl) ?_
  refine PL.nil ?_
  refine thA_n ?_
  refine PC.seq ?_
  obtain ⟨r18, h_19, hh0⟩ := bind_some hh0
  rcases cond_some hh0 with ⟨h_20, hh0⟩ | ⟨h_20, hh0⟩
  rotate_left
  · refine PC.region ?_
    refine PL.op rfl (Rd.loadBox rfl rfl rfl) ?_
    refine PL.callM true [] (w_I_ValidBuffer N r4.1 r18 h_19) rfl Try.call20 rfl ⟨.aggL ⟨.own rfl (by first | decide | exact List.not_mem_nil) rfl rfl, .t _, trivial⟩, trivial⟩ rfl trivial (fun _ => ⟨trivial, flat_nil⟩) ?_
    refine PL.op rfl (Rd.moveT rfl) ?_
    refine PL.guard_off rfl rfl h_20 ?_
    refine PL.guard_off rfl rfl h_20 ?_
    refine PL.guard_off rfl rfl h_20 ?_
    refine PL.guard_off rfl rfl h_20 ?_
    refine PL.op rfl (Rd.pick_f rfl h_20) ?_
    refine PL.op rfl (Rd.moveT rfl) ?_
    refine PL.guard_off rfl rfl rfl ?_
    refine PL.guard_off rfl rfl rfl ?_
    refine PL.guard_off rfl rfl rfl ?_
    refine PL.guard_un rfl rfl ?_
    refine PL.guard_un rfl rfl ?_
    refine PL.guard_un rfl rfl ?_
    refine PL.guard_un rfl rfl ?_
    refine PL.guard_off rfl rfl rfl ?_
    refine PL.op rfl (Rd.pick_f rfl rfl) ?_
    refine PL.op rfl (Rd.asnT rfl) ?_
    refine PL.nil ?_
    refine thA_n ?_
    refine PC.ret ?_
    obtain rfl := some_in hh0
    exact FinA.mk (r := bA false) (bl := []) [] (.inl rfl) rfl (rl := [.tmp 2]) (.tmp .nil) rfl rfl rfl (.t _) trivial ⟨rfl, rfl⟩
  obtain ⟨r21, h_22, hh0⟩ := bind_some hh0
  rcases cond_some hh0 with ⟨h_23, hh0⟩ | ⟨h_23, hh0⟩
  · refine PC.region ?_
    refine PL.op rfl (Rd.loadBox rfl rfl rfl) ?_
    refine PL.callM true [] (w_I_ValidBuffer N r4.1 r18 h_19) rfl Try.call20 rfl ⟨.aggL ⟨.own rfl (by first | decide | exact List.not_mem_nil) rfl rfl, .t _, trivial⟩, trivial⟩ rfl trivial (fun _ => ⟨trivial, flat_nil⟩) ?_
    refine PL.op rfl (Rd.moveT rfl) ?_
    refine PL.guard_on rfl h_20 ?_
    refine PL.op rfl (Rd.loadBox rfl rfl rfl) ?_
    refine PL.guard_on rfl h_20 ?_
    refine PL.op rfl (Rd.moveT rfl) ?_
    refine PL.guard_on rfl h_20 ?_
    refine PL.callM true [] (w_I_CanWrite N r4.1 r2.2 r21 h_22) rfl Try.call21 rfl ⟨.aggL ⟨.own rfl (by first | decide | exact List.not_mem_nil) rfl rfl, .t _, trivial⟩, .t _, trivial⟩ rfl trivial (fun _ => ⟨trivial, flat_nil⟩) ?_
    refine PL.guard_on rfl h_20 ?_
    refine PL.op rfl (Rd.unnot rfl) ?_
    refine PL.op rfl (Rd.pick_t rfl h_20) ?_
    refine PL.op rfl (Rd.moveT rfl) ?_
    refine PL.guard_off rfl rfl (not_t h_23) ?_
    refine PL.guard_off rfl rfl (not_t h_23) ?_
    refine PL.guard_off rfl rfl (not_t h_23) ?_
    refine PL.guard_un rfl rfl ?_
    refine PL.guard_un rfl rfl ?_
    refine PL.guard_un rfl rfl ?_
    refine PL.guard_un rfl rfl ?_
    refine PL.guard_off rfl rfl (not_t h_23) ?_
    refine PL.op rfl (Rd.pick_f rfl (not_t h_23)) ?_
    refine PL.op rfl (Rd.asnT rfl) ?_
    refine PL.nil ?_
    refine thA_n ?_
    refine PC.ret ?_
    obtain rfl := some_in hh0
    exact FinA.mk (r := bA false) (bl := []) [] (.inl rfl) rfl (rl := [.tmp 2]) (.tmp .nil) rfl rfl rfl (.t _) trivial ⟨rfl, rfl⟩
  rcases cond_some hh0 with ⟨h_24, hh0⟩ | ⟨h_24, hh0⟩
  · refine PC.region ?_
    refine PL.op rfl (Rd.loadBox rfl rfl rfl) ?_
    refine PL.callM true [] (w_I_ValidBuffer N r4.1 r18 h_19) rfl Try.call20 rfl ⟨.aggL ⟨.own rfl (by first | decide | exact List.not_mem_nil) rfl rfl, .t _, trivial⟩, trivial⟩ rfl trivial (fun _ => ⟨trivial, flat_nil⟩) ?_
    refine PL.op rfl (Rd.moveT rfl) ?_
    refine PL.guard_on rfl h_20 ?_
    refine PL.op rfl (Rd.loadBox rfl rfl rfl) ?_
    refine PL.guard_on rfl h_20 ?_
    refine PL.op rfl (Rd.moveT rfl) ?_
    refine PL.guard_on rfl h_20 ?_
    refine PL.callM true [] (w_I_CanWrite N r4.1 r2.2 r21 h_22) rfl Try.call21 rfl ⟨.aggL ⟨.own rfl (by first | decide | exact List.not_mem_nil) rfl rfl, .t _, trivial⟩, .t _, trivial⟩ rfl trivial (fun _ => ⟨trivial, flat_nil⟩) ?_
    refine PL.guard_on rfl h_20 ?_
    refine PL.op rfl (Rd.unnot rfl) ?_
    refine PL.op rfl (Rd.pick_t rfl h_20) ?_
    refine PL.op rfl (Rd.moveT rfl) ?_
    refine PL.guard_on rfl (not_f h_23) ?_
    refine PL.op rfl (Rd.moveT rfl) ?_
    refine PL.guard_on rfl (not_f h_23) ?_
    refine PL.op rfl (Rd.eql rfl rfl) ?_
    refine PL.guard_on rfl (not_f h_23) ?_
    refine PL.op rfl (Rd.moveT rfl) ?_
    refine PL.guard_off rfl rfl h_24 ?_
    refine PL.guard_off rfl rfl h_24 ?_
    refine PL.guard_off rfl rfl h_24 ?_
    refine PL.guard_off rfl rfl h_24 ?_
    refine PL.guard_on rfl (not_f h_23) ?_
    refine PL.op rfl (Rd.pick_t rfl h_24) ?_
    refine PL.op rfl (Rd.pick_t rfl (not_f h_23)) ?_
    refine PL.op rfl (Rd.asnT rfl) ?_
    refine PL.nil ?_
    refine thA_n ?_
    refine PC.ret ?_
    obtain rfl := some_in hh0
    exact FinA.mk (r := bA true) (bl := []) [] (.inl rfl) rfl (rl := [.tmp 2]) (.tmp .nil) rfl rfl rfl (.t _) trivial ⟨rfl, rfl⟩
  obtain ⟨r25, h_26, hh0⟩ := bind_some hh0
  refine PC.region ?_
  refine PL.op rfl (Rd.loadBox rfl rfl rfl) ?_
  refine PL.callM true [] (w_I_ValidBuffer N r4.1 r18 h_19) rfl Try.call20 rfl ⟨.aggL ⟨.own rfl (by first | decide | exact List.not_mem_nil) rfl rfl, .t _, trivial⟩, trivial⟩ rfl trivial (fun _ => ⟨trivial, flat_nil⟩) ?_
  refine PL.op rfl (Rd.moveT rfl) ?_
  refine PL.guard_on rfl h_20 ?_
  refine PL.op rfl (Rd.loadBox rfl rfl rfl) ?_
  refine PL.guard_on rfl h_20 ?_
  refine PL.op rfl (Rd.moveT rfl) ?_
  refine PL.guard_on rfl h_20 ?_
  refine PL.callM true [] (w_I_CanWrite N r4.1 r2.2 r21 h_22) rfl Try.call21 rfl ⟨.aggL ⟨.own rfl (by first | decide | exact List.not_mem_nil) rfl rfl, .t _, trivial⟩, .t _, trivial⟩ rfl trivial (fun _ => ⟨trivial, flat_nil⟩) ?_
  refine PL.guard_on rfl h_20 ?_
  refine PL.op rfl (Rd.unnot rfl) ?_
  refine PL.op rfl (Rd.pick_t rfl h_20) ?_
  refine PL.op rfl (Rd.moveT rfl) ?_
  refine PL.guard_on rfl (not_f h_23) ?_
  refine PL.op rfl (Rd.moveT rfl) ?_
  refine PL.guard_on rfl (not_f h_23) ?_
  refine PL.op rfl (Rd.eql rfl rfl) ?_
  refine PL.guard_on rfl (not_f h_23) ?_
  refine PL.op rfl (Rd.moveT rfl) ?_
  refine PL.guard_on rfl h_24 ?_
  refine PL.op rfl (Rd.moveT rfl) ?_
  refine PL.guard_on rfl h_24 ?_
  refine PL.op rfl (Rd.loadBox rfl rfl rfl) ?_
  refine PL.guard_on rfl h_24 ?_
  refine PL.callM true [] (w_I_RedoStart N r2.1 r25 h_26) rfl Try.call28 rfl ⟨.aggL ⟨.own rfl (by first | decide | exact List.not_mem_nil) rfl rfl, .t _, trivial⟩, trivial⟩ rfl trivial (fun _ => ⟨trivial, flat_nil⟩) ?_
  refine PL.guard_on rfl h_24 ?_
  refine PL.op rfl (Rd.geq rfl rfl) ?_
  refine PL.guard_on rfl (not_f h_23) ?_
  refine PL.op rfl (Rd.pick_f rfl h_24) ?_
  refine PL.op rfl (Rd.pick_t rfl (not_f h_23)) ?_
  refine PL.op rfl (Rd.asnT rfl) ?_
  refine PL.nil ?_
  refine thA_n ?_
  refine PC.ret ?_
  obtain rfl := some_in hh0
  exact FinA.mk (r := bA (decide (r25 ≤ r16))) (bl := []) [] (.inl rfl) rfl (rl := [.tmp 2]) (.tmp .nil) rfl rfl rfl (.t _) trivial ⟨rfl, rfl⟩

def m_L_FnTouchPageStart (N : Nat) (p_code : (List UInt8)) : Option (Bool) :=
  cond (decide ((1048576 : Int) < (p_code.length : Int)))
    (some true)
    ((m_S_DrawTouchPage N p_code).bind fun r2 =>
    (m_I_TouchPage N r2.1 r2.2.1 r2.2.2).bind fun r4 =>
    (m_S_TouchPage N r2.1 r2.2.1 r2.2.2).bind fun r6 =>
    (m_L_equalBuffer N r4.1 r6.1).bind fun r8 =>
    cond r8
      (cond (r4.2 == r6.2)
        (cond r4.2
          ((m_I_RedoStart N r2.1).bind fun r13 =>
          (m_I_RedoStart N r4.1).bind fun r15 =>
          cond (decide (r13 = (0 : Int)))
            (cond (decide (r15 = r2.2.2))
              (some true)
              (cond (decide ((0 : Int) < r13))
                (some (decide (r15 = (min r13 r2.2.2))))
                (some false)))
            (cond (decide ((0 : Int) < r13))
              (some (decide (r15 = (min r13 r2.2.2))))
              (some false)))
          ((m_L_equalBuffer N r4.1 r6.1).bind fun r21 =>
          cond r21
            (some (r4.2 == r6.2))
            (some false)))
        ((m_L_equalBuffer N r4.1 r6.1).bind fun r24 =>
        cond r24
          (some (r4.2 == r6.2))
          (some false)))
      ((m_L_equalBuffer N r4.1 r6.1).bind fun r27 =>
      cond r27
        (some (r4.2 == r6.2))
        (some false)))
theorem w_L_FnTouchPageStart (N : Nat) (p_code : (List UInt8)) (r : Bool) (hh0 : m_L_FnTouchPageStart N p_code = some r) : FnX Try.prog 7 [] [sL p_code] (RE (bA r) []) := by
  unfold m_L_FnTouchPageStart at hh0
  refine FnX.mk Try.func7 rfl rfl ?_
  intro s hs
  refine PC.seq ?_
  refine PC.region ?_
  refine PL.op rfl (Rd.asnT rfl) ?_
  refine PL.nil ?_
  refine thA_n ?_
  refine PC.seq ?_
  refine PC.seq ?_
  refine PC.region ?_
  refine PL.op rfl (Rd.moveT rfl) ?_
  refine PL.op rfl (Rd.lenT rfl) ?_
  refine PL.op rfl (Rd.gtr rfl rfl) ?_
  refine PL.nil ?_
  refine thA_n ?_
  rcases cond_some hh0 with ⟨h_1, hh0⟩ | ⟨h_1, hh0⟩
  · refine PC.cond_true rfl h_1 ?_
    refine PC.seq ?_
    refine PC.region ?_
    refine PL.op rfl (Rd.asnT rfl) ?_
    refine PL.nil ?_
    refine thA_n ?_
    refine PC.ret ?_
    refine thA_r ?_
    obtain rfl := some_in hh0
    exact FinA.mk (r := bA true) (bl := []) [] (.inl rfl) rfl (rl := [.tmp 2]) (.tmp .nil) rfl rfl rfl (.t _) trivial ⟨rfl, rfl⟩
  refine PC.cond_false rfl h_1 ?_
  refine PC.skip ?_
  refine thA_n ?_
  refine PC.seq ?_
  obtain ⟨r2, h_3, hh0⟩ := bind_some hh0
  refine PC.region ?_
  refine PL.op rfl (Rd.moveT rfl) ?_
  refine PL.callM false [] (w_S_DrawTouchPage N p_code r2 h_3) rfl Try.call22 rfl ⟨.t _, trivial⟩ rfl trivial (fun h => by cases h) ?_
  refine PL.nm (.tup [.agg [.os 0 0 r2.1.frames.length, iA r2.1.forced], iA r2.2.1, iA r2.2.2]) [some ⟨.tr (eL r2.1.frames), 59, 4⟩] rfl rfl ?_
  refine PL.op rfl (Rd.moveU rfl) ?_
  refine PL.op rfl (Rd.extract rfl rfl) ?_
  refine PL.op rfl (Rd.extract rfl rfl) ?_
  refine PL.op rfl (Rd.extract rfl rfl) ?_
  refine PL.ef rfl (Ef.alloc rfl rfl) ?_
  refine PL.nm (.op 1 0) [some ⟨.tr (eL r2.1.frames), 59, 4⟩, some ⟨.mx [.t (.v (.slice none 0 0)), iA (0 : Int)], 28, 0⟩] rfl rfl ?_
  refine PL.store rfl rfl rfl rfl rfl rfl rfl ?_
  refine PL.nO [some ⟨.tr (eL r2.1.frames), 59, 4⟩, some ⟨.mx [.os 0 0 r2.1.frames.length, iA r2.1.forced], 28, 0⟩] rfl ?_
  refine PL.op rfl (Rd.asnT rfl) ?_
  refine PL.op rfl (Rd.asnT rfl) ?_
  refine PL.nil ?_
  refine thA_n ?_
  refine PC.seq ?_
  obtain ⟨r4, h_5, hh0⟩ := bind_some hh0
  refine PC.region ?_
  refine PL.op rfl (Rd.loadBox rfl rfl rfl) ?_
  refine PL.op rfl (Rd.moveT rfl) ?_
  refine PL.op rfl (Rd.moveT rfl) ?_
  refine PL.callM true [] (w_I_TouchPage N r2.1 r2.2.1 r2.2.2 r4 h_5) rfl Try.call23 rfl ⟨.aggL ⟨.own rfl (by first | decide | exact List.not_mem_nil) rfl rfl, .t _, trivial⟩, .t _, .t _, trivial⟩ rfl trivial (fun _ => ⟨⟨⟨trivial, trivial, trivial⟩, trivial, trivial⟩, (flat_cons flat_ow flat_nil)⟩) ?_
  refine PL.nm (.tup [.agg [.os 2 0 r4.1.frames.length, iA r4.1.forced], bA r4.2]) [some ⟨.tr (eL r2.1.frames), 59, 4⟩, some ⟨.mx [.os 0 0 r2.1.frames.length, iA r2.1.forced], 28, 0⟩, some ⟨.tr (eL r4.1.frames), 59, 4⟩] rfl rfl ?_
  refine PL.op rfl (Rd.moveU rfl) ?_
  refine PL.op rfl (Rd.extract rfl rfl) ?_
  refine PL.op rfl (Rd.extract rfl rfl) ?_
  refine PL.ef rfl (Ef.alloc rfl rfl) ?_
  refine PL.nm (.op 3 0) [some ⟨.tr (eL r2.1.frames), 59, 4⟩, some ⟨.mx [.os 0 0 r2.1.frames.length, iA r2.1.forced], 28, 0⟩, some ⟨.tr (eL r4.1.frames), 59, 4⟩, some ⟨.mx [.t (.v (.slice none 0 0)), iA (0 : Int)], 28, 0⟩] rfl rfl ?_
  refine PL.store rfl rfl rfl rfl rfl rfl rfl ?_
  refine PL.nO [some ⟨.tr (eL r2.1.frames), 59, 4⟩, some ⟨.mx [.os 0 0 r2.1.frames.length, iA r2.1.forced], 28, 0⟩, some ⟨.tr (eL r4.1.frames), 59, 4⟩, some ⟨.mx [.os 2 0 r4.1.frames.length, iA r4.1.forced], 28, 0⟩] rfl ?_
  refine PL.op rfl (Rd.asnT rfl) ?_
  refine PL.nil ?_
  refine thA_n ?_
  refine PC.seq ?_
  obtain ⟨r6, h_7, hh0⟩ := bind_some hh0
  refine PC.region ?_
  refine PL.op rfl (Rd.loadBox rfl rfl rfl) ?_
  refine PL.op rfl (Rd.moveT rfl) ?_
  refine PL.op rfl (Rd.moveT rfl) ?_
  refine PL.callM true [] (w_S_TouchPage N r2.1 r2.2.1 r2.2.2 r6 h_7) rfl Try.call24 rfl ⟨.aggL ⟨.own rfl (by first | decide | exact List.not_mem_nil) rfl rfl, .t _, trivial⟩, .t _, .t _, trivial⟩ rfl trivial (fun _ => ⟨⟨⟨trivial, trivial, trivial⟩, trivial, trivial⟩, (flat_cons flat_ow flat_nil)⟩) ?_
  refine PL.nm (.tup [.agg [.os 4 0 r6.1.frames.length, iA r6.1.forced], bA r6.2]) [some ⟨.tr (eL r2.1.frames), 59, 4⟩, some ⟨.mx [.os 0 0 r2.1.frames.length, iA r2.1.forced], 28, 0⟩, some ⟨.tr (eL r4.1.frames), 59, 4⟩, some ⟨.mx [.os 2 0 r4.1.frames.length, iA r4.1.forced], 28, 0⟩, some ⟨.tr (eL r6.1.frames), 59, 4⟩] rfl rfl ?_
  refine PL.op rfl (Rd.moveU rfl) ?_
  refine PL.op rfl (Rd.extract rfl rfl) ?_
  refine PL.op rfl (Rd.extract rfl rfl) ?_
  refine PL.ef rfl (Ef.alloc rfl rfl) ?_
  refine PL.nm (.op 5 0) [some ⟨.tr (eL r2.1.frames), 59, 4⟩, some ⟨.mx [.os 0 0 r2.1.frames.length, iA r2.1.forced], 28, 0⟩, some ⟨.tr (eL r4.1.frames), 59, 4⟩, some ⟨.mx [.os 2 0 r4.1.frames.length, iA r4.1.forced], 28, 0⟩, some ⟨.tr (eL r6.1.frames), 59, 4⟩, some ⟨.mx [.t (.v (.slice none 0 0)), iA (0 : Int)], 28, 0⟩] rfl rfl ?_
  refine PL.store rfl rfl rfl rfl rfl rfl rfl ?_
  refine PL.nO [some ⟨.tr (eL r2.1.frames), 59, 4⟩, some ⟨.mx [.os 0 0 r2.1.frames.length, iA r2.1.forced], 28, 0⟩, some ⟨.tr (eL r4.1.frames), 59, 4⟩, some ⟨.mx [.os 2 0 r4.1.frames.length, iA r4.1.forced], 28, 0⟩, some ⟨.tr (eL r6.1.frames), 59, 4⟩, some ⟨.mx [.os 4 0 r6.1.frames.length, iA r6.1.forced], 28, 0⟩] rfl ?_
  refine PL.op rfl (Rd.asnT rfl) ?_
  refine PL.nil ?_
  refine thA_n ?_
  refine PC.seq ?_
  refine PC.seq ?_
  obtain ⟨r8, h_9, hh0⟩ := bind_some hh0
  rcases cond_some hh0 with ⟨h_10, hh0⟩ | ⟨h_10, hh0⟩
  rotate_left
  · refine PC.region ?_
    refine PL.op rfl (Rd.loadBox rfl rfl rfl) ?_
    refine PL.op rfl (Rd.loadBox rfl rfl rfl) ?_
    refine PL.callM true [] (w_L_equalBuffer N r4.1 r6.1 r8 h_9) rfl Try.call19 rfl ⟨.aggL ⟨.own rfl (by first | decide | exact List.not_mem_nil) rfl rfl, .t _, trivial⟩, .aggL ⟨.own rfl (by first | decide | exact List.not_mem_nil) rfl rfl, .t _, trivial⟩, trivial⟩ rfl trivial (fun _ => ⟨trivial, flat_nil⟩) ?_
    refine PL.op rfl (Rd.unnot rfl) ?_
    refine PL.op rfl (Rd.moveT rfl) ?_
    refine PL.guard_off rfl rfl (not_f h_10) ?_
    refine PL.guard_off rfl rfl (not_f h_10) ?_
    refine PL.guard_off rfl rfl (not_f h_10) ?_
    refine PL.op rfl (Rd.pick_t rfl (not_f h_10)) ?_
    refine PL.op rfl (Rd.moveT rfl) ?_
    refine PL.guard_off rfl rfl rfl ?_
    refine PL.guard_off rfl rfl rfl ?_
    refine PL.op rfl (Rd.pick_t rfl rfl) ?_
    refine PL.nil ?_
    refine thA_n ?_
    refine PC.cond_true rfl rfl ?_
    refine PC.seq ?_
    obtain ⟨r27, h_28, hh0⟩ := bind_some hh0
    rcases cond_some hh0 with ⟨h_29, hh0⟩ | ⟨h_29, hh0⟩
    rotate_left
    · refine PC.region ?_
      refine PL.op rfl (Rd.loadBox rfl rfl rfl) ?_
      refine PL.op rfl (Rd.loadBox rfl rfl rfl) ?_
      refine PL.callM true [] (w_L_equalBuffer N r4.1 r6.1 r27 h_28) rfl Try.call19 rfl ⟨.aggL ⟨.own rfl (by first | decide | exact List.not_mem_nil) rfl rfl, .t _, trivial⟩, .aggL ⟨.own rfl (by first | decide | exact List.not_mem_nil) rfl rfl, .t _, trivial⟩, trivial⟩ rfl trivial (fun _ => ⟨trivial, flat_nil⟩) ?_
      refine PL.op rfl (Rd.moveT rfl) ?_
      refine PL.guard_off rfl rfl h_29 ?_
      refine PL.guard_off rfl rfl h_29 ?_
      refine PL.guard_off rfl rfl h_29 ?_
      refine PL.op rfl (Rd.pick_f rfl h_29) ?_
      refine PL.op rfl (Rd.asnT rfl) ?_
      refine PL.nil ?_
      refine thA_n ?_
      refine PC.ret ?_
      refine thA_r ?_
      obtain rfl := some_in hh0
      exact FinA.mk (r := bA false) (bl := []) [] (.inl rfl) rfl (rl := [.tmp 2]) (.tmp .nil) rfl rfl rfl (.t _) trivial ⟨rfl, rfl⟩
    refine PC.region ?_
    refine PL.op rfl (Rd.loadBox rfl rfl rfl) ?_
    refine PL.op rfl (Rd.loadBox rfl rfl rfl) ?_
    refine PL.callM true [] (w_L_equalBuffer N r4.1 r6.1 r27 h_28) rfl Try.call19 rfl ⟨.aggL ⟨.own rfl (by first | decide | exact List.not_mem_nil) rfl rfl, .t _, trivial⟩, .aggL ⟨.own rfl (by first | decide | exact List.not_mem_nil) rfl rfl, .t _, trivial⟩, trivial⟩ rfl trivial (fun _ => ⟨trivial, flat_nil⟩) ?_
    refine PL.op rfl (Rd.moveT rfl) ?_
    refine PL.guard_on rfl h_29 ?_
    refine PL.op rfl (Rd.moveT rfl) ?_
    refine PL.guard_on rfl h_29 ?_
    refine PL.op rfl (Rd.moveT rfl) ?_
    refine PL.guard_on rfl h_29 ?_
    refine PL.op rfl (Rd.eqlB rfl rfl) ?_
    refine PL.op rfl (Rd.pick_t rfl h_29) ?_
    refine PL.op rfl (Rd.asnT rfl) ?_
    refine PL.nil ?_
    refine thA_n ?_
    refine PC.ret ?_
    refine thA_r ?_
    obtain rfl := some_in hh0
    exact FinA.mk (r := bA (r4.2 == r6.2)) (bl := []) [] (.inl rfl) rfl (rl := [.tmp 2]) (.tmp .nil) rfl rfl rfl (.t _) trivial ⟨rfl, rfl⟩
  rcases cond_some hh0 with ⟨h_11, hh0⟩ | ⟨h_11, hh0⟩
  rotate_left
  · refine PC.region ?_
    refine PL.op rfl (Rd.loadBox rfl rfl rfl) ?_
    refine PL.op rfl (Rd.loadBox rfl rfl rfl) ?_
    refine PL.callM true [] (w_L_equalBuffer N r4.1 r6.1 r8 h_9) rfl Try.call19 rfl ⟨.aggL ⟨.own rfl (by first | decide | exact List.not_mem_nil) rfl rfl, .t _, trivial⟩, .aggL ⟨.own rfl (by first | decide | exact List.not_mem_nil) rfl rfl, .t _, trivial⟩, trivial⟩ rfl trivial (fun _ => ⟨trivial, flat_nil⟩) ?_
    refine PL.op rfl (Rd.unnot rfl) ?_
    refine PL.op rfl (Rd.moveT rfl) ?_
    refine PL.guard_on rfl (not_t h_10) ?_
    refine PL.op rfl (Rd.moveT rfl) ?_
    refine PL.guard_on rfl (not_t h_10) ?_
    refine PL.op rfl (Rd.moveT rfl) ?_
    refine PL.guard_on rfl (not_t h_10) ?_
    refine PL.op rfl (Rd.neqB rfl rfl) ?_
    refine PL.op rfl (Rd.pick_f rfl (not_t h_10)) ?_
    refine PL.op rfl (Rd.moveT rfl) ?_
    refine PL.guard_off rfl rfl (not_f h_11) ?_
    refine PL.guard_off rfl rfl (not_f h_11) ?_
    refine PL.op rfl (Rd.pick_t rfl (not_f h_11)) ?_
    refine PL.nil ?_
    refine thA_n ?_
    refine PC.cond_true rfl rfl ?_
    refine PC.seq ?_
    obtain ⟨r24, h_25, hh0⟩ := bind_some hh0
    rcases cond_some hh0 with ⟨h_26, hh0⟩ | ⟨h_26, hh0⟩
    rotate_left
    · refine PC.region ?_
      refine PL.op rfl (Rd.loadBox rfl rfl rfl) ?_
      refine PL.op rfl (Rd.loadBox rfl rfl rfl) ?_
      refine PL.callM true [] (w_L_equalBuffer N r4.1 r6.1 r24 h_25) rfl Try.call19 rfl ⟨.aggL ⟨.own rfl (by first | decide | exact List.not_mem_nil) rfl rfl, .t _, trivial⟩, .aggL ⟨.own rfl (by first | decide | exact List.not_mem_nil) rfl rfl, .t _, trivial⟩, trivial⟩ rfl trivial (fun _ => ⟨trivial, flat_nil⟩) ?_
      refine PL.op rfl (Rd.moveT rfl) ?_
      refine PL.guard_off rfl rfl h_26 ?_
      refine PL.guard_off rfl rfl h_26 ?_
      refine PL.guard_off rfl rfl h_26 ?_
      refine PL.op rfl (Rd.pick_f rfl h_26) ?_
      refine PL.op rfl (Rd.asnT rfl) ?_
      refine PL.nil ?_
      refine thA_n ?_
      refine PC.ret ?_
      refine thA_r ?_
      obtain rfl := some_in hh0
      exact FinA.mk (r := bA false) (bl := []) [] (.inl rfl) rfl (rl := [.tmp 2]) (.tmp .nil) rfl rfl rfl (.t _) trivial ⟨rfl, rfl⟩
    refine PC.region ?_
    refine PL.op rfl (Rd.loadBox rfl rfl rfl) ?_
    refine PL.op rfl (Rd.loadBox rfl rfl rfl) ?_
    refine PL.callM true [] (w_L_equalBuffer N r4.1 r6.1 r24 h_25) rfl Try.call19 rfl ⟨.aggL ⟨.own rfl (by first | decide | exact List.not_mem_nil) rfl rfl, .t _, trivial⟩, .aggL ⟨.own rfl (by first | decide | exact List.not_mem_nil) rfl rfl, .t _, trivial⟩, trivial⟩ rfl trivial (fun _ => ⟨trivial, flat_nil⟩) ?_
    refine PL.op rfl (Rd.moveT rfl) ?_
    refine PL.guard_on rfl h_26 ?_
    refine PL.op rfl (Rd.moveT rfl) ?_
    refine PL.guard_on rfl h_26 ?_
    refine PL.op rfl (Rd.moveT rfl) ?_
    refine PL.guard_on rfl h_26 ?_
    refine PL.op rfl (Rd.eqlB rfl rfl) ?_
    refine PL.op rfl (Rd.pick_t rfl h_26) ?_
    refine PL.op rfl (Rd.asnT rfl) ?_
    refine PL.nil ?_
    refine thA_n ?_
    refine PC.ret ?_
    refine thA_r ?_
    obtain rfl := some_in hh0
    exact FinA.mk (r := bA (r4.2 == r6.2)) (bl := []) [] (.inl rfl) rfl (rl := [.tmp 2]) (.tmp .nil) rfl rfl rfl (.t _) trivial ⟨rfl, rfl⟩
  refine PC.region ?_
  refine PL.op rfl (Rd.loadBox rfl rfl rfl) ?_
  refine PL.op rfl (Rd.loadBox rfl rfl rfl) ?_
  refine PL.callM true [] (w_L_equalBuffer N r4.1 r6.1 r8 h_9) rfl Try.call19 rfl ⟨.aggL ⟨.own rfl (by first | decide | exact List.not_mem_nil) rfl rfl, .t _, trivial⟩, .aggL ⟨.own rfl (by first | decide | exact List.not_mem_nil) rfl rfl, .t _, trivial⟩, trivial⟩ rfl trivial (fun _ => ⟨trivial, flat_nil⟩) ?_
  refine PL.op rfl (Rd.unnot rfl) ?_
  refine PL.op rfl (Rd.moveT rfl) ?_
  refine PL.guard_on rfl (not_t h_10) ?_
  refine PL.op rfl (Rd.moveT rfl) ?_
  refine PL.guard_on rfl (not_t h_10) ?_
  refine PL.op rfl (Rd.moveT rfl) ?_
  refine PL.guard_on rfl (not_t h_10) ?_
  refine PL.op rfl (Rd.neqB rfl rfl) ?_
  refine PL.op rfl (Rd.pick_f rfl (not_t h_10)) ?_
  refine PL.op rfl (Rd.moveT rfl) ?_
  refine PL.guard_on rfl (not_t h_11) ?_
  refine PL.op rfl (Rd.moveT rfl) ?_
  refine PL.guard_on rfl (not_t h_11) ?_
  refine PL.op rfl (Rd.unnot rfl) ?_
  refine PL.op rfl (Rd.pick_f rfl (not_t h_11)) ?_
  refine PL.nil ?_
  refine thA_n ?_
  rcases cond_some hh0 with ⟨h_12, hh0⟩ | ⟨h_12, hh0⟩
  rotate_left
  · refine PC.cond_true rfl (not_f h_12) ?_
    refine PC.seq ?_
    obtain ⟨r21, h_22, hh0⟩ := bind_some hh0
    rcases cond_some hh0 with ⟨h_23, hh0⟩ | ⟨h_23, hh0⟩
    rotate_left
    · refine PC.region ?_
      refine PL.op rfl (Rd.loadBox rfl rfl rfl) ?_
      refine PL.op rfl (Rd.loadBox rfl rfl rfl) ?_
      refine PL.callM true [] (w_L_equalBuffer N r4.1 r6.1 r21 h_22) rfl Try.call19 rfl ⟨.aggL ⟨.own rfl (by first | decide | exact List.not_mem_nil) rfl rfl, .t _, trivial⟩, .aggL ⟨.own rfl (by first | decide | exact List.not_mem_nil) rfl rfl, .t _, trivial⟩, trivial⟩ rfl trivial (fun _ => ⟨trivial, flat_nil⟩) ?_
      refine PL.op rfl (Rd.moveT rfl) ?_
      refine PL.guard_off rfl rfl h_23 ?_
      refine PL.guard_off rfl rfl h_23 ?_
      refine PL.guard_off rfl rfl h_23 ?_
      refine PL.op rfl (Rd.pick_f rfl h_23) ?_
      refine PL.op rfl (Rd.asnT rfl) ?_
      refine PL.nil ?_
      refine thA_n ?_
      refine PC.ret ?_
      refine thA_r ?_
      obtain rfl := some_in hh0
      exact FinA.mk (r := bA false) (bl := []) [] (.inl rfl) rfl (rl := [.tmp 2]) (.tmp .nil) rfl rfl rfl (.t _) trivial ⟨rfl, rfl⟩
    refine PC.region ?_
    refine PL.op rfl (Rd.loadBox rfl rfl rfl) ?_
    refine PL.op rfl (Rd.loadBox rfl rfl rfl) ?_
    refine PL.callM true [] (w_L_equalBuffer N r4.1 r6.1 r21 h_22) rfl Try.call19 rfl ⟨.aggL ⟨.own rfl (by first | decide | exact List.not_mem_nil) rfl rfl, .t _, trivial⟩, .aggL ⟨.own rfl (by first | decide | exact List.not_mem_nil) rfl rfl, .t _, trivial⟩, trivial⟩ rfl trivial (fun _ => ⟨trivial, flat_nil⟩) ?_
    refine PL.op rfl (Rd.moveT rfl) ?_
    refine PL.guard_on rfl h_23 ?_
    refine PL.op rfl (Rd.moveT rfl) ?_
    refine PL.guard_on rfl h_23 ?_
    refine PL.op rfl (Rd.moveT rfl) ?_
    refine PL.guard_on rfl h_23 ?_
    refine PL.op rfl (Rd.eqlB rfl rfl) ?_
    refine PL.op rfl (Rd.pick_t rfl h_23) ?_
    refine PL.op rfl (Rd.asnT rfl) ?_
    refine PL.nil ?_
    refine thA_n ?_
    refine PC.ret ?_
    refine thA_r ?_
    obtain rfl := some_in hh0
    exact FinA.mk (r := bA (r4.2 == r6.2)) (bl := []) [] (.inl rfl) rfl (rl := [.tmp 2]) (.tmp .nil) rfl rfl rfl (.t _) trivial ⟨rfl, rfl⟩
  refine PC.cond_false rfl (not_t h_12) ?_
  refine PC.skip ?_
  refine thA_n ?_
  refine PC.seq ?_
  obtain ⟨r13, h_14, hh0⟩ := bind_some hh0
  refine PC.region ?_
  refine PL.op rfl (Rd.loadBox rfl rfl rfl) ?_
  refine PL.callM true [] (w_I_RedoStart N r2.1 r13 h_14) rfl Try.call28 rfl ⟨.aggL ⟨.own rfl (by first | decide | exact List.not_mem_nil) rfl rfl, .t _, trivial⟩, trivial⟩ rfl trivial (fun _ => ⟨trivial, flat_nil⟩) ?_
  refine PL.op rfl (Rd.asnT rfl) ?_
  refine PL.nil ?_
  refine thA_n ?_
  refine PC.seq ?_
  obtain ⟨r15, h_16, hh0⟩ := bind_some hh0
  refine PC.region ?_
  refine PL.op rfl (Rd.loadBox rfl rfl rfl) ?_
  refine PL.callM true [] (w_I_RedoStart N r4.1 r15 h_16) rfl Try.call28 rfl ⟨.aggL ⟨.own rfl (by first | decide | exact List.not_mem_nil) rfl rfl, .t _, trivial⟩, trivial⟩ rfl trivial (fun _ => ⟨trivial, flat_nil⟩) ?_
  refine PL.op rfl (Rd.asnT rfl) ?_
  refine PL.nil ?_
  refine thA_n ?_
  refine PC.seq ?_
  rcases cond_some hh0 with ⟨h_17, hh0⟩ | ⟨h_17, hh0⟩
  rotate_left
  · rcases cond_some hh0 with ⟨h_20, hh0⟩ | ⟨h_20, hh0⟩
    rotate_left
    · refine PC.region ?_
      refine PL.op rfl (Rd.moveT rfl) ?_
      refine PL.op rfl (Rd.eql rfl rfl) ?_
      refine PL.op rfl (Rd.moveT rfl) ?_
      refine PL.guard_off rfl rfl h_17 ?_
      refine PL.guard_off rfl rfl h_17 ?_
      refine PL.guard_off rfl rfl h_17 ?_
      refine PL.op rfl (Rd.pick_f rfl h_17) ?_
      refine PL.op rfl (Rd.moveT rfl) ?_
      refine PL.guard_on rfl rfl ?_
      refine PL.op rfl (Rd.moveT rfl) ?_
      refine PL.guard_on rfl rfl ?_
      refine PL.op rfl (Rd.gtr rfl rfl) ?_
      refine PL.guard_on rfl rfl ?_
      refine PL.op rfl (Rd.moveT rfl) ?_
      refine PL.guard_off rfl rfl h_20 ?_
      refine PL.guard_off rfl rfl h_20 ?_
      refine PL.guard_off rfl rfl h_20 ?_
      refine PL.guard_off rfl rfl h_20 ?_
      refine PL.guard_off rfl rfl h_20 ?_
      refine PL.guard_on rfl rfl ?_
      refine PL.op rfl (Rd.pick_f rfl h_20) ?_
      refine PL.op rfl (Rd.pick_f rfl rfl) ?_
      refine PL.op rfl (Rd.asnT rfl) ?_
      refine PL.nil ?_
      refine thA_n ?_
      refine PC.ret ?_
      obtain rfl := some_in hh0
      exact FinA.mk (r := bA false) (bl := []) [] (.inl rfl) rfl (rl := [.tmp 2]) (.tmp .nil) rfl rfl rfl (.t _) trivial ⟨rfl, rfl⟩
    refine PC.region ?_
    refine PL.op rfl (Rd.moveT rfl) ?_
    refine PL.op rfl (Rd.eql rfl rfl) ?_
    refine PL.op rfl (Rd.moveT rfl) ?_
    refine PL.guard_off rfl rfl h_17 ?_
    refine PL.guard_off rfl rfl h_17 ?_
    refine PL.guard_off rfl rfl h_17 ?_
    refine PL.op rfl (Rd.pick_f rfl h_17) ?_
    refine PL.op rfl (Rd.moveT rfl) ?_
    refine PL.guard_on rfl rfl ?_
    refine PL.op rfl (Rd.moveT rfl) ?_
    refine PL.guard_on rfl rfl ?_
    refine PL.op rfl (Rd.gtr rfl rfl) ?_
    refine PL.guard_on rfl rfl ?_
    refine PL.op rfl (Rd.moveT rfl) ?_
    refine PL.guard_on rfl h_20 ?_
    refine PL.op rfl (Rd.moveT rfl) ?_
    refine PL.guard_on rfl h_20 ?_
    refine PL.op rfl (Rd.moveT rfl) ?_
    refine PL.guard_on rfl h_20 ?_
    refine PL.op rfl (Rd.moveT rfl) ?_
    refine PL.guard_on rfl h_20 ?_
    refine PL.op rfl (Rd.min2 rfl rfl) ?_
    refine PL.guard_on rfl h_20 ?_
    refine PL.op rfl (Rd.eql rfl rfl) ?_
    refine PL.guard_on rfl rfl ?_
    refine PL.op rfl (Rd.pick_t rfl h_20) ?_
    refine PL.op rfl (Rd.pick_f rfl rfl) ?_
    refine PL.op rfl (Rd.asnT rfl) ?_
    refine PL.nil ?_
    refine thA_n ?_
    refine PC.ret ?_
    obtain rfl := some_in hh0
    exact FinA.mk (r := bA (decide (r15 = (min r13 r2.2.2)))) (bl := []) [] (.inl rfl) rfl (rl := [.tmp 2]) (.tmp .nil) rfl rfl rfl (.t _) trivial ⟨rfl, rfl⟩
  rcases cond_some hh0 with ⟨h_18, hh0⟩ | ⟨h_18, hh0⟩
  · refine PC.region ?_
    refine PL.op rfl (Rd.moveT rfl) ?_
    refine PL.op rfl (Rd.eql rfl rfl) ?_
    refine PL.op rfl (Rd.moveT rfl) ?_
    refine PL.guard_on rfl h_17 ?_
    refine PL.op rfl (Rd.moveT rfl) ?_
    refine PL.guard_on rfl h_17 ?_
    refine PL.op rfl (Rd.moveT rfl) ?_
    refine PL.guard_on rfl h_17 ?_
    refine PL.op rfl (Rd.eql rfl rfl) ?_
    refine PL.op rfl (Rd.pick_t rfl h_17) ?_
    refine PL.op rfl (Rd.moveT rfl) ?_
    refine PL.guard_off rfl rfl h_18 ?_
    refine PL.guard_off rfl rfl h_18 ?_
    refine PL.guard_off rfl rfl h_18 ?_
    refine PL.guard_un rfl rfl ?_
    refine PL.guard_un rfl rfl ?_
    refine PL.guard_un rfl rfl ?_
    refine PL.guard_un rfl rfl ?_
    refine PL.guard_un rfl rfl ?_
    refine PL.guard_off rfl rfl h_18 ?_
    refine PL.op rfl (Rd.pick_t rfl h_18) ?_
    refine PL.op rfl (Rd.asnT rfl) ?_
    refine PL.nil ?_
    refine thA_n ?_
    refine PC.ret ?_
    obtain rfl := some_in hh0
    exact FinA.mk (r := bA true) (bl := []) [] (.inl rfl) rfl (rl := [.tmp 2]) (.tmp .nil) rfl rfl rfl (.t _) trivial ⟨rfl, rfl⟩
  rcases cond_some hh0 with ⟨h_19, hh0⟩ | ⟨h_19, hh0⟩
  rotate_left
  · refine PC.region ?_
    refine PL.op rfl (Rd.moveT rfl) ?_
    refine PL.op rfl (Rd.eql rfl rfl) ?_
    refine PL.op rfl (Rd.moveT rfl) ?_
    refine PL.guard_on rfl h_17 ?_
    refine PL.op rfl (Rd.moveT rfl) ?_
    refine PL.guard_on rfl h_17 ?_
    refine PL.op rfl (Rd.moveT rfl) ?_
    refine PL.guard_on rfl h_17 ?_
    refine PL.op rfl (Rd.eql rfl rfl) ?_
    refine PL.op rfl (Rd.pick_t rfl h_17) ?_
    refine PL.op rfl (Rd.moveT rfl) ?_
    refine PL.guard_on rfl h_18 ?_
    refine PL.op rfl (Rd.moveT rfl) ?_
    refine PL.guard_on rfl h_18 ?_
    refine PL.op rfl (Rd.gtr rfl rfl) ?_
    refine PL.guard_on rfl h_18 ?_
    refine PL.op rfl (Rd.moveT rfl) ?_
    refine PL.guard_off rfl rfl h_19 ?_
    refine PL.guard_off rfl rfl h_19 ?_
    refine PL.guard_off rfl rfl h_19 ?_
    refine PL.guard_off rfl rfl h_19 ?_
    refine PL.guard_off rfl rfl h_19 ?_
    refine PL.guard_on rfl h_18 ?_
    refine PL.op rfl (Rd.pick_f rfl h_19) ?_
    refine PL.op rfl (Rd.pick_f rfl h_18) ?_
    refine PL.op rfl (Rd.asnT rfl) ?_
    refine PL.nil ?_
    refine thA_n ?_
    refine PC.ret ?_
    obtain rfl := some_in hh0
    exact FinA.mk (r := bA false) (bl := []) [] (.inl rfl) rfl (rl := [.tmp 2]) (.tmp .nil) rfl rfl rfl (.t _) trivial ⟨rfl, rfl⟩
  refine PC.region ?_
  refine PL.op rfl (Rd.moveT rfl) ?_
  refine PL.op rfl (Rd.eql rfl rfl) ?_
  refine PL.op rfl (Rd.moveT rfl) ?_
  refine PL.guard_on rfl h_17 ?_
  refine PL.op rfl (Rd.moveT rfl) ?_
  refine PL.guard_on rfl h_17 ?_
  refine PL.op rfl (Rd.moveT rfl) ?_
  refine PL.guard_on rfl h_17 ?_
  refine PL.op rfl (Rd.eql rfl rfl) ?_
  refine PL.op rfl (Rd.pick_t rfl h_17) ?_
  refine PL.op rfl (Rd.moveT rfl) ?_
  refine PL.guard_on rfl h_18 ?_
  refine PL.op rfl (Rd.moveT rfl) ?_
  refine PL.guard_on rfl h_18 ?_
  refine PL.op rfl (Rd.gtr rfl rfl) ?_
  refine PL.guard_on rfl h_18 ?_
  refine PL.op rfl (Rd.moveT rfl) ?_
  refine PL.guard_on rfl h_19 ?_
  refine PL.op rfl (Rd.moveT rfl) ?_
  refine PL.guard_on rfl h_19 ?_
  refine PL.op rfl (Rd.moveT rfl) ?_
  refine PL.guard_on rfl h_19 ?_
  refine PL.op rfl (Rd.moveT rfl) ?_
  refine PL.guard_on rfl h_19 ?_
  refine PL.op rfl (Rd.min2 rfl rfl) ?_
  refine PL.guard_on rfl h_19 ?_
  refine PL.op rfl (Rd.eql rfl rfl) ?_
  refine PL.guard_on rfl h_18 ?_
  refine PL.op rfl (Rd.pick_t rfl h_19) ?_
  refine PL.op rfl (Rd.pick_f rfl h_18) ?_
  refine PL.op rfl (Rd.asnT rfl) ?_
  refine PL.nil ?_
  refine thA_n ?_
  refine PC.ret ?_
  obtain rfl := some_in hh0
  exact FinA.mk (r := bA (decide (r15 = (min r13 r2.2.2)))) (bl := []) [] (.inl rfl) rfl (rl := [.tmp 2]) (.tmp .nil) rfl rfl rfl (.t _) trivial ⟨rfl, rfl⟩

def m_L_FnTouchPage (N : Nat) (p_code : (List UInt8)) : Option (Bool) :=
  cond (decide ((1048576 : Int) < (p_code.length : Int)))
    (some true)
    ((m_S_DrawTouchPage N p_code).bind fun r2 =>
    (m_I_TouchPage N r2.1 r2.2.1 r2.2.2).bind fun r4 =>
    (m_S_TouchPage N r2.1 r2.2.1 r2.2.2).bind fun r6 =>
    (m_L_equalBuffer N r4.1 r6.1).bind fun r8 =>
    cond r8
      (cond (r4.2 == r6.2)
        (cond r4.2
          ((m_I_ValidBuffer N r4.1).bind fun r13 =>
          cond r13
            ((m_I_CanWrite N r4.1 r2.2.1).bind fun r16 =>
            cond (r16 == (decide (r2.2.2 ≤ r2.1.forced)))
              ((m_I_ForceLog N r4.1 r2.2.2).bind fun r19 =>
              (m_I_CanWrite N r19 r2.2.1).bind fun r21 =>
              some r21)
              (some false))
            (some false))
          ((m_L_equalBuffer N r4.1 r6.1).bind fun r23 =>
          cond r23
            (some (r4.2 == r6.2))
            (some false)))
        ((m_L_equalBuffer N r4.1 r6.1).bind fun r26 =>
        cond r26
          (some (r4.2 == r6.2))
          (some false)))
      ((m_L_equalBuffer N r4.1 r6.1).bind fun r29 =>
      cond r29
        (some (r4.2 == r6.2))
        (some false)))
theorem w_L_FnTouchPage (N : Nat) (p_code : (List UInt8)) (r : Bool) (hh0 : m_L_FnTouchPage N p_code = some r) : FnX Try.prog 8 [] [sL p_code] (RE (bA r) []) := by
  unfold m_L_FnTouchPage at hh0
  refine FnX.mk Try.func8 rfl rfl ?_
  intro s hs
  refine PC.seq ?_
  refine PC.region ?_
  refine PL.op rfl (Rd.asnT rfl) ?_
  refine PL.nil ?_
  refine thA_n ?_
  refine PC.seq ?_
  refine PC.seq ?_
  refine PC.region ?_
  refine PL.op rfl (Rd.moveT rfl) ?_
  refine PL.op rfl (Rd.lenT rfl) ?_
  refine PL.op rfl (Rd.gtr rfl rfl) ?_
  refine PL.nil ?_
  refine thA_n ?_
  rcases cond_some hh0 with ⟨h_1, hh0⟩ | ⟨h_1, hh0⟩
  · refine PC.cond_true rfl h_1 ?_
    refine PC.seq ?_
    refine PC.region ?_
    refine PL.op rfl (Rd.asnT rfl) ?_
    refine PL.nil ?_
    refine thA_n ?_
    refine PC.ret ?_
    refine thA_r ?_
    obtain rfl := some_in hh0
    exact FinA.mk (r := bA true) (bl := []) [] (.inl rfl) rfl (rl := [.tmp 2]) (.tmp .nil) rfl rfl rfl (.t _) trivial ⟨rfl, rfl⟩
  refine PC.cond_false rfl h_1 ?_
  refine PC.skip ?_
  refine thA_n ?_
  refine PC.seq ?_
  obtain ⟨r2, h_3, hh0⟩ := bind_some hh0
  refine PC.region ?_
  refine PL.op rfl (Rd.moveT rfl) ?_
  refine PL.callM false [] (w_S_DrawTouchPage N p_code r2 h_3) rfl Try.call22 rfl ⟨.t _, trivial⟩ rfl trivial (fun h => by cases h) ?_
  refine PL.nm (.tup [.agg [.os 0 0 r2.1.frames.length, iA r2.1.forced], iA r2.2.1, iA r2.2.2]) [some ⟨.tr (eL r2.1.frames), 59, 4⟩] rfl rfl ?_
  refine PL.op rfl (Rd.moveU rfl) ?_
  refine PL.op rfl (Rd.extract rfl rfl) ?_
  refine PL.op rfl (Rd.extract rfl rfl) ?_
  refine PL.op rfl (Rd.extract rfl rfl) ?_
  refine PL.ef rfl (Ef.alloc rfl rfl) ?_
  refine PL.nm (.op 1 0) [some ⟨.tr (eL r2.1.frames), 59, 4⟩, some ⟨.mx [.t (.v (.slice none 0 0)), iA (0 : Int)], 28, 0⟩] rfl rfl ?_
  refine PL.store rfl rfl rfl rfl rfl rfl rfl ?_
  refine PL.nO [some ⟨.tr (eL r2.1.frames), 59, 4⟩, some ⟨.mx [.os 0 0 r2.1.frames.length, iA r2.1.forced], 28, 0⟩] rfl ?_
  refine PL.op rfl (Rd.asnT rfl) ?_
  refine PL.op rfl (Rd.asnT rfl) ?_
  refine PL.nil ?_
  refine thA_n ?_
  refine PC.seq ?_
  obtain ⟨r4, h_5, hh0⟩ := bind_some hh0
  refine PC.region ?_
  refine PL.op rfl (Rd.loadBox rfl rfl rfl) ?_
  refine PL.op rfl (Rd.moveT rfl) ?_
  refine PL.op rfl (Rd.moveT rfl) ?_
  refine PL.callM true [] (w_I_TouchPage N r2.1 r2.2.1 r2.2.2 r4 h_5) rfl Try.call23 rfl ⟨.aggL ⟨.own rfl (by first | decide | exact List.not_mem_nil) rfl rfl, .t _, trivial⟩, .t _, .t _, trivial⟩ rfl trivial (fun _ => ⟨⟨⟨trivial, trivial, trivial⟩, trivial, trivial⟩, (flat_cons flat_ow flat_nil)⟩) ?_
  refine PL.nm (.tup [.agg [.os 2 0 r4.1.frames.length, iA r4.1.forced], bA r4.2]) [some ⟨.tr (eL r2.1.frames), 59, 4⟩, some ⟨.mx [.os 0 0 r2.1.frames.length, iA r2.1.forced], 28, 0⟩, some ⟨.tr (eL r4.1.frames), 59, 4⟩] rfl rfl ?_
  refine PL.op rfl (Rd.moveU rfl) ?_
  refine PL.op rfl (Rd.extract rfl rfl) ?_
  refine PL.op rfl (Rd.extract rfl rfl) ?_
  refine PL.ef rfl (Ef.alloc rfl rfl) ?_
  refine PL.nm (.op 3 0) [some ⟨.tr (eL r2.1.frames), 59, 4⟩, some ⟨.mx [.os 0 0 r2.1.frames.length, iA r2.1.forced], 28, 0⟩, some ⟨.tr (eL r4.1.frames), 59, 4⟩, some ⟨.mx [.t (.v (.slice none 0 0)), iA (0 : Int)], 28, 0⟩] rfl rfl ?_
  refine PL.store rfl rfl rfl rfl rfl rfl rfl ?_
  refine PL.nO [some ⟨.tr (eL r2.1.frames), 59, 4⟩, some ⟨.mx [.os 0 0 r2.1.frames.length, iA r2.1.forced], 28, 0⟩, some ⟨.tr (eL r4.1.frames), 59, 4⟩, some ⟨.mx [.os 2 0 r4.1.frames.length, iA r4.1.forced], 28, 0⟩] rfl ?_
  refine PL.op rfl (Rd.asnT rfl) ?_
  refine PL.nil ?_
  refine thA_n ?_
  refine PC.seq ?_
  obtain ⟨r6, h_7, hh0⟩ := bind_some hh0
  refine PC.region ?_
  refine PL.op rfl (Rd.loadBox rfl rfl rfl) ?_
  refine PL.op rfl (Rd.moveT rfl) ?_
  refine PL.op rfl (Rd.moveT rfl) ?_
  refine PL.callM true [] (w_S_TouchPage N r2.1 r2.2.1 r2.2.2 r6 h_7) rfl Try.call24 rfl ⟨.aggL ⟨.own rfl (by first | decide | exact List.not_mem_nil) rfl rfl, .t _, trivial⟩, .t _, .t _, trivial⟩ rfl trivial (fun _ => ⟨⟨⟨trivial, trivial, trivial⟩, trivial, trivial⟩, (flat_cons flat_ow flat_nil)⟩) ?_
  refine PL.nm (.tup [.agg [.os 4 0 r6.1.frames.length, iA r6.1.forced], bA r6.2]) [some ⟨.tr (eL r2.1.frames), 59, 4⟩, some ⟨.mx [.os 0 0 r2.1.frames.length, iA r2.1.forced], 28, 0⟩, some ⟨.tr (eL r4.1.frames), 59, 4⟩, some ⟨.mx [.os 2 0 r4.1.frames.length, iA r4.1.forced], 28, 0⟩, some ⟨.tr (eL r6.1.frames), 59, 4⟩] rfl rfl ?_
  refine PL.op rfl (Rd.moveU rfl) ?_
  refine PL.op rfl (Rd.extract rfl rfl) ?_
  refine PL.op rfl (Rd.extract rfl rfl) ?_
  refine PL.ef rfl (Ef.alloc rfl rfl) ?_
  refine PL.nm (.op 5 0) [some ⟨.tr (eL r2.1.frames), 59, 4⟩, some ⟨.mx [.os 0 0 r2.1.frames.length, iA r2.1.forced], 28, 0⟩, some ⟨.tr (eL r4.1.frames), 59, 4⟩, some ⟨.mx [.os 2 0 r4.1.frames.length, iA r4.1.forced], 28, 0⟩, some ⟨.tr (eL r6.1.frames), 59, 4⟩, some ⟨.mx [.t (.v (.slice none 0 0)), iA (0 : Int)], 28, 0⟩] rfl rfl ?_
  refine PL.store rfl rfl rfl rfl rfl rfl rfl ?_
  refine PL.nO [some ⟨.tr (eL r2.1.frames), 59, 4⟩, some ⟨.mx [.os 0 0 r2.1.frames.length, iA r2.1.forced], 28, 0⟩, some ⟨.tr (eL r4.1.frames), 59, 4⟩, some ⟨.mx [.os 2 0 r4.1.frames.length, iA r4.1.forced], 28, 0⟩, some ⟨.tr (eL r6.1.frames), 59, 4⟩, some ⟨.mx [.os 4 0 r6.1.frames.length, iA r6.1.forced], 28, 0⟩] rfl ?_
  refine PL.op rfl (Rd.asnT rfl) ?_
  refine PL.nil ?_
  refine thA_n ?_
  refine PC.seq ?_
  refine PC.seq ?_
  obtain ⟨r8, h_9, hh0⟩ := bind_some hh0
  rcases cond_some hh0 with ⟨h_10, hh0⟩ | ⟨h_10, hh0⟩
  rotate_left
  · refine PC.region ?_
    refine PL.op rfl (Rd.loadBox rfl rfl rfl) ?_
    refine PL.op rfl (Rd.loadBox rfl rfl rfl) ?_
    refine PL.callM true [] (w_L_equalBuffer N r4.1 r6.1 r8 h_9) rfl Try.call19 rfl ⟨.aggL ⟨.own rfl (by first | decide | exact List.not_mem_nil) rfl rfl, .t _, trivial⟩, .aggL ⟨.own rfl (by first | decide | exact List.not_mem_nil) rfl rfl, .t _, trivial⟩, trivial⟩ rfl trivial (fun _ => ⟨trivial, flat_nil⟩) ?_
    refine PL.op rfl (Rd.unnot rfl) ?_
    refine PL.op rfl (Rd.moveT rfl) ?_
    refine PL.guard_off rfl rfl (not_f h_10) ?_
    refine PL.guard_off rfl rfl (not_f h_10) ?_
    refine PL.guard_off rfl rfl (not_f h_10) ?_
    refine PL.op rfl (Rd.pick_t rfl (not_f h_10)) ?_
    refine PL.op rfl (Rd.moveT rfl) ?_
    refine PL.guard_off rfl rfl rfl ?_
    refine PL.guard_off rfl rfl rfl ?_
    refine PL.op rfl (Rd.pick_t rfl rfl) ?_
    refine PL.nil ?_
    refine thA_n ?_
    refine PC.cond_true rfl rfl ?_
    refine PC.seq ?_
    obtain ⟨r29, h_30, hh0⟩ := bind_some hh0
    rcases cond_some hh0 with ⟨h_31, hh0⟩ | ⟨h_31, hh0⟩
    rotate_left
    · refine PC.region ?_
      refine PL.op rfl (Rd.loadBox rfl rfl rfl) ?_
      refine PL.op rfl (Rd.loadBox rfl rfl rfl) ?_
      refine PL.callM true [] (w_L_equalBuffer N r4.1 r6.1 r29 h_30) rfl Try.call19 rfl ⟨.aggL ⟨.own rfl (by first | decide | exact List.not_mem_nil) rfl rfl, .t _, trivial⟩, .aggL ⟨.own rfl (by first | decide | exact List.not_mem_nil) rfl rfl, .t _, trivial⟩, trivial⟩ rfl trivial (fun _ => ⟨trivial, flat_nil⟩) ?_
      refine PL.op rfl (Rd.moveT rfl) ?_
      refine PL.guard_off rfl rfl h_31 ?_
      refine PL.guard_off rfl rfl h_31 ?_
      refine PL.guard_off rfl rfl h_31 ?_
      refine PL.op rfl (Rd.pick_f rfl h_31) ?_
      refine PL.op rfl (Rd.asnT rfl) ?_
      refine PL.nil ?_
      refine thA_n ?_
      refine PC.ret ?_
      refine thA_r ?_
      obtain rfl := some_in hh0
      exact FinA.mk (r := bA false) (bl := []) [] (.inl rfl) rfl (rl := [.tmp 2]) (.tmp .nil) rfl rfl rfl (.t _) trivial ⟨rfl, rfl⟩
    refine PC.region ?_
    refine PL.op rfl (Rd.loadBox rfl rfl rfl) ?_
    refine PL.op rfl (Rd.loadBox rfl rfl rfl) ?_
    refine PL.callM true [] (w_L_equalBuffer N r4.1 r6.1 r29 h_30) rfl Try.call19 rfl ⟨.aggL ⟨.own rfl (by first | decide | exact List.not_mem_nil) rfl rfl, .t _, trivial⟩, .aggL ⟨.own rfl (by first | decide | exact List.not_mem_nil) rfl rfl, .t _, trivial⟩, trivial⟩ rfl trivial (fun _ => ⟨trivial, flat_nil⟩) ?_
    refine PL.op rfl (Rd.moveT rfl) ?_
    refine PL.guard_on rfl h_31 ?_
    refine PL.op rfl (Rd.moveT rfl) ?_
    refine PL.guard_on rfl h_31 ?_
    refine PL.op rfl (Rd.moveT rfl) ?_
    refine PL.guard_on rfl h_31 ?_
    refine PL.op rfl (Rd.eqlB rfl rfl) ?_
    refine PL.op rfl (Rd.pick_t rfl h_31) ?_
    refine PL.op rfl (Rd.asnT rfl) ?_
    refine PL.nil ?_
    refine thA_n ?_
    refine PC.ret ?_
    refine thA_r ?_
    obtain rfl := some_in hh0
    exact FinA.mk (r := bA (r4.2 == r6.2)) (bl := []) [] (.inl rfl) rfl (rl := [.tmp 2]) (.tmp .nil) rfl rfl rfl (.t _) trivial ⟨rfl, rfl⟩
  rcases cond_some hh0 with ⟨h_11, hh0⟩ | ⟨h_11, hh0⟩
  rotate_left
  · refine PC.region ?_
    refine PL.op rfl (Rd.loadBox rfl rfl rfl) ?_
    refine PL.op rfl (Rd.loadBox rfl rfl rfl) ?_
    refine PL.callM true [] (w_L_equalBuffer N r4.1 r6.1 r8 h_9) rfl Try.call19 rfl ⟨.aggL ⟨.own rfl (by first | decide | exact List.not_mem_nil) rfl rfl, .t _, trivial⟩, .aggL ⟨.own rfl (by first | decide | exact List.not_mem_nil) rfl rfl, .t _, trivial⟩, trivial⟩ rfl trivial (fun _ => ⟨trivial, flat_nil⟩) ?_
    refine PL.op rfl (Rd.unnot rfl) ?_
    refine PL.op rfl (Rd.moveT rfl) ?_
    refine PL.guard_on rfl (not_t h_10) ?_
    refine PL.op rfl (Rd.moveT rfl) ?_
    refine PL.guard_on rfl (not_t h_10) ?_
    refine PL.op rfl (Rd.moveT rfl) ?_
    refine PL.guard_on rfl (not_t h_10) ?_
    refine PL.op rfl (Rd.neqB rfl rfl) ?_
    refine PL.op rfl (Rd.pick_f rfl (not_t h_10)) ?_
    refine PL.op rfl (Rd.moveT rfl) ?_
    refine PL.guard_off rfl rfl (not_f h_11) ?_
    refine PL.guard_off rfl rfl (not_f h_11) ?_
    refine PL.op rfl (Rd.pick_t rfl (not_f h_11)) ?_
    refine PL.nil ?_
    refine thA_n ?_
    refine PC.cond_true rfl rfl ?_
    refine PC.seq ?_
    obtain ⟨r26, h_27, hh0⟩ := bind_some hh0
    rcases cond_some hh0 with ⟨h_28, hh0⟩ | ⟨h_28, hh0⟩
    rotate_left
    · refine PC.region ?_
      refine PL.op rfl (Rd.loadBox rfl rfl rfl) ?_
      refine PL.op rfl (Rd.loadBox rfl rfl rfl) ?_
      refine PL.callM true [] (w_L_equalBuffer N r4.1 r6.1 r26 h_27) rfl Try.call19 rfl ⟨.aggL ⟨.own rfl (by first | decide | exact List.not_mem_nil) rfl rfl, .t _, trivial⟩, .aggL ⟨.own rfl (by first | decide | exact List.not_mem_nil) rfl rfl, .t _, trivial⟩, trivial⟩ rfl trivial (fun _ => ⟨trivial, flat_nil⟩) ?_
      refine PL.op rfl (Rd.moveT rfl) ?_
      refine PL.guard_off rfl rfl h_28 ?_
      refine PL.guard_off rfl rfl h_28 ?_
      refine PL.guard_off rfl rfl h_28 ?_
      refine PL.op rfl (Rd.pick_f rfl h_28) ?_
      refine PL.op rfl (Rd.asnT rfl) ?_
      refine PL.nil ?_
      refine thA_n ?_
      refine PC.ret ?_
      refine thA_r ?_
      obtain rfl := some_in hh0
      exact FinA.mk (r := bA false) (bl := []) [] (.inl rfl) rfl (rl := [.tmp 2]) (.tmp .nil) rfl rfl rfl (.t _) trivial ⟨rfl, rfl⟩
    refine PC.region ?_
    refine PL.op rfl (Rd.loadBox rfl rfl rfl) ?_
    refine PL.op rfl (Rd.loadBox rfl rfl rfl) ?_
    refine PL.callM true [] (w_L_equalBuffer N r4.1 r6.1 r26 h_27) rfl Try.call19 rfl ⟨.aggL ⟨.own rfl (by first | decide | exact List.not_mem_nil) rfl rfl, .t _, trivial⟩, .aggL ⟨.own rfl (by first | decide | exact List.not_mem_nil) rfl rfl, .t _, trivial⟩, trivial⟩ rfl trivial (fun _ => ⟨trivial, flat_nil⟩) ?_
    refine PL.op rfl (Rd.moveT rfl) ?_
    refine PL.guard_on rfl h_28 ?_
    refine PL.op rfl (Rd.moveT rfl) ?_
    refine PL.guard_on rfl h_28 ?_
    refine PL.op rfl (Rd.moveT rfl) ?_
    refine PL.guard_on rfl h_28 ?_
    refine PL.op rfl (Rd.eqlB rfl rfl) ?_
    refine PL.op rfl (Rd.pick_t rfl h_28) ?_
    refine PL.op rfl (Rd.asnT rfl) ?_
    refine PL.nil ?_
    refine thA_n ?_
    refine PC.ret ?_
    refine thA_r ?_
    obtain rfl := some_in hh0
    exact FinA.mk (r := bA (r4.2 == r6.2)) (bl := []) [] (.inl rfl) rfl (rl := [.tmp 2]) (.tmp .nil) rfl rfl rfl (.t _) trivial ⟨rfl, rfl⟩
  refine PC.region ?_
  refine PL.op rfl (Rd.loadBox rfl rfl rfl) ?_
  refine PL.op rfl (Rd.loadBox rfl rfl rfl) ?_
  refine PL.callM true [] (w_L_equalBuffer N r4.1 r6.1 r8 h_9) rfl Try.call19 rfl ⟨.aggL ⟨.own rfl (by first | decide | exact List.not_mem_nil) rfl rfl, .t _, trivial⟩, .aggL ⟨.own rfl (by first | decide | exact List.not_mem_nil) rfl rfl, .t _, trivial⟩, trivial⟩ rfl trivial (fun _ => ⟨trivial, flat_nil⟩) ?_
  refine PL.op rfl (Rd.unnot rfl) ?_
  refine PL.op rfl (Rd.moveT rfl) ?_
  refine PL.guard_on rfl (not_t h_10) ?_
  refine PL.op rfl (Rd.moveT rfl) ?_
  refine PL.guard_on rfl (not_t h_10) ?_
  refine PL.op rfl (Rd.moveT rfl) ?_
  refine PL.guard_on rfl (not_t h_10) ?_
  refine PL.op rfl (Rd.neqB rfl rfl) ?_
  refine PL.op rfl (Rd.pick_f rfl (not_t h_10)) ?_
  refine PL.op rfl (Rd.moveT rfl) ?_
  refine PL.guard_on rfl (not_t h_11) ?_
  refine PL.op rfl (Rd.moveT rfl) ?_
  refine PL.guard_on rfl (not_t h_11) ?_
  refine PL.op rfl (Rd.unnot rfl) ?_
  refine PL.op rfl (Rd.pick_f rfl (not_t h_11)) ?_
  refine PL.nil ?_
  refine thA_n ?_
  rcases cond_some hh0 with ⟨h_12, hh0⟩ | ⟨h_12, hh0⟩
  rotate_left
  · refine PC.cond_true rfl (not_f h_12) ?_
    refine PC.seq ?_
    obtain ⟨r23, h_24, hh0⟩ := bind_some hh0
    rcases cond_some hh0 with ⟨h_25, hh0⟩ | ⟨h_25, hh0⟩
    rotate_left
    · refine PC.region ?_
      refine PL.op rfl (Rd.loadBox rfl rfl rfl) ?_
      refine PL.op rfl (Rd.loadBox rfl rfl rfl) ?_
      refine PL.callM true [] (w_L_equalBuffer N r4.1 r6.1 r23 h_24) rfl Try.call19 rfl ⟨.aggL ⟨.own rfl (by first | decide | exact List.not_mem_nil) rfl rfl, .t _, trivial⟩, .aggL ⟨.own rfl (by first | decide | exact List.not_mem_nil) rfl rfl, .t _, trivial⟩, trivial⟩ rfl trivial (fun _ => ⟨trivial, flat_nil⟩) ?_
      refine PL.op rfl (Rd.moveT rfl) ?_
      refine PL.guard_off rfl rfl h_25 ?_
      refine PL.guard_off rfl rfl h_25 ?_
      refine PL.guard_off rfl rfl h_25 ?_
      refine PL.op rfl (Rd.pick_f rfl h_25) ?_
      refine PL.op rfl (Rd.asnT rfl) ?_
      refine PL.nil ?_
      refine thA_n ?_
      refine PC.ret ?_
      refine thA_r ?_
      obtain rfl := some_in hh0
      exact FinA.mk (r := bA false) (bl := []) [] (.inl rfl) rfl (rl := [.tmp 2]) (.tmp .nil) rfl rfl rfl (.t _) trivial ⟨rfl, rfl⟩
    refine PC.region ?_
    refine PL.op rfl (Rd.loadBox rfl rfl rfl) ?_
    refine PL.op rfl (Rd.loadBox rfl rfl rfl) ?_
    refine PL.callM true [] (w_L_equalBuffer N r4.1 r6.1 r23 h_24) rfl Try.call19 rfl ⟨.aggL ⟨.own rfl (by first | decide | exact List.not_mem_nil) rfl rfl, .t _, trivial⟩, .aggL ⟨.own rfl (by first | decide | exact List.not_mem_nil) rfl rfl, .t _, trivial⟩, trivial⟩ rfl trivial (fun _ => ⟨trivial, flat_nil⟩) ?_
    refine PL.op rfl (Rd.moveT rfl) ?_
    refine PL.guard_on rfl h_25 ?_
    refine PL.op rfl (Rd.moveT rfl) ?_
    refine PL.guard_on rfl h_25 ?_
    refine PL.op rfl (Rd.moveT rfl) ?_
    refine PL.guard_on rfl h_25 ?_
    refine PL.op rfl (Rd.eqlB rfl rfl) ?_
    refine PL.op rfl (Rd.pick_t rfl h_25) ?_
    refine PL.op rfl (Rd.asnT rfl) ?_
    refine PL.nil ?_
    refine thA_n ?_
    refine PC.ret ?_
    refine thA_r ?_
    obtain rfl := some_in hh0
    exact FinA.mk (r := bA (r4.2 == r6.2)) (bl := []) [] (.inl rfl) rfl (rl := [.tmp 2]) (.tmp .nil) rfl rfl rfl (.t _) trivial ⟨rfl, rfl⟩
  refine PC.cond_false rfl (not_t h_12) ?_
  refine PC.skip ?_
  refine thA_n ?_
  refine PC.seq ?_
  obtain ⟨r13, h_14, hh0⟩ := bind_some hh0
  rcases cond_some hh0 with ⟨h_15, hh0⟩ | ⟨h_15, hh0⟩
  rotate_left
  · refine PC.any (id := 8) 20 (.seg [0, 1, 2, 3, 4, 6, 7, 8, 9, 5, 10, 11, 12, 13, 14, 16, 15, 17, 18, 19] .done) [] rfl (by kernel_rfl) rfl ?_
    refine PT.seg ?_
    refine PR.op rfl (Rd.loadBox rfl rfl rfl) ?_
    refine PR.callM true [] (w_I_ValidBuffer N r4.1 r13 h_14) rfl Try.call20 rfl ⟨.aggL ⟨.own rfl (by first | decide | exact List.not_mem_nil) rfl rfl, .t _, trivial⟩, trivial⟩ rfl trivial (fun _ => ⟨trivial, flat_nil⟩) rfl ?_
    refine PR.op rfl (Rd.moveT rfl) ?_
    refine PR.guard_off rfl rfl h_15 ?_
    refine PR.guard_off rfl rfl h_15 ?_
    refine PR.guard_off rfl rfl h_15 ?_
    refine PR.guard_off rfl rfl h_15 ?_
    refine PR.guard_off rfl rfl h_15 ?_
    refine PR.guard_off rfl rfl h_15 ?_
    refine PR.guard_off rfl rfl h_15 ?_
    refine PR.guard_off rfl rfl h_15 ?_
    refine PR.op rfl (Rd.pick_f rfl h_15) ?_
    refine PR.op rfl (Rd.moveT rfl) ?_
    refine PR.guard_off rfl rfl rfl ?_
    refine PR.guard_off rfl rfl rfl ?_
    refine PR.guard_off rfl rfl rfl ?_
    refine PR.guard_off rfl rfl rfl ?_
    refine PR.guard_off rfl rfl rfl ?_
    refine PR.op rfl (Rd.pick_f rfl rfl) ?_
    refine PR.op rfl (Rd.asnT rfl) ?_
    refine PR.nil ?_
    refine PT.done ?_
    refine PL.nil ?_
    refine thA_n ?_
    refine PC.ret ?_
    obtain rfl := some_in hh0
    exact FinA.mk (r := bA false) (bl := []) [] (.inl rfl) rfl (rl := [.tmp 2]) (.tmp .nil) rfl rfl rfl (.t _) trivial ⟨rfl, rfl⟩
  obtain ⟨r16, h_17, hh0⟩ := bind_some hh0
  rcases cond_some hh0 with ⟨h_18, hh0⟩ | ⟨h_18, hh0⟩
  rotate_left
  · refine PC.any (id := 8) 20 (.seg [0, 1, 2, 3, 4, 6, 7, 8, 9, 5, 10, 11, 12, 13, 14, 16, 15, 17, 18, 19] .done) [] rfl (by kernel_rfl) rfl ?_
    refine PT.seg ?_
    refine PR.op rfl (Rd.loadBox rfl rfl rfl) ?_
    refine PR.callM true [] (w_I_ValidBuffer N r4.1 r13 h_14) rfl Try.call20 rfl ⟨.aggL ⟨.own rfl (by first | decide | exact List.not_mem_nil) rfl rfl, .t _, trivial⟩, trivial⟩ rfl trivial (fun _ => ⟨trivial, flat_nil⟩) rfl ?_
    refine PR.op rfl (Rd.moveT rfl) ?_
    refine PR.guard_on rfl rfl h_15 ?_
    refine PR.op rfl (Rd.loadBox rfl rfl rfl) ?_
    refine PR.guard_on rfl rfl h_15 ?_
    refine PR.op rfl (Rd.moveT rfl) ?_
    refine PR.guard_on rfl rfl h_15 ?_
    refine PR.op rfl (Rd.moveT rfl) ?_
    refine PR.guard_on rfl rfl h_15 ?_
    refine PR.op rfl (Rd.fieldO rfl rfl) ?_
    refine PR.guard_on rfl rfl h_15 ?_
    refine PR.op rfl (Rd.loadO rfl rfl rfl) ?_
    refine PR.guard_on rfl rfl h_15 ?_
    refine PR.op rfl (Rd.leq rfl rfl) ?_
    refine PR.guard_on rfl rfl h_15 ?_
    refine PR.callM true [] (w_I_CanWrite N r4.1 r2.2.1 r16 h_17) rfl Try.call21 rfl ⟨.aggL ⟨.own rfl (by first | decide | exact List.not_mem_nil) rfl rfl, .t _, trivial⟩, .t _, trivial⟩ rfl trivial (fun _ => ⟨trivial, flat_nil⟩) rfl ?_
    refine PR.guard_on rfl rfl h_15 ?_
    refine PR.op rfl (Rd.eqlB rfl rfl) ?_
    refine PR.op rfl (Rd.pick_t rfl h_15) ?_
    refine PR.op rfl (Rd.moveT rfl) ?_
    refine PR.guard_off rfl rfl h_18 ?_
    refine PR.guard_off rfl rfl h_18 ?_
    refine PR.guard_off rfl rfl h_18 ?_
    refine PR.guard_off rfl rfl h_18 ?_
    refine PR.guard_off rfl rfl h_18 ?_
    refine PR.op rfl (Rd.pick_f rfl h_18) ?_
    refine PR.op rfl (Rd.asnT rfl) ?_
    refine PR.nil ?_
    refine PT.done ?_
    refine PL.nil ?_
    refine thA_n ?_
    refine PC.ret ?_
    obtain rfl := some_in hh0
    exact FinA.mk (r := bA false) (bl := []) [] (.inl rfl) rfl (rl := [.tmp 2]) (.tmp .nil) rfl rfl rfl (.t _) trivial ⟨rfl, rfl⟩
  obtain ⟨r19, h_20, hh0⟩ := bind_some hh0
  obtain ⟨r21, h_22, hh0⟩ := bind_some hh0
  refine PC.any (id := 8) 20 (.seg [0, 1, 2, 3, 4, 6, 7, 8, 9, 5, 10, 11, 12, 13, 14, 16, 15, 17, 18, 19] .done) [] rfl (by kernel_rfl) rfl ?_
  refine PT.seg ?_
  refine PR.op rfl (Rd.loadBox rfl rfl rfl) ?_
  refine PR.callM true [] (w_I_ValidBuffer N r4.1 r13 h_14) rfl Try.call20 rfl ⟨.aggL ⟨.own rfl (by first | decide | exact List.not_mem_nil) rfl rfl, .t _, trivial⟩, trivial⟩ rfl trivial (fun _ => ⟨trivial, flat_nil⟩) rfl ?_
  refine PR.op rfl (Rd.moveT rfl) ?_
  refine PR.guard_on rfl rfl h_15 ?_
  refine PR.op rfl (Rd.loadBox rfl rfl rfl) ?_
  refine PR.guard_on rfl rfl h_15 ?_
  refine PR.op rfl (Rd.moveT rfl) ?_
  refine PR.guard_on rfl rfl h_15 ?_
  refine PR.op rfl (Rd.moveT rfl) ?_
  refine PR.guard_on rfl rfl h_15 ?_
  refine PR.op rfl (Rd.fieldO rfl rfl) ?_
  refine PR.guard_on rfl rfl h_15 ?_
  refine PR.op rfl (Rd.loadO rfl rfl rfl) ?_
  refine PR.guard_on rfl rfl h_15 ?_
  refine PR.op rfl (Rd.leq rfl rfl) ?_
  refine PR.guard_on rfl rfl h_15 ?_
  refine PR.callM true [] (w_I_CanWrite N r4.1 r2.2.1 r16 h_17) rfl Try.call21 rfl ⟨.aggL ⟨.own rfl (by first | decide | exact List.not_mem_nil) rfl rfl, .t _, trivial⟩, .t _, trivial⟩ rfl trivial (fun _ => ⟨trivial, flat_nil⟩) rfl ?_
  refine PR.guard_on rfl rfl h_15 ?_
  refine PR.op rfl (Rd.eqlB rfl rfl) ?_
  refine PR.op rfl (Rd.pick_t rfl h_15) ?_
  refine PR.op rfl (Rd.moveT rfl) ?_
  refine PR.guard_on rfl rfl h_18 ?_
  refine PR.op rfl (Rd.loadBox rfl rfl rfl) ?_
  refine PR.guard_on rfl rfl h_18 ?_
  refine PR.op rfl (Rd.moveT rfl) ?_
  refine PR.guard_on rfl rfl h_18 ?_
  refine PR.op rfl (Rd.moveT rfl) ?_
  refine PR.guard_on rfl rfl h_18 ?_
  refine PR.callM true [] (w_I_ForceLog N r4.1 r2.2.2 r19 h_20) rfl Try.call14 rfl ⟨.aggL ⟨.own rfl (by first | decide | exact List.not_mem_nil) rfl rfl, .t _, trivial⟩, .t _, trivial⟩ rfl trivial (fun _ => ⟨⟨trivial, trivial, trivial⟩, (flat_cons flat_ow flat_nil)⟩) rfl ?_
  refine PR.nm (.agg [.os 6 0 r19.frames.length, iA r19.forced]) [some ⟨.tr (eL r2.1.frames), 59, 4⟩, some ⟨.mx [.os 0 0 r2.1.frames.length, iA r2.1.forced], 28, 0⟩, some ⟨.tr (eL r4.1.frames), 59, 4⟩, some ⟨.mx [.os 2 0 r4.1.frames.length, iA r4.1.forced], 28, 0⟩, some ⟨.tr (eL r6.1.frames), 59, 4⟩, some ⟨.mx [.os 4 0 r6.1.frames.length, iA r6.1.forced], 28, 0⟩, some ⟨.tr (eL r19.frames), 59, 4⟩] rfl rfl ?_
  refine PR.guard_on rfl rfl h_18 ?_
  refine PR.callM true [] (w_I_CanWrite N r19 r2.2.1 r21 h_22) rfl Try.call21 rfl ⟨.aggL ⟨.own rfl (by first | decide | exact List.not_mem_nil) rfl rfl, .t _, trivial⟩, .t _, trivial⟩ rfl trivial (fun _ => ⟨trivial, flat_nil⟩) rfl ?_
  refine PR.op rfl (Rd.pick_t rfl h_18) ?_
  refine PR.op rfl (Rd.asnT rfl) ?_
  refine PR.nil ?_
  refine PT.done ?_
  refine PL.nil ?_
  refine thA_n ?_
  refine PC.ret ?_
  obtain rfl := some_in hh0
  exact FinA.mk (r := bA r21) (bl := []) [] (.inl rfl) rfl (rl := [.tmp 2]) (.tmp .nil) rfl rfl rfl (.t _) trivial ⟨rfl, rfl⟩

end V
end Go.Proofs.Ytifcacahgiihoaa
