/- Buffers: the exact laws' functions. No condition. -/
import Derived.Test.YtifcacahgiihoaaPlBufX
import Derived.Test.YtifcacahgiihoaaGBufT
namespace Go.Proofs.Ytifcacahgiihoaa
namespace V
open Enc (enc)
set_option linter.unusedVariables false
set_option linter.unusedSimpArgs false
set_option maxHeartbeats 4000000
set_option maxRecDepth 100000
open Go.RowKit
attribute [local irreducible] thA inA FinA eL

def m_L_FnExactForceLog (N : Nat) (p_aB : L_Buffer) (p_aLsn : Int) : Option (Bool) :=
  (m_L_szBuffer N p_aB (1048576 : Int)).bind fun r1 =>
  cond (decide (r1 < (0 : Int)))
    (some true)
    ((m_L_toBuffer N p_aB).bind fun r4 =>
    (m_S_ForceLog N r4 p_aLsn).bind fun r6 =>
    (m_L_toBuffer N p_aB).bind fun r8 =>
    (m_I_ForceLog N r8 p_aLsn).bind fun r10 =>
    (m_L_eqBuffer N r10 r6).bind fun r12 =>
    cond r12
      ((m_L_toBuffer N p_aB).bind fun r15 =>
      (m_L_eqBuffer N r8 r15).bind fun r17 =>
      cond r17
        ((m_L_markBuffer N r8 (1 : Int)).bind fun r20 =>
        cond (decide (r20.1 < (0 : Int)))
          (some false)
          ((m_L_eqBuffer N r10 r6).bind fun r23 =>
          cond r23
            ((m_L_markBuffer N r10 (1 : Int)).bind fun r26 =>
            (m_L_heldBuffer N (I_Buffer.mk r26.2 r10.forced) (1 : Int)).bind fun r28 =>
            cond (decide (r28 < (0 : Int)))
              (some false)
              (cond (decide (r28 = r26.1))
                ((m_L_toBuffer N p_aB).bind fun r32 =>
                (m_I_ForceLog N r32 p_aLsn).bind fun r34 =>
                (m_L_eqBuffer N r34 r6).bind fun r36 =>
                cond r36
                  ((m_L_heldBuffer N (I_Buffer.mk r26.2 r10.forced) (1 : Int)).bind fun r39 =>
                  cond (decide (r39 < (0 : Int)))
                    (some false)
                    (cond (decide (r39 = r26.1))
                      (some true)
                      (some false)))
                  (some false))
                (some false)))
            (some false)))
        (some false))
      (some false))
theorem w_L_FnExactForceLog (N : Nat) (p_aB : L_Buffer) (p_aLsn : Int) (r : Bool) (hh0 : m_L_FnExactForceLog N p_aB p_aLsn = some r) : FnX Try.prog 3 [] [.agg [sL p_aB.frames, iA p_aB.forced], iA p_aLsn] (RE (bA r) []) := by
  unfold m_L_FnExactForceLog at hh0
  refine FnX.mk Try.func3 rfl rfl ?_
  intro s hs
  refine PC.seq ?_
  refine PC.region ?_
  refine PL.ef rfl (Ef.box rfl rfl rfl) ?_
  refine PL.nm (.op 0 0) [some ⟨.mx [sL p_aB.frames, iA p_aB.forced], 24, 0⟩] rfl rfl ?_
  refine PL.op rfl (Rd.asnT rfl) ?_
  refine PL.nil ?_
  refine thA_n ?_
  refine PC.seq ?_
  refine PC.region ?_
  refine PL.op rfl (Rd.asnT rfl) ?_
  refine PL.nil ?_
  refine thA_n ?_
  refine PC.seq ?_
  obtain ⟨r1, h_2, hh0⟩ := bind_some hh0
  refine PC.region ?_
  refine PL.op rfl (Rd.loadBox rfl rfl rfl) ?_
  refine PL.op rfl (Rd.moveT rfl) ?_
  refine PL.callM false [] (w_L_szBuffer N p_aB (1048576 : Int) r1 h_2) rfl Try.call11 rfl ⟨.aggL ⟨.t _, .t _, trivial⟩, .t _, trivial⟩ rfl trivial (fun h => by cases h) ?_
  refine PL.op rfl (Rd.asnT rfl) ?_
  refine PL.nil ?_
  refine thA_n ?_
  refine PC.seq ?_
  refine PC.seq ?_
  refine PC.region ?_
  refine PL.op rfl (Rd.moveT rfl) ?_
  refine PL.op rfl (Rd.lss rfl rfl) ?_
  refine PL.nil ?_
  refine thA_n ?_
  rcases cond_some hh0 with ⟨h_3, hh0⟩ | ⟨h_3, hh0⟩
  · refine PC.cond_true rfl h_3 ?_
    refine PC.seq ?_
    refine PC.region ?_
    refine PL.op rfl (Rd.asnT rfl) ?_
    refine PL.nil ?_
    refine thA_n ?_
    refine PC.ret ?_
    refine thA_r ?_
    obtain rfl := some_in hh0
    exact FinA.mk (r := bA true) (bl := []) [] (.inl rfl) rfl (rl := [.tmp 4]) (.tmp .nil) rfl rfl rfl (.t _) trivial ⟨rfl, rfl⟩
  refine PC.cond_false rfl h_3 ?_
  refine PC.skip ?_
  refine thA_n ?_
  refine PC.seq ?_
  obtain ⟨r4, h_5, hh0⟩ := bind_some hh0
  obtain ⟨r6, h_7, hh0⟩ := bind_some hh0
  refine PC.region ?_
  refine PL.op rfl (Rd.loadBox rfl rfl rfl) ?_
  refine PL.callM false [] (w_L_toBuffer N p_aB r4 h_5) rfl Try.call13 rfl ⟨.aggL ⟨.t _, .t _, trivial⟩, trivial⟩ rfl trivial (fun h => by cases h) ?_
  refine PL.nm (.agg [.os 1 0 r4.frames.length, iA r4.forced]) [some ⟨.mx [sL p_aB.frames, iA p_aB.forced], 24, 0⟩, some ⟨.tr (eL r4.frames), 59, 4⟩] rfl rfl ?_
  refine PL.op rfl (Rd.moveT rfl) ?_
  refine PL.callM true [] (w_S_ForceLog N r4 p_aLsn r6 h_7) rfl Try.call12 rfl ⟨.aggL ⟨.own rfl (by first | decide | exact List.not_mem_nil) rfl rfl, .t _, trivial⟩, .t _, trivial⟩ rfl trivial (fun _ => ⟨⟨trivial, trivial, trivial⟩, (flat_cons flat_ow flat_nil)⟩) ?_
  refine PL.nm (.agg [.os 2 0 r6.frames.length, iA r6.forced]) [some ⟨.mx [sL p_aB.frames, iA p_aB.forced], 24, 0⟩, some ⟨.tr (eL r4.frames), 59, 4⟩, some ⟨.tr (eL r6.frames), 59, 4⟩] rfl rfl ?_
  refine PL.ef rfl (Ef.alloc rfl rfl) ?_
  refine PL.nm (.op 3 0) [some ⟨.mx [sL p_aB.frames, iA p_aB.forced], 24, 0⟩, some ⟨.tr (eL r4.frames), 59, 4⟩, some ⟨.tr (eL r6.frames), 59, 4⟩, some ⟨.mx [.t (.v (.slice none 0 0)), iA (0 : Int)], 28, 0⟩] rfl rfl ?_
  refine PL.store rfl rfl rfl rfl rfl rfl rfl ?_
  refine PL.nO [some ⟨.mx [sL p_aB.frames, iA p_aB.forced], 24, 0⟩, some ⟨.tr (eL r4.frames), 59, 4⟩, some ⟨.tr (eL r6.frames), 59, 4⟩, some ⟨.mx [.os 2 0 r6.frames.length, iA r6.forced], 28, 0⟩] rfl ?_
  refine PL.nil ?_
  refine thA_n ?_
  refine PC.seq ?_
  obtain ⟨r8, h_9, hh0⟩ := bind_some hh0
  refine PC.region ?_
  refine PL.op rfl (Rd.loadBox rfl rfl rfl) ?_
  refine PL.callM false [] (w_L_toBuffer N p_aB r8 h_9) rfl Try.call13 rfl ⟨.aggL ⟨.t _, .t _, trivial⟩, trivial⟩ rfl trivial (fun h => by cases h) ?_
  refine PL.nm (.agg [.os 4 0 r8.frames.length, iA r8.forced]) [some ⟨.mx [sL p_aB.frames, iA p_aB.forced], 24, 0⟩, some ⟨.tr (eL r4.frames), 59, 4⟩, some ⟨.tr (eL r6.frames), 59, 4⟩, some ⟨.mx [.os 2 0 r6.frames.length, iA r6.forced], 28, 0⟩, some ⟨.tr (eL r8.frames), 59, 4⟩] rfl rfl ?_
  refine PL.ef rfl (Ef.alloc rfl rfl) ?_
  refine PL.nm (.op 5 0) [some ⟨.mx [sL p_aB.frames, iA p_aB.forced], 24, 0⟩, some ⟨.tr (eL r4.frames), 59, 4⟩, some ⟨.tr (eL r6.frames), 59, 4⟩, some ⟨.mx [.os 2 0 r6.frames.length, iA r6.forced], 28, 0⟩, some ⟨.tr (eL r8.frames), 59, 4⟩, some ⟨.mx [.t (.v (.slice none 0 0)), iA (0 : Int)], 28, 0⟩] rfl rfl ?_
  refine PL.store rfl rfl rfl rfl rfl rfl rfl ?_
  refine PL.nO [some ⟨.mx [sL p_aB.frames, iA p_aB.forced], 24, 0⟩, some ⟨.tr (eL r4.frames), 59, 4⟩, some ⟨.tr (eL r6.frames), 59, 4⟩, some ⟨.mx [.os 2 0 r6.frames.length, iA r6.forced], 28, 0⟩, some ⟨.tr (eL r8.frames), 59, 4⟩, some ⟨.mx [.os 4 0 r8.frames.length, iA r8.forced], 28, 0⟩] rfl ?_
  refine PL.nil ?_
  refine thA_n ?_
  refine PC.seq ?_
  obtain ⟨r10, h_11, hh0⟩ := bind_some hh0
  refine PC.region ?_
  refine PL.op rfl (Rd.loadBox rfl rfl rfl) ?_
  refine PL.op rfl (Rd.moveT rfl) ?_
  refine PL.callM true [] (w_I_ForceLog N r8 p_aLsn r10 h_11) rfl Try.call14 rfl ⟨.aggL ⟨.own rfl (by first | decide | exact List.not_mem_nil) rfl rfl, .t _, trivial⟩, .t _, trivial⟩ rfl trivial (fun _ => ⟨⟨trivial, trivial, trivial⟩, (flat_cons flat_ow flat_nil)⟩) ?_
  refine PL.nm (.agg [.os 6 0 r10.frames.length, iA r10.forced]) [some ⟨.mx [sL p_aB.frames, iA p_aB.forced], 24, 0⟩, some ⟨.tr (eL r4.frames), 59, 4⟩, some ⟨.tr (eL r6.frames), 59, 4⟩, some ⟨.mx [.os 2 0 r6.frames.length, iA r6.forced], 28, 0⟩, some ⟨.tr (eL r8.frames), 59, 4⟩, some ⟨.mx [.os 4 0 r8.frames.length, iA r8.forced], 28, 0⟩, some ⟨.tr (eL r10.frames), 59, 4⟩] rfl rfl ?_
  refine PL.ef rfl (Ef.alloc rfl rfl) ?_
  refine PL.nm (.op 7 0) [some ⟨.mx [sL p_aB.frames, iA p_aB.forced], 24, 0⟩, some ⟨.tr (eL r4.frames), 59, 4⟩, some ⟨.tr (eL r6.frames), 59, 4⟩, some ⟨.mx [.os 2 0 r6.frames.length, iA r6.forced], 28, 0⟩, some ⟨.tr (eL r8.frames), 59, 4⟩, some ⟨.mx [.os 4 0 r8.frames.length, iA r8.forced], 28, 0⟩, some ⟨.tr (eL r10.frames), 59, 4⟩, some ⟨.mx [.t (.v (.slice none 0 0)), iA (0 : Int)], 28, 0⟩] rfl rfl ?_
  refine PL.store rfl rfl rfl rfl rfl rfl rfl ?_
  refine PL.nO [some ⟨.mx [sL p_aB.frames, iA p_aB.forced], 24, 0⟩, some ⟨.tr (eL r4.frames), 59, 4⟩, some ⟨.tr (eL r6.frames), 59, 4⟩, some ⟨.mx [.os 2 0 r6.frames.length, iA r6.forced], 28, 0⟩, some ⟨.tr (eL r8.frames), 59, 4⟩, some ⟨.mx [.os 4 0 r8.frames.length, iA r8.forced], 28, 0⟩, some ⟨.tr (eL r10.frames), 59, 4⟩, some ⟨.mx [.os 6 0 r10.frames.length, iA r10.forced], 28, 0⟩] rfl ?_
  refine PL.nil ?_
  refine thA_n ?_
  refine PC.seq ?_
  refine PC.seq ?_
  obtain ⟨r12, h_13, hh0⟩ := bind_some hh0
  refine PC.region ?_
  refine PL.op rfl (Rd.loadBox rfl rfl rfl) ?_
  refine PL.op rfl (Rd.loadBox rfl rfl rfl) ?_
  refine PL.callM true [] (w_L_eqBuffer N r10 r6 r12 h_13) rfl Try.call15 rfl ⟨.aggL ⟨.own rfl (by first | decide | exact List.not_mem_nil) rfl rfl, .t _, trivial⟩, .aggL ⟨.own rfl (by first | decide | exact List.not_mem_nil) rfl rfl, .t _, trivial⟩, trivial⟩ rfl trivial (fun _ => ⟨trivial, flat_nil⟩) ?_
  refine PL.op rfl (Rd.unnot rfl) ?_
  refine PL.nil ?_
  refine thA_n ?_
  rcases cond_some hh0 with ⟨h_14, hh0⟩ | ⟨h_14, hh0⟩
  rotate_left
  · refine PC.cond_true rfl (not_f h_14) ?_
    refine PC.seq ?_
    refine PC.region ?_
    refine PL.op rfl (Rd.asnT rfl) ?_
    refine PL.nil ?_
    refine thA_n ?_
    refine PC.ret ?_
    refine thA_r ?_
    obtain rfl := some_in hh0
    exact FinA.mk (r := bA false) (bl := []) [] (.inl rfl) rfl (rl := [.tmp 4]) (.tmp .nil) rfl rfl rfl (.t _) trivial ⟨rfl, rfl⟩
  refine PC.cond_false rfl (not_t h_14) ?_
  refine PC.skip ?_
  refine thA_n ?_
  refine PC.seq ?_
  refine PC.seq ?_
  obtain ⟨r15, h_16, hh0⟩ := bind_some hh0
  obtain ⟨r17, h_18, hh0⟩ := bind_some hh0
  refine PC.any (id := 10) 5 (.seg [0, 1, 2, 3, 4] .done) [] rfl (by kernel_rfl) rfl ?_
  refine PT.seg ?_
  refine PR.op rfl (Rd.loadBox rfl rfl rfl) ?_
  refine PR.op rfl (Rd.loadBox rfl rfl rfl) ?_
  refine PR.callM false [] (w_L_toBuffer N p_aB r15 h_16) rfl Try.call13 rfl ⟨.aggL ⟨.t _, .t _, trivial⟩, trivial⟩ rfl trivial (fun h => by cases h) rfl ?_
  refine PR.nm (.agg [.os 8 0 r15.frames.length, iA r15.forced]) [some ⟨.mx [sL p_aB.frames, iA p_aB.forced], 24, 0⟩, some ⟨.tr (eL r4.frames), 59, 4⟩, some ⟨.tr (eL r6.frames), 59, 4⟩, some ⟨.mx [.os 2 0 r6.frames.length, iA r6.forced], 28, 0⟩, some ⟨.tr (eL r8.frames), 59, 4⟩, some ⟨.mx [.os 4 0 r8.frames.length, iA r8.forced], 28, 0⟩, some ⟨.tr (eL r10.frames), 59, 4⟩, some ⟨.mx [.os 6 0 r10.frames.length, iA r10.forced], 28, 0⟩, some ⟨.tr (eL r15.frames), 59, 4⟩] rfl rfl ?_
  refine PR.callM true [] (w_L_eqBuffer N r8 r15 r17 h_18) rfl Try.call15 rfl ⟨.aggL ⟨.own rfl (by first | decide | exact List.not_mem_nil) rfl rfl, .t _, trivial⟩, .aggL ⟨.own rfl (by first | decide | exact List.not_mem_nil) rfl rfl, .t _, trivial⟩, trivial⟩ rfl trivial (fun _ => ⟨trivial, flat_nil⟩) rfl ?_
  refine PR.op rfl (Rd.unnot rfl) ?_
  refine PR.nil ?_
  refine PT.done ?_
  refine PL.nil ?_
  refine thA_n ?_
  rcases cond_some hh0 with ⟨h_19, hh0⟩ | ⟨h_19, hh0⟩
  rotate_left
  · refine PC.cond_true rfl (not_f h_19) ?_
    refine PC.seq ?_
    refine PC.region ?_
    refine PL.op rfl (Rd.asnT rfl) ?_
    refine PL.nil ?_
    refine thA_n ?_
    refine PC.ret ?_
    refine thA_r ?_
    obtain rfl := some_in hh0
    exact FinA.mk (r := bA false) (bl := []) [] (.inl rfl) rfl (rl := [.tmp 4]) (.tmp .nil) rfl rfl rfl (.t _) trivial ⟨rfl, rfl⟩
  refine PC.cond_false rfl (not_t h_19) ?_
  refine PC.skip ?_
  refine thA_n ?_
  refine PC.seq ?_
  refine PC.region ?_
  refine PL.op rfl (Rd.asnT rfl) ?_
  refine PL.nil ?_
  refine thA_n ?_
  refine PC.seq ?_
  obtain ⟨r20, h_21, hh0⟩ := bind_some hh0
  refine PC.region ?_
  refine PL.op rfl (Rd.loadBox rfl rfl rfl) ?_
  refine PL.op rfl (Rd.moveT rfl) ?_
  refine PL.callM false [4] (w_L_markBuffer N r8 (1 : Int) r20 h_21) rfl Try.call16 rfl ⟨.aggL ⟨.os rfl, .t _, trivial⟩, .t _, trivial⟩ rfl ⟨⟨_, rfl, rfl, rfl, .tr _⟩, trivial⟩ (fun h => by cases h) ?_
  refine PL.nm (iA r20.1) [some ⟨.mx [sL p_aB.frames, iA p_aB.forced], 24, 0⟩, some ⟨.tr (eL r4.frames), 59, 4⟩, some ⟨.tr (eL r6.frames), 59, 4⟩, some ⟨.mx [.os 2 0 r6.frames.length, iA r6.forced], 28, 0⟩, some ⟨.tr (eL r20.2), 59, 4⟩, some ⟨.mx [.os 4 0 r8.frames.length, iA r8.forced], 28, 0⟩, some ⟨.tr (eL r10.frames), 59, 4⟩, some ⟨.mx [.os 6 0 r10.frames.length, iA r10.forced], 28, 0⟩, some ⟨.tr (eL r15.frames), 59, 4⟩] rfl rfl ?_
  refine PL.op rfl (Rd.asnT rfl) ?_
  refine PL.nil ?_
  refine thA_n ?_
  refine PC.seq ?_
  refine PC.seq ?_
  rcases cond_some hh0 with ⟨h_22, hh0⟩ | ⟨h_22, hh0⟩
  · refine PC.region ?_
    refine PL.op rfl (Rd.moveT rfl) ?_
    refine PL.op rfl (Rd.lss rfl rfl) ?_
    refine PL.op rfl (Rd.moveT rfl) ?_
    refine PL.guard_off rfl rfl h_22 ?_
    refine PL.guard_off rfl rfl h_22 ?_
    refine PL.guard_off rfl rfl h_22 ?_
    refine PL.guard_off rfl rfl h_22 ?_
    refine PL.op rfl (Rd.pick_t rfl h_22) ?_
    refine PL.nil ?_
    refine thA_n ?_
    refine PC.cond_true rfl rfl ?_
    refine PC.seq ?_
    refine PC.region ?_
    refine PL.op rfl (Rd.asnT rfl) ?_
    refine PL.nil ?_
    refine thA_n ?_
    refine PC.ret ?_
    refine thA_r ?_
    obtain rfl := some_in hh0
    exact FinA.mk (r := bA false) (bl := []) [] (.inl rfl) rfl (rl := [.tmp 4]) (.tmp .nil) rfl rfl rfl (.t _) trivial ⟨rfl, rfl⟩
  obtain ⟨r23, h_24, hh0⟩ := bind_some hh0
  refine PC.region ?_
  refine PL.op rfl (Rd.moveT rfl) ?_
  refine PL.op rfl (Rd.lss rfl rfl) ?_
  refine PL.op rfl (Rd.moveT rfl) ?_
  refine PL.guard_on rfl h_22 ?_
  refine PL.op rfl (Rd.loadBox rfl rfl rfl) ?_
  refine PL.guard_on rfl h_22 ?_
  refine PL.op rfl (Rd.loadBox rfl rfl rfl) ?_
  refine PL.guard_on rfl h_22 ?_
  refine PL.callM true [] (w_L_eqBuffer N r10 r6 r23 h_24) rfl Try.call15 rfl ⟨.aggL ⟨.own rfl (by first | decide | exact List.not_mem_nil) rfl rfl, .t _, trivial⟩, .aggL ⟨.own rfl (by first | decide | exact List.not_mem_nil) rfl rfl, .t _, trivial⟩, trivial⟩ rfl trivial (fun _ => ⟨trivial, flat_nil⟩) ?_
  refine PL.guard_on rfl h_22 ?_
  refine PL.op rfl (Rd.unnot rfl) ?_
  refine PL.op rfl (Rd.pick_f rfl h_22) ?_
  refine PL.nil ?_
  refine thA_n ?_
  rcases cond_some hh0 with ⟨h_25, hh0⟩ | ⟨h_25, hh0⟩
  rotate_left
  · refine PC.cond_true rfl (not_f h_25) ?_
    refine PC.seq ?_
    refine PC.region ?_
    refine PL.op rfl (Rd.asnT rfl) ?_
    refine PL.nil ?_
    refine thA_n ?_
    refine PC.ret ?_
    refine thA_r ?_
    obtain rfl := some_in hh0
    exact FinA.mk (r := bA false) (bl := []) [] (.inl rfl) rfl (rl := [.tmp 4]) (.tmp .nil) rfl rfl rfl (.t _) trivial ⟨rfl, rfl⟩
  refine PC.cond_false rfl (not_t h_25) ?_
  refine PC.skip ?_
  refine thA_n ?_
  refine PC.seq ?_
  refine PC.region ?_
  refine PL.op rfl (Rd.asnT rfl) ?_
  refine PL.nil ?_
  refine thA_n ?_
  refine PC.seq ?_
  obtain ⟨r26, h_27, hh0⟩ := bind_some hh0
  refine PC.region ?_
  refine PL.op rfl (Rd.loadBox rfl rfl rfl) ?_
  refine PL.op rfl (Rd.moveT rfl) ?_
  refine PL.callM false [6] (w_L_markBuffer N r10 (1 : Int) r26 h_27) rfl Try.call16 rfl ⟨.aggL ⟨.os rfl, .t _, trivial⟩, .t _, trivial⟩ rfl ⟨⟨_, rfl, rfl, rfl, .tr _⟩, trivial⟩ (fun h => by cases h) ?_
  refine PL.nm (iA r26.1) [some ⟨.mx [sL p_aB.frames, iA p_aB.forced], 24, 0⟩, some ⟨.tr (eL r4.frames), 59, 4⟩, some ⟨.tr (eL r6.frames), 59, 4⟩, some ⟨.mx [.os 2 0 r6.frames.length, iA r6.forced], 28, 0⟩, some ⟨.tr (eL r20.2), 59, 4⟩, some ⟨.mx [.os 4 0 r8.frames.length, iA r8.forced], 28, 0⟩, some ⟨.tr (eL r26.2), 59, 4⟩, some ⟨.mx [.os 6 0 r10.frames.length, iA r10.forced], 28, 0⟩, some ⟨.tr (eL r15.frames), 59, 4⟩] rfl rfl ?_
  refine PL.op rfl (Rd.asnT rfl) ?_
  refine PL.nil ?_
  refine thA_n ?_
  refine PC.seq ?_
  refine PC.region ?_
  refine PL.op rfl (Rd.asnT rfl) ?_
  refine PL.nil ?_
  refine thA_n ?_
  refine PC.seq ?_
  obtain ⟨r28, h_29, hh0⟩ := bind_some hh0
  refine PC.region ?_
  refine PL.op rfl (Rd.loadBox rfl rfl rfl) ?_
  refine PL.op rfl (Rd.moveT rfl) ?_
  refine PL.callM true [] (w_L_heldBuffer N (I_Buffer.mk r26.2 r10.forced) (1 : Int) r28 h_29) rfl Try.call17 rfl ⟨.aggL ⟨.own rfl (by first | decide | exact List.not_mem_nil) (by simp only [List.length_set, len_L_markBuffer N _ _ _ h_27]) rfl, .t _, trivial⟩, .t _, trivial⟩ rfl trivial (fun _ => ⟨trivial, flat_nil⟩) ?_
  refine PL.op rfl (Rd.asnT rfl) ?_
  refine PL.nil ?_
  refine thA_n ?_
  refine PC.seq ?_
  refine PC.seq ?_
  refine PC.region ?_
  refine PL.op rfl (Rd.moveT rfl) ?_
  refine PL.op rfl (Rd.lss rfl rfl) ?_
  refine PL.nil ?_
  refine thA_n ?_
  rcases cond_some hh0 with ⟨h_30, hh0⟩ | ⟨h_30, hh0⟩
  · refine PC.cond_true rfl h_30 ?_
    refine PC.seq ?_
    refine PC.region ?_
    refine PL.op rfl (Rd.asnT rfl) ?_
    refine PL.nil ?_
    refine thA_n ?_
    refine PC.ret ?_
    refine thA_r ?_
    obtain rfl := some_in hh0
    exact FinA.mk (r := bA false) (bl := []) [] (.inl rfl) rfl (rl := [.tmp 4]) (.tmp .nil) rfl rfl rfl (.t _) trivial ⟨rfl, rfl⟩
  refine PC.cond_false rfl h_30 ?_
  refine PC.skip ?_
  refine thA_n ?_
  refine PC.seq ?_
  refine PC.seq ?_
  refine PC.region ?_
  refine PL.op rfl (Rd.moveT rfl) ?_
  refine PL.op rfl (Rd.moveT rfl) ?_
  refine PL.op rfl (Rd.neq rfl rfl) ?_
  refine PL.nil ?_
  refine thA_n ?_
  rcases cond_some hh0 with ⟨h_31, hh0⟩ | ⟨h_31, hh0⟩
  rotate_left
  · refine PC.cond_true rfl (not_f h_31) ?_
    refine PC.seq ?_
    refine PC.region ?_
    refine PL.op rfl (Rd.asnT rfl) ?_
    refine PL.nil ?_
    refine thA_n ?_
    refine PC.ret ?_
    refine thA_r ?_
    obtain rfl := some_in hh0
    exact FinA.mk (r := bA false) (bl := []) [] (.inl rfl) rfl (rl := [.tmp 4]) (.tmp .nil) rfl rfl rfl (.t _) trivial ⟨rfl, rfl⟩
  refine PC.cond_false rfl (not_t h_31) ?_
  refine PC.skip ?_
  refine thA_n ?_
  refine PC.seq ?_
  obtain ⟨r32, h_33, hh0⟩ := bind_some hh0
  obtain ⟨r34, h_35, hh0⟩ := bind_some hh0
  refine PC.region ?_
  refine PL.op rfl (Rd.loadBox rfl rfl rfl) ?_
  refine PL.callM false [] (w_L_toBuffer N p_aB r32 h_33) rfl Try.call13 rfl ⟨.aggL ⟨.t _, .t _, trivial⟩, trivial⟩ rfl trivial (fun h => by cases h) ?_
  refine PL.nm (.agg [.os 9 0 r32.frames.length, iA r32.forced]) [some ⟨.mx [sL p_aB.frames, iA p_aB.forced], 24, 0⟩, some ⟨.tr (eL r4.frames), 59, 4⟩, some ⟨.tr (eL r6.frames), 59, 4⟩, some ⟨.mx [.os 2 0 r6.frames.length, iA r6.forced], 28, 0⟩, some ⟨.tr (eL r20.2), 59, 4⟩, some ⟨.mx [.os 4 0 r8.frames.length, iA r8.forced], 28, 0⟩, some ⟨.tr (eL r26.2), 59, 4⟩, some ⟨.mx [.os 6 0 r10.frames.length, iA r10.forced], 28, 0⟩, some ⟨.tr (eL r15.frames), 59, 4⟩, some ⟨.tr (eL r32.frames), 59, 4⟩] rfl rfl ?_
  refine PL.op rfl (Rd.moveT rfl) ?_
  refine PL.callM true [] (w_I_ForceLog N r32 p_aLsn r34 h_35) rfl Try.call14 rfl ⟨.aggL ⟨.own rfl (by first | decide | exact List.not_mem_nil) rfl rfl, .t _, trivial⟩, .t _, trivial⟩ rfl trivial (fun _ => ⟨⟨trivial, trivial, trivial⟩, (flat_cons flat_ow flat_nil)⟩) ?_
  refine PL.nm (.agg [.os 10 0 r34.frames.length, iA r34.forced]) [some ⟨.mx [sL p_aB.frames, iA p_aB.forced], 24, 0⟩, some ⟨.tr (eL r4.frames), 59, 4⟩, some ⟨.tr (eL r6.frames), 59, 4⟩, some ⟨.mx [.os 2 0 r6.frames.length, iA r6.forced], 28, 0⟩, some ⟨.tr (eL r20.2), 59, 4⟩, some ⟨.mx [.os 4 0 r8.frames.length, iA r8.forced], 28, 0⟩, some ⟨.tr (eL r26.2), 59, 4⟩, some ⟨.mx [.os 6 0 r10.frames.length, iA r10.forced], 28, 0⟩, some ⟨.tr (eL r15.frames), 59, 4⟩, some ⟨.tr (eL r32.frames), 59, 4⟩, some ⟨.tr (eL r34.frames), 59, 4⟩] rfl rfl ?_
  refine PL.ef rfl (Ef.alloc rfl rfl) ?_
  refine PL.nm (.op 11 0) [some ⟨.mx [sL p_aB.frames, iA p_aB.forced], 24, 0⟩, some ⟨.tr (eL r4.frames), 59, 4⟩, some ⟨.tr (eL r6.frames), 59, 4⟩, some ⟨.mx [.os 2 0 r6.frames.length, iA r6.forced], 28, 0⟩, some ⟨.tr (eL r20.2), 59, 4⟩, some ⟨.mx [.os 4 0 r8.frames.length, iA r8.forced], 28, 0⟩, some ⟨.tr (eL r26.2), 59, 4⟩, some ⟨.mx [.os 6 0 r10.frames.length, iA r10.forced], 28, 0⟩, some ⟨.tr (eL r15.frames), 59, 4⟩, some ⟨.tr (eL r32.frames), 59, 4⟩, some ⟨.tr (eL r34.frames), 59, 4⟩, some ⟨.mx [.t (.v (.slice none 0 0)), iA (0 : Int)], 28, 0⟩] rfl rfl ?_
  refine PL.store rfl rfl rfl rfl rfl rfl rfl ?_
  refine PL.nO [some ⟨.mx [sL p_aB.frames, iA p_aB.forced], 24, 0⟩, some ⟨.tr (eL r4.frames), 59, 4⟩, some ⟨.tr (eL r6.frames), 59, 4⟩, some ⟨.mx [.os 2 0 r6.frames.length, iA r6.forced], 28, 0⟩, some ⟨.tr (eL r20.2), 59, 4⟩, some ⟨.mx [.os 4 0 r8.frames.length, iA r8.forced], 28, 0⟩, some ⟨.tr (eL r26.2), 59, 4⟩, some ⟨.mx [.os 6 0 r10.frames.length, iA r10.forced], 28, 0⟩, some ⟨.tr (eL r15.frames), 59, 4⟩, some ⟨.tr (eL r32.frames), 59, 4⟩, some ⟨.tr (eL r34.frames), 59, 4⟩, some ⟨.mx [.os 10 0 r34.frames.length, iA r34.forced], 28, 0⟩] rfl ?_
  refine PL.nil ?_
  refine thA_n ?_
  refine PC.seq ?_
  refine PC.seq ?_
  obtain ⟨r36, h_37, hh0⟩ := bind_some hh0
  refine PC.region ?_
  refine PL.op rfl (Rd.loadBox rfl rfl rfl) ?_
  refine PL.op rfl (Rd.loadBox rfl rfl rfl) ?_
  refine PL.callM true [] (w_L_eqBuffer N r34 r6 r36 h_37) rfl Try.call15 rfl ⟨.aggL ⟨.own rfl (by first | decide | exact List.not_mem_nil) rfl rfl, .t _, trivial⟩, .aggL ⟨.own rfl (by first | decide | exact List.not_mem_nil) rfl rfl, .t _, trivial⟩, trivial⟩ rfl trivial (fun _ => ⟨trivial, flat_nil⟩) ?_
  refine PL.op rfl (Rd.unnot rfl) ?_
  refine PL.nil ?_
  refine thA_n ?_
  rcases cond_some hh0 with ⟨h_38, hh0⟩ | ⟨h_38, hh0⟩
  rotate_left
  · refine PC.cond_true rfl (not_f h_38) ?_
    refine PC.seq ?_
    refine PC.region ?_
    refine PL.op rfl (Rd.asnT rfl) ?_
    refine PL.nil ?_
    refine thA_n ?_
    refine PC.ret ?_
    refine thA_r ?_
    obtain rfl := some_in hh0
    exact FinA.mk (r := bA false) (bl := []) [] (.inl rfl) rfl (rl := [.tmp 4]) (.tmp .nil) rfl rfl rfl (.t _) trivial ⟨rfl, rfl⟩
  refine PC.cond_false rfl (not_t h_38) ?_
  refine PC.skip ?_
  refine thA_n ?_
  refine PC.seq ?_
  refine PC.region ?_
  refine PL.op rfl (Rd.asnT rfl) ?_
  refine PL.nil ?_
  refine thA_n ?_
  refine PC.seq ?_
  obtain ⟨r39, h_40, hh0⟩ := bind_some hh0
  refine PC.region ?_
  refine PL.op rfl (Rd.loadBox rfl rfl rfl) ?_
  refine PL.op rfl (Rd.moveT rfl) ?_
  refine PL.callM true [] (w_L_heldBuffer N (I_Buffer.mk r26.2 r10.forced) (1 : Int) r39 h_40) rfl Try.call17 rfl ⟨.aggL ⟨.own rfl (by first | decide | exact List.not_mem_nil) (by simp only [List.length_set, len_L_markBuffer N _ _ _ h_27]) rfl, .t _, trivial⟩, .t _, trivial⟩ rfl trivial (fun _ => ⟨trivial, flat_nil⟩) ?_
  refine PL.op rfl (Rd.asnT rfl) ?_
  refine PL.nil ?_
  refine thA_n ?_
  refine PC.seq ?_
  refine PC.seq ?_
  refine PC.region ?_
  refine PL.op rfl (Rd.moveT rfl) ?_
  refine PL.op rfl (Rd.lss rfl rfl) ?_
  refine PL.nil ?_
  refine thA_n ?_
  rcases cond_some hh0 with ⟨h_41, hh0⟩ | ⟨h_41, hh0⟩
  · refine PC.cond_true rfl h_41 ?_
    refine PC.seq ?_
    refine PC.region ?_
    refine PL.op rfl (Rd.asnT rfl) ?_
    refine PL.nil ?_
    refine thA_n ?_
    refine PC.ret ?_
    refine thA_r ?_
    obtain rfl := some_in hh0
    exact FinA.mk (r := bA false) (bl := []) [] (.inl rfl) rfl (rl := [.tmp 4]) (.tmp .nil) rfl rfl rfl (.t _) trivial ⟨rfl, rfl⟩
  refine PC.cond_false rfl h_41 ?_
  refine PC.skip ?_
  refine thA_n ?_
  refine PC.seq ?_
  refine PC.seq ?_
  refine PC.region ?_
  refine PL.op rfl (Rd.moveT rfl) ?_
  refine PL.op rfl (Rd.moveT rfl) ?_
  refine PL.op rfl (Rd.neq rfl rfl) ?_
  refine PL.nil ?_
  refine thA_n ?_
  rcases cond_some hh0 with ⟨h_42, hh0⟩ | ⟨h_42, hh0⟩
  rotate_left
  · refine PC.cond_true rfl (not_f h_42) ?_
    refine PC.seq ?_
    refine PC.region ?_
    refine PL.op rfl (Rd.asnT rfl) ?_
    refine PL.nil ?_
    refine thA_n ?_
    refine PC.ret ?_
    refine thA_r ?_
    obtain rfl := some_in hh0
    exact FinA.mk (r := bA false) (bl := []) [] (.inl rfl) rfl (rl := [.tmp 4]) (.tmp .nil) rfl rfl rfl (.t _) trivial ⟨rfl, rfl⟩
  refine PC.cond_false rfl (not_t h_42) ?_
  refine PC.skip ?_
  refine thA_n ?_
  refine PC.seq ?_
  refine PC.region ?_
  refine PL.op rfl (Rd.asnT rfl) ?_
  refine PL.nil ?_
  refine thA_n ?_
  refine PC.ret ?_
  obtain rfl := some_in hh0
  exact FinA.mk (r := bA true) (bl := []) [] (.inl rfl) rfl (rl := [.tmp 4]) (.tmp .nil) rfl rfl rfl (.t _) trivial ⟨rfl, rfl⟩

def m_L_FnExactWritePage (N : Nat) (p_aB : L_Buffer) (p_aPage : Int) : Option (Bool) :=
  (m_L_szBuffer N p_aB (1048576 : Int)).bind fun r1 =>
  cond (decide (r1 < (0 : Int)))
    (some true)
    ((m_L_toBuffer N p_aB).bind fun r4 =>
    (m_S_WritePage N r4 p_aPage).bind fun r6 =>
    (m_L_toBuffer N p_aB).bind fun r8 =>
    (m_I_WritePage N r8 p_aPage).bind fun r10 =>
    (m_L_eqBuffer N r10.1 r6.1).bind fun r12 =>
    cond r12
      (cond (r10.2 == r6.2)
        ((m_L_toBuffer N p_aB).bind fun r16 =>
        (m_L_eqBuffer N r8 r16).bind fun r18 =>
        cond r18
          ((m_L_markBuffer N r8 (1 : Int)).bind fun r21 =>
          cond (decide (r21.1 < (0 : Int)))
            (some false)
            ((m_L_eqBuffer N r10.1 r6.1).bind fun r24 =>
            cond r24
              ((m_L_markBuffer N r10.1 (1 : Int)).bind fun r27 =>
              (m_L_heldBuffer N (I_Buffer.mk r27.2 r10.1.forced) (1 : Int)).bind fun r29 =>
              cond (decide (r29 < (0 : Int)))
                (some false)
                (cond (decide (r29 = r27.1))
                  ((m_L_toBuffer N p_aB).bind fun r33 =>
                  (m_I_WritePage N r33 p_aPage).bind fun r35 =>
                  (m_L_eqBuffer N r35.1 r6.1).bind fun r37 =>
                  cond r37
                    (cond (r35.2 == r6.2)
                      ((m_L_heldBuffer N (I_Buffer.mk r27.2 r10.1.forced) (1 : Int)).bind fun r41 =>
                      cond (decide (r41 < (0 : Int)))
                        (some false)
                        (cond (decide (r41 = r27.1))
                          (some true)
                          (some false)))
                      (some false))
                    (some false))
                  (some false)))
              (some false)))
          (some false))
        (some false))
      (some false))
theorem w_L_FnExactWritePage (N : Nat) (p_aB : L_Buffer) (p_aPage : Int) (r : Bool) (hh0 : m_L_FnExactWritePage N p_aB p_aPage = some r) : FnX Try.prog 9 [] [.agg [sL p_aB.frames, iA p_aB.forced], iA p_aPage] (RE (bA r) []) := by
  unfold m_L_FnExactWritePage at hh0
  refine FnX.mk Try.func9 rfl rfl ?_
  intro s hs
  refine PC.seq ?_
  refine PC.region ?_
  refine PL.ef rfl (Ef.box rfl rfl rfl) ?_
  refine PL.nm (.op 0 0) [some ⟨.mx [sL p_aB.frames, iA p_aB.forced], 24, 0⟩] rfl rfl ?_
  refine PL.op rfl (Rd.asnT rfl) ?_
  refine PL.nil ?_
  refine thA_n ?_
  refine PC.seq ?_
  refine PC.region ?_
  refine PL.op rfl (Rd.asnT rfl) ?_
  refine PL.nil ?_
  refine thA_n ?_
  refine PC.seq ?_
  obtain ⟨r1, h_2, hh0⟩ := bind_some hh0
  refine PC.region ?_
  refine PL.op rfl (Rd.loadBox rfl rfl rfl) ?_
  refine PL.op rfl (Rd.moveT rfl) ?_
  refine PL.callM false [] (w_L_szBuffer N p_aB (1048576 : Int) r1 h_2) rfl Try.call11 rfl ⟨.aggL ⟨.t _, .t _, trivial⟩, .t _, trivial⟩ rfl trivial (fun h => by cases h) ?_
  refine PL.op rfl (Rd.asnT rfl) ?_
  refine PL.nil ?_
  refine thA_n ?_
  refine PC.seq ?_
  refine PC.seq ?_
  refine PC.region ?_
  refine PL.op rfl (Rd.moveT rfl) ?_
  refine PL.op rfl (Rd.lss rfl rfl) ?_
  refine PL.nil ?_
  refine thA_n ?_
  rcases cond_some hh0 with ⟨h_3, hh0⟩ | ⟨h_3, hh0⟩
  · refine PC.cond_true rfl h_3 ?_
    refine PC.seq ?_
    refine PC.region ?_
    refine PL.op rfl (Rd.asnT rfl) ?_
    refine PL.nil ?_
    refine thA_n ?_
    refine PC.ret ?_
    refine thA_r ?_
    obtain rfl := some_in hh0
    exact FinA.mk (r := bA true) (bl := []) [] (.inl rfl) rfl (rl := [.tmp 4]) (.tmp .nil) rfl rfl rfl (.t _) trivial ⟨rfl, rfl⟩
  refine PC.cond_false rfl h_3 ?_
  refine PC.skip ?_
  refine thA_n ?_
  refine PC.seq ?_
  obtain ⟨r4, h_5, hh0⟩ := bind_some hh0
  obtain ⟨r6, h_7, hh0⟩ := bind_some hh0
  refine PC.region ?_
  refine PL.op rfl (Rd.loadBox rfl rfl rfl) ?_
  refine PL.callM false [] (w_L_toBuffer N p_aB r4 h_5) rfl Try.call13 rfl ⟨.aggL ⟨.t _, .t _, trivial⟩, trivial⟩ rfl trivial (fun h => by cases h) ?_
  refine PL.nm (.agg [.os 1 0 r4.frames.length, iA r4.forced]) [some ⟨.mx [sL p_aB.frames, iA p_aB.forced], 24, 0⟩, some ⟨.tr (eL r4.frames), 59, 4⟩] rfl rfl ?_
  refine PL.op rfl (Rd.moveT rfl) ?_
  refine PL.callM true [] (w_S_WritePage N r4 p_aPage r6 h_7) rfl Try.call27 rfl ⟨.aggL ⟨.own rfl (by first | decide | exact List.not_mem_nil) rfl rfl, .t _, trivial⟩, .t _, trivial⟩ rfl trivial (fun _ => ⟨⟨⟨trivial, trivial, trivial⟩, trivial, trivial⟩, (flat_cons flat_ow flat_nil)⟩) ?_
  refine PL.nm (.tup [.agg [.os 2 0 r6.1.frames.length, iA r6.1.forced], bA r6.2]) [some ⟨.mx [sL p_aB.frames, iA p_aB.forced], 24, 0⟩, some ⟨.tr (eL r4.frames), 59, 4⟩, some ⟨.tr (eL r6.1.frames), 59, 4⟩] rfl rfl ?_
  refine PL.op rfl (Rd.moveU rfl) ?_
  refine PL.op rfl (Rd.extract rfl rfl) ?_
  refine PL.op rfl (Rd.extract rfl rfl) ?_
  refine PL.ef rfl (Ef.alloc rfl rfl) ?_
  refine PL.nm (.op 3 0) [some ⟨.mx [sL p_aB.frames, iA p_aB.forced], 24, 0⟩, some ⟨.tr (eL r4.frames), 59, 4⟩, some ⟨.tr (eL r6.1.frames), 59, 4⟩, some ⟨.mx [.t (.v (.slice none 0 0)), iA (0 : Int)], 28, 0⟩] rfl rfl ?_
  refine PL.store rfl rfl rfl rfl rfl rfl rfl ?_
  refine PL.nO [some ⟨.mx [sL p_aB.frames, iA p_aB.forced], 24, 0⟩, some ⟨.tr (eL r4.frames), 59, 4⟩, some ⟨.tr (eL r6.1.frames), 59, 4⟩, some ⟨.mx [.os 2 0 r6.1.frames.length, iA r6.1.forced], 28, 0⟩] rfl ?_
  refine PL.op rfl (Rd.asnT rfl) ?_
  refine PL.nil ?_
  refine thA_n ?_
  refine PC.seq ?_
  obtain ⟨r8, h_9, hh0⟩ := bind_some hh0
  refine PC.region ?_
  refine PL.op rfl (Rd.loadBox rfl rfl rfl) ?_
  refine PL.callM false [] (w_L_toBuffer N p_aB r8 h_9) rfl Try.call13 rfl ⟨.aggL ⟨.t _, .t _, trivial⟩, trivial⟩ rfl trivial (fun h => by cases h) ?_
  refine PL.nm (.agg [.os 4 0 r8.frames.length, iA r8.forced]) [some ⟨.mx [sL p_aB.frames, iA p_aB.forced], 24, 0⟩, some ⟨.tr (eL r4.frames), 59, 4⟩, some ⟨.tr (eL r6.1.frames), 59, 4⟩, some ⟨.mx [.os 2 0 r6.1.frames.length, iA r6.1.forced], 28, 0⟩, some ⟨.tr (eL r8.frames), 59, 4⟩] rfl rfl ?_
  refine PL.ef rfl (Ef.alloc rfl rfl) ?_
  refine PL.nm (.op 5 0) [some ⟨.mx [sL p_aB.frames, iA p_aB.forced], 24, 0⟩, some ⟨.tr (eL r4.frames), 59, 4⟩, some ⟨.tr (eL r6.1.frames), 59, 4⟩, some ⟨.mx [.os 2 0 r6.1.frames.length, iA r6.1.forced], 28, 0⟩, some ⟨.tr (eL r8.frames), 59, 4⟩, some ⟨.mx [.t (.v (.slice none 0 0)), iA (0 : Int)], 28, 0⟩] rfl rfl ?_
  refine PL.store rfl rfl rfl rfl rfl rfl rfl ?_
  refine PL.nO [some ⟨.mx [sL p_aB.frames, iA p_aB.forced], 24, 0⟩, some ⟨.tr (eL r4.frames), 59, 4⟩, some ⟨.tr (eL r6.1.frames), 59, 4⟩, some ⟨.mx [.os 2 0 r6.1.frames.length, iA r6.1.forced], 28, 0⟩, some ⟨.tr (eL r8.frames), 59, 4⟩, some ⟨.mx [.os 4 0 r8.frames.length, iA r8.forced], 28, 0⟩] rfl ?_
  refine PL.nil ?_
  refine thA_n ?_
  refine PC.seq ?_
  obtain ⟨r10, h_11, hh0⟩ := bind_some hh0
  refine PC.region ?_
  refine PL.op rfl (Rd.loadBox rfl rfl rfl) ?_
  refine PL.op rfl (Rd.moveT rfl) ?_
  refine PL.callM true [] (w_I_WritePage N r8 p_aPage r10 h_11) rfl Try.call26 rfl ⟨.aggL ⟨.own rfl (by first | decide | exact List.not_mem_nil) rfl rfl, .t _, trivial⟩, .t _, trivial⟩ rfl trivial (fun _ => ⟨⟨⟨trivial, trivial, trivial⟩, trivial, trivial⟩, (flat_cons flat_ow flat_nil)⟩) ?_
  refine PL.nm (.tup [.agg [.os 6 0 r10.1.frames.length, iA r10.1.forced], bA r10.2]) [some ⟨.mx [sL p_aB.frames, iA p_aB.forced], 24, 0⟩, some ⟨.tr (eL r4.frames), 59, 4⟩, some ⟨.tr (eL r6.1.frames), 59, 4⟩, some ⟨.mx [.os 2 0 r6.1.frames.length, iA r6.1.forced], 28, 0⟩, some ⟨.tr (eL r8.frames), 59, 4⟩, some ⟨.mx [.os 4 0 r8.frames.length, iA r8.forced], 28, 0⟩, some ⟨.tr (eL r10.1.frames), 59, 4⟩] rfl rfl ?_
  refine PL.op rfl (Rd.moveU rfl) ?_
  refine PL.op rfl (Rd.extract rfl rfl) ?_
  refine PL.op rfl (Rd.extract rfl rfl) ?_
  refine PL.ef rfl (Ef.alloc rfl rfl) ?_
  refine PL.nm (.op 7 0) [some ⟨.mx [sL p_aB.frames, iA p_aB.forced], 24, 0⟩, some ⟨.tr (eL r4.frames), 59, 4⟩, some ⟨.tr (eL r6.1.frames), 59, 4⟩, some ⟨.mx [.os 2 0 r6.1.frames.length, iA r6.1.forced], 28, 0⟩, some ⟨.tr (eL r8.frames), 59, 4⟩, some ⟨.mx [.os 4 0 r8.frames.length, iA r8.forced], 28, 0⟩, some ⟨.tr (eL r10.1.frames), 59, 4⟩, some ⟨.mx [.t (.v (.slice none 0 0)), iA (0 : Int)], 28, 0⟩] rfl rfl ?_
  refine PL.store rfl rfl rfl rfl rfl rfl rfl ?_
  refine PL.nO [some ⟨.mx [sL p_aB.frames, iA p_aB.forced], 24, 0⟩, some ⟨.tr (eL r4.frames), 59, 4⟩, some ⟨.tr (eL r6.1.frames), 59, 4⟩, some ⟨.mx [.os 2 0 r6.1.frames.length, iA r6.1.forced], 28, 0⟩, some ⟨.tr (eL r8.frames), 59, 4⟩, some ⟨.mx [.os 4 0 r8.frames.length, iA r8.forced], 28, 0⟩, some ⟨.tr (eL r10.1.frames), 59, 4⟩, some ⟨.mx [.os 6 0 r10.1.frames.length, iA r10.1.forced], 28, 0⟩] rfl ?_
  refine PL.op rfl (Rd.asnT rfl) ?_
  refine PL.nil ?_
  refine thA_n ?_
  refine PC.seq ?_
  refine PC.seq ?_
  obtain ⟨r12, h_13, hh0⟩ := bind_some hh0
  rcases cond_some hh0 with ⟨h_14, hh0⟩ | ⟨h_14, hh0⟩
  rotate_left
  · refine PC.region ?_
    refine PL.op rfl (Rd.loadBox rfl rfl rfl) ?_
    refine PL.op rfl (Rd.loadBox rfl rfl rfl) ?_
    refine PL.callM true [] (w_L_eqBuffer N r10.1 r6.1 r12 h_13) rfl Try.call15 rfl ⟨.aggL ⟨.own rfl (by first | decide | exact List.not_mem_nil) rfl rfl, .t _, trivial⟩, .aggL ⟨.own rfl (by first | decide | exact List.not_mem_nil) rfl rfl, .t _, trivial⟩, trivial⟩ rfl trivial (fun _ => ⟨trivial, flat_nil⟩) ?_
    refine PL.op rfl (Rd.unnot rfl) ?_
    refine PL.op rfl (Rd.moveT rfl) ?_
    refine PL.guard_off rfl rfl (not_f h_14) ?_
    refine PL.guard_off rfl rfl (not_f h_14) ?_
    refine PL.guard_off rfl rfl (not_f h_14) ?_
    refine PL.op rfl (Rd.pick_t rfl (not_f h_14)) ?_
    refine PL.nil ?_
    refine thA_n ?_
    refine PC.cond_true rfl rfl ?_
    refine PC.seq ?_
    refine PC.region ?_
    refine PL.op rfl (Rd.asnT rfl) ?_
    refine PL.nil ?_
    refine thA_n ?_
    refine PC.ret ?_
    refine thA_r ?_
    obtain rfl := some_in hh0
    exact FinA.mk (r := bA false) (bl := []) [] (.inl rfl) rfl (rl := [.tmp 4]) (.tmp .nil) rfl rfl rfl (.t _) trivial ⟨rfl, rfl⟩
  refine PC.region ?_
  refine PL.op rfl (Rd.loadBox rfl rfl rfl) ?_
  refine PL.op rfl (Rd.loadBox rfl rfl rfl) ?_
  refine PL.callM true [] (w_L_eqBuffer N r10.1 r6.1 r12 h_13) rfl Try.call15 rfl ⟨.aggL ⟨.own rfl (by first | decide | exact List.not_mem_nil) rfl rfl, .t _, trivial⟩, .aggL ⟨.own rfl (by first | decide | exact List.not_mem_nil) rfl rfl, .t _, trivial⟩, trivial⟩ rfl trivial (fun _ => ⟨trivial, flat_nil⟩) ?_
  refine PL.op rfl (Rd.unnot rfl) ?_
  refine PL.op rfl (Rd.moveT rfl) ?_
  refine PL.guard_on rfl (not_t h_14) ?_
  refine PL.op rfl (Rd.moveT rfl) ?_
  refine PL.guard_on rfl (not_t h_14) ?_
  refine PL.op rfl (Rd.moveT rfl) ?_
  refine PL.guard_on rfl (not_t h_14) ?_
  refine PL.op rfl (Rd.neqB rfl rfl) ?_
  refine PL.op rfl (Rd.pick_f rfl (not_t h_14)) ?_
  refine PL.nil ?_
  refine thA_n ?_
  rcases cond_some hh0 with ⟨h_15, hh0⟩ | ⟨h_15, hh0⟩
  rotate_left
  · refine PC.cond_true rfl (not_f h_15) ?_
    refine PC.seq ?_
    refine PC.region ?_
    refine PL.op rfl (Rd.asnT rfl) ?_
    refine PL.nil ?_
    refine thA_n ?_
    refine PC.ret ?_
    refine thA_r ?_
    obtain rfl := some_in hh0
    exact FinA.mk (r := bA false) (bl := []) [] (.inl rfl) rfl (rl := [.tmp 4]) (.tmp .nil) rfl rfl rfl (.t _) trivial ⟨rfl, rfl⟩
  refine PC.cond_false rfl (not_t h_15) ?_
  refine PC.skip ?_
  refine thA_n ?_
  refine PC.seq ?_
  refine PC.seq ?_
  obtain ⟨r16, h_17, hh0⟩ := bind_some hh0
  obtain ⟨r18, h_19, hh0⟩ := bind_some hh0
  refine PC.any (id := 10) 5 (.seg [0, 1, 2, 3, 4] .done) [] rfl (by kernel_rfl) rfl ?_
  refine PT.seg ?_
  refine PR.op rfl (Rd.loadBox rfl rfl rfl) ?_
  refine PR.op rfl (Rd.loadBox rfl rfl rfl) ?_
  refine PR.callM false [] (w_L_toBuffer N p_aB r16 h_17) rfl Try.call13 rfl ⟨.aggL ⟨.t _, .t _, trivial⟩, trivial⟩ rfl trivial (fun h => by cases h) rfl ?_
  refine PR.nm (.agg [.os 8 0 r16.frames.length, iA r16.forced]) [some ⟨.mx [sL p_aB.frames, iA p_aB.forced], 24, 0⟩, some ⟨.tr (eL r4.frames), 59, 4⟩, some ⟨.tr (eL r6.1.frames), 59, 4⟩, some ⟨.mx [.os 2 0 r6.1.frames.length, iA r6.1.forced], 28, 0⟩, some ⟨.tr (eL r8.frames), 59, 4⟩, some ⟨.mx [.os 4 0 r8.frames.length, iA r8.forced], 28, 0⟩, some ⟨.tr (eL r10.1.frames), 59, 4⟩, some ⟨.mx [.os 6 0 r10.1.frames.length, iA r10.1.forced], 28, 0⟩, some ⟨.tr (eL r16.frames), 59, 4⟩] rfl rfl ?_
  refine PR.callM true [] (w_L_eqBuffer N r8 r16 r18 h_19) rfl Try.call15 rfl ⟨.aggL ⟨.own rfl (by first | decide | exact List.not_mem_nil) rfl rfl, .t _, trivial⟩, .aggL ⟨.own rfl (by first | decide | exact List.not_mem_nil) rfl rfl, .t _, trivial⟩, trivial⟩ rfl trivial (fun _ => ⟨trivial, flat_nil⟩) rfl ?_
  refine PR.op rfl (Rd.unnot rfl) ?_
  refine PR.nil ?_
  refine PT.done ?_
  refine PL.nil ?_
  refine thA_n ?_
  rcases cond_some hh0 with ⟨h_20, hh0⟩ | ⟨h_20, hh0⟩
  rotate_left
  · refine PC.cond_true rfl (not_f h_20) ?_
    refine PC.seq ?_
    refine PC.region ?_
    refine PL.op rfl (Rd.asnT rfl) ?_
    refine PL.nil ?_
    refine thA_n ?_
    refine PC.ret ?_
    refine thA_r ?_
    obtain rfl := some_in hh0
    exact FinA.mk (r := bA false) (bl := []) [] (.inl rfl) rfl (rl := [.tmp 4]) (.tmp .nil) rfl rfl rfl (.t _) trivial ⟨rfl, rfl⟩
  refine PC.cond_false rfl (not_t h_20) ?_
  refine PC.skip ?_
  refine thA_n ?_
  refine PC.seq ?_
  refine PC.region ?_
  refine PL.op rfl (Rd.asnT rfl) ?_
  refine PL.nil ?_
  refine thA_n ?_
  refine PC.seq ?_
  obtain ⟨r21, h_22, hh0⟩ := bind_some hh0
  refine PC.region ?_
  refine PL.op rfl (Rd.loadBox rfl rfl rfl) ?_
  refine PL.op rfl (Rd.moveT rfl) ?_
  refine PL.callM false [4] (w_L_markBuffer N r8 (1 : Int) r21 h_22) rfl Try.call16 rfl ⟨.aggL ⟨.os rfl, .t _, trivial⟩, .t _, trivial⟩ rfl ⟨⟨_, rfl, rfl, rfl, .tr _⟩, trivial⟩ (fun h => by cases h) ?_
  refine PL.nm (iA r21.1) [some ⟨.mx [sL p_aB.frames, iA p_aB.forced], 24, 0⟩, some ⟨.tr (eL r4.frames), 59, 4⟩, some ⟨.tr (eL r6.1.frames), 59, 4⟩, some ⟨.mx [.os 2 0 r6.1.frames.length, iA r6.1.forced], 28, 0⟩, some ⟨.tr (eL r21.2), 59, 4⟩, some ⟨.mx [.os 4 0 r8.frames.length, iA r8.forced], 28, 0⟩, some ⟨.tr (eL r10.1.frames), 59, 4⟩, some ⟨.mx [.os 6 0 r10.1.frames.length, iA r10.1.forced], 28, 0⟩, some ⟨.tr (eL r16.frames), 59, 4⟩] rfl rfl ?_
  refine PL.op rfl (Rd.asnT rfl) ?_
  refine PL.nil ?_
  refine thA_n ?_
  refine PC.seq ?_
  refine PC.seq ?_
  rcases cond_some hh0 with ⟨h_23, hh0⟩ | ⟨h_23, hh0⟩
  · refine PC.region ?_
    refine PL.op rfl (Rd.moveT rfl) ?_
    refine PL.op rfl (Rd.lss rfl rfl) ?_
    refine PL.op rfl (Rd.moveT rfl) ?_
    refine PL.guard_off rfl rfl h_23 ?_
    refine PL.guard_off rfl rfl h_23 ?_
    refine PL.guard_off rfl rfl h_23 ?_
    refine PL.guard_off rfl rfl h_23 ?_
    refine PL.op rfl (Rd.pick_t rfl h_23) ?_
    refine PL.op rfl (Rd.moveT rfl) ?_
    refine PL.guard_off rfl rfl rfl ?_
    refine PL.guard_off rfl rfl rfl ?_
    refine PL.guard_off rfl rfl rfl ?_
    refine PL.op rfl (Rd.pick_t rfl rfl) ?_
    refine PL.nil ?_
    refine thA_n ?_
    refine PC.cond_true rfl rfl ?_
    refine PC.seq ?_
    refine PC.region ?_
    refine PL.op rfl (Rd.asnT rfl) ?_
    refine PL.nil ?_
    refine thA_n ?_
    refine PC.ret ?_
    refine thA_r ?_
    obtain rfl := some_in hh0
    exact FinA.mk (r := bA false) (bl := []) [] (.inl rfl) rfl (rl := [.tmp 4]) (.tmp .nil) rfl rfl rfl (.t _) trivial ⟨rfl, rfl⟩
  obtain ⟨r24, h_25, hh0⟩ := bind_some hh0
  rcases cond_some hh0 with ⟨h_26, hh0⟩ | ⟨h_26, hh0⟩
  rotate_left
  · refine PC.region ?_
    refine PL.op rfl (Rd.moveT rfl) ?_
    refine PL.op rfl (Rd.lss rfl rfl) ?_
    refine PL.op rfl (Rd.moveT rfl) ?_
    refine PL.guard_on rfl h_23 ?_
    refine PL.op rfl (Rd.loadBox rfl rfl rfl) ?_
    refine PL.guard_on rfl h_23 ?_
    refine PL.op rfl (Rd.loadBox rfl rfl rfl) ?_
    refine PL.guard_on rfl h_23 ?_
    refine PL.callM true [] (w_L_eqBuffer N r10.1 r6.1 r24 h_25) rfl Try.call15 rfl ⟨.aggL ⟨.own rfl (by first | decide | exact List.not_mem_nil) rfl rfl, .t _, trivial⟩, .aggL ⟨.own rfl (by first | decide | exact List.not_mem_nil) rfl rfl, .t _, trivial⟩, trivial⟩ rfl trivial (fun _ => ⟨trivial, flat_nil⟩) ?_
    refine PL.guard_on rfl h_23 ?_
    refine PL.op rfl (Rd.unnot rfl) ?_
    refine PL.op rfl (Rd.pick_f rfl h_23) ?_
    refine PL.op rfl (Rd.moveT rfl) ?_
    refine PL.guard_off rfl rfl (not_f h_26) ?_
    refine PL.guard_off rfl rfl (not_f h_26) ?_
    refine PL.guard_off rfl rfl (not_f h_26) ?_
    refine PL.op rfl (Rd.pick_t rfl (not_f h_26)) ?_
    refine PL.nil ?_
    refine thA_n ?_
    refine PC.cond_true rfl rfl ?_
    refine PC.seq ?_
    refine PC.region ?_
    refine PL.op rfl (Rd.asnT rfl) ?_
    refine PL.nil ?_
    refine thA_n ?_
    refine PC.ret ?_
    refine thA_r ?_
    obtain rfl := some_in hh0
    exact FinA.mk (r := bA false) (bl := []) [] (.inl rfl) rfl (rl := [.tmp 4]) (.tmp .nil) rfl rfl rfl (.t _) trivial ⟨rfl, rfl⟩
  refine PC.region ?_
  refine PL.op rfl (Rd.moveT rfl) ?_
  refine PL.op rfl (Rd.lss rfl rfl) ?_
  refine PL.op rfl (Rd.moveT rfl) ?_
  refine PL.guard_on rfl h_23 ?_
  refine PL.op rfl (Rd.loadBox rfl rfl rfl) ?_
  refine PL.guard_on rfl h_23 ?_
  refine PL.op rfl (Rd.loadBox rfl rfl rfl) ?_
  refine PL.guard_on rfl h_23 ?_
  refine PL.callM true [] (w_L_eqBuffer N r10.1 r6.1 r24 h_25) rfl Try.call15 rfl ⟨.aggL ⟨.own rfl (by first | decide | exact List.not_mem_nil) rfl rfl, .t _, trivial⟩, .aggL ⟨.own rfl (by first | decide | exact List.not_mem_nil) rfl rfl, .t _, trivial⟩, trivial⟩ rfl trivial (fun _ => ⟨trivial, flat_nil⟩) ?_
  refine PL.guard_on rfl h_23 ?_
  refine PL.op rfl (Rd.unnot rfl) ?_
  refine PL.op rfl (Rd.pick_f rfl h_23) ?_
  refine PL.op rfl (Rd.moveT rfl) ?_
  refine PL.guard_on rfl (not_t h_26) ?_
  refine PL.op rfl (Rd.moveT rfl) ?_
  refine PL.guard_on rfl (not_t h_26) ?_
  refine PL.op rfl (Rd.moveT rfl) ?_
  refine PL.guard_on rfl (not_t h_26) ?_
  refine PL.op rfl (Rd.neqB rfl rfl) ?_
  refine PL.op rfl (Rd.pick_f rfl (not_t h_26)) ?_
  refine PL.nil ?_
  refine thA_n ?_
  refine PC.cond_false rfl (not_t h_15) ?_
  refine PC.skip ?_
  refine thA_n ?_
  refine PC.seq ?_
  refine PC.region ?_
  refine PL.op rfl (Rd.asnT rfl) ?_
  refine PL.nil ?_
  refine thA_n ?_
  refine PC.seq ?_
  obtain ⟨r27, h_28, hh0⟩ := bind_some hh0
  refine PC.region ?_
  refine PL.op rfl (Rd.loadBox rfl rfl rfl) ?_
  refine PL.op rfl (Rd.moveT rfl) ?_
  refine PL.callM false [6] (w_L_markBuffer N r10.1 (1 : Int) r27 h_28) rfl Try.call16 rfl ⟨.aggL ⟨.os rfl, .t _, trivial⟩, .t _, trivial⟩ rfl ⟨⟨_, rfl, rfl, rfl, .tr _⟩, trivial⟩ (fun h => by cases h) ?_
  refine PL.nm (iA r27.1) [some ⟨.mx [sL p_aB.frames, iA p_aB.forced], 24, 0⟩, some ⟨.tr (eL r4.frames), 59, 4⟩, some ⟨.tr (eL r6.1.frames), 59, 4⟩, some ⟨.mx [.os 2 0 r6.1.frames.length, iA r6.1.forced], 28, 0⟩, some ⟨.tr (eL r21.2), 59, 4⟩, some ⟨.mx [.os 4 0 r8.frames.length, iA r8.forced], 28, 0⟩, some ⟨.tr (eL r27.2), 59, 4⟩, some ⟨.mx [.os 6 0 r10.1.frames.length, iA r10.1.forced], 28, 0⟩, some ⟨.tr (eL r16.frames), 59, 4⟩] rfl rfl ?_
  refine PL.op rfl (Rd.asnT rfl) ?_
  refine PL.nil ?_
  refine thA_n ?_
  refine PC.seq ?_
  refine PC.region ?_
  refine PL.op rfl (Rd.asnT rfl) ?_
  refine PL.nil ?_
  refine thA_n ?_
  refine PC.seq ?_
  obtain ⟨r29, h_30, hh0⟩ := bind_some hh0
  refine PC.region ?_
  refine PL.op rfl (Rd.loadBox rfl rfl rfl) ?_
  refine PL.op rfl (Rd.moveT rfl) ?_
  refine PL.callM true [] (w_L_heldBuffer N (I_Buffer.mk r27.2 r10.1.forced) (1 : Int) r29 h_30) rfl Try.call17 rfl ⟨.aggL ⟨.own rfl (by first | decide | exact List.not_mem_nil) (by simp only [List.length_set, len_L_markBuffer N _ _ _ h_28]) rfl, .t _, trivial⟩, .t _, trivial⟩ rfl trivial (fun _ => ⟨trivial, flat_nil⟩) ?_
  refine PL.op rfl (Rd.asnT rfl) ?_
  refine PL.nil ?_
  refine thA_n ?_
  refine PC.seq ?_
  refine PC.seq ?_
  refine PC.region ?_
  refine PL.op rfl (Rd.moveT rfl) ?_
  refine PL.op rfl (Rd.lss rfl rfl) ?_
  refine PL.nil ?_
  refine thA_n ?_
  rcases cond_some hh0 with ⟨h_31, hh0⟩ | ⟨h_31, hh0⟩
  · refine PC.cond_true rfl h_31 ?_
    refine PC.seq ?_
    refine PC.region ?_
    refine PL.op rfl (Rd.asnT rfl) ?_
    refine PL.nil ?_
    refine thA_n ?_
    refine PC.ret ?_
    refine thA_r ?_
    obtain rfl := some_in hh0
    exact FinA.mk (r := bA false) (bl := []) [] (.inl rfl) rfl (rl := [.tmp 4]) (.tmp .nil) rfl rfl rfl (.t _) trivial ⟨rfl, rfl⟩
  refine PC.cond_false rfl h_31 ?_
  refine PC.skip ?_
  refine thA_n ?_
  refine PC.seq ?_
  refine PC.seq ?_
  refine PC.region ?_
  refine PL.op rfl (Rd.moveT rfl) ?_
  refine PL.op rfl (Rd.moveT rfl) ?_
  refine PL.op rfl (Rd.neq rfl rfl) ?_
  refine PL.nil ?_
  refine thA_n ?_
  rcases cond_some hh0 with ⟨h_32, hh0⟩ | ⟨h_32, hh0⟩
  rotate_left
  · refine PC.cond_true rfl (not_f h_32) ?_
    refine PC.seq ?_
    refine PC.region ?_
    refine PL.op rfl (Rd.asnT rfl) ?_
    refine PL.nil ?_
    refine thA_n ?_
    refine PC.ret ?_
    refine thA_r ?_
    obtain rfl := some_in hh0
    exact FinA.mk (r := bA false) (bl := []) [] (.inl rfl) rfl (rl := [.tmp 4]) (.tmp .nil) rfl rfl rfl (.t _) trivial ⟨rfl, rfl⟩
  refine PC.cond_false rfl (not_t h_32) ?_
  refine PC.skip ?_
  refine thA_n ?_
  refine PC.seq ?_
  obtain ⟨r33, h_34, hh0⟩ := bind_some hh0
  obtain ⟨r35, h_36, hh0⟩ := bind_some hh0
  refine PC.region ?_
  refine PL.op rfl (Rd.loadBox rfl rfl rfl) ?_
  refine PL.callM false [] (w_L_toBuffer N p_aB r33 h_34) rfl Try.call13 rfl ⟨.aggL ⟨.t _, .t _, trivial⟩, trivial⟩ rfl trivial (fun h => by cases h) ?_
  refine PL.nm (.agg [.os 9 0 r33.frames.length, iA r33.forced]) [some ⟨.mx [sL p_aB.frames, iA p_aB.forced], 24, 0⟩, some ⟨.tr (eL r4.frames), 59, 4⟩, some ⟨.tr (eL r6.1.frames), 59, 4⟩, some ⟨.mx [.os 2 0 r6.1.frames.length, iA r6.1.forced], 28, 0⟩, some ⟨.tr (eL r21.2), 59, 4⟩, some ⟨.mx [.os 4 0 r8.frames.length, iA r8.forced], 28, 0⟩, some ⟨.tr (eL r27.2), 59, 4⟩, some ⟨.mx [.os 6 0 r10.1.frames.length, iA r10.1.forced], 28, 0⟩, some ⟨.tr (eL r16.frames), 59, 4⟩, some ⟨.tr (eL r33.frames), 59, 4⟩] rfl rfl ?_
  refine PL.op rfl (Rd.moveT rfl) ?_
  refine PL.callM true [] (w_I_WritePage N r33 p_aPage r35 h_36) rfl Try.call26 rfl ⟨.aggL ⟨.own rfl (by first | decide | exact List.not_mem_nil) rfl rfl, .t _, trivial⟩, .t _, trivial⟩ rfl trivial (fun _ => ⟨⟨⟨trivial, trivial, trivial⟩, trivial, trivial⟩, (flat_cons flat_ow flat_nil)⟩) ?_
  refine PL.nm (.tup [.agg [.os 10 0 r35.1.frames.length, iA r35.1.forced], bA r35.2]) [some ⟨.mx [sL p_aB.frames, iA p_aB.forced], 24, 0⟩, some ⟨.tr (eL r4.frames), 59, 4⟩, some ⟨.tr (eL r6.1.frames), 59, 4⟩, some ⟨.mx [.os 2 0 r6.1.frames.length, iA r6.1.forced], 28, 0⟩, some ⟨.tr (eL r21.2), 59, 4⟩, some ⟨.mx [.os 4 0 r8.frames.length, iA r8.forced], 28, 0⟩, some ⟨.tr (eL r27.2), 59, 4⟩, some ⟨.mx [.os 6 0 r10.1.frames.length, iA r10.1.forced], 28, 0⟩, some ⟨.tr (eL r16.frames), 59, 4⟩, some ⟨.tr (eL r33.frames), 59, 4⟩, some ⟨.tr (eL r35.1.frames), 59, 4⟩] rfl rfl ?_
  refine PL.op rfl (Rd.moveU rfl) ?_
  refine PL.op rfl (Rd.extract rfl rfl) ?_
  refine PL.op rfl (Rd.extract rfl rfl) ?_
  refine PL.ef rfl (Ef.alloc rfl rfl) ?_
  refine PL.nm (.op 11 0) [some ⟨.mx [sL p_aB.frames, iA p_aB.forced], 24, 0⟩, some ⟨.tr (eL r4.frames), 59, 4⟩, some ⟨.tr (eL r6.1.frames), 59, 4⟩, some ⟨.mx [.os 2 0 r6.1.frames.length, iA r6.1.forced], 28, 0⟩, some ⟨.tr (eL r21.2), 59, 4⟩, some ⟨.mx [.os 4 0 r8.frames.length, iA r8.forced], 28, 0⟩, some ⟨.tr (eL r27.2), 59, 4⟩, some ⟨.mx [.os 6 0 r10.1.frames.length, iA r10.1.forced], 28, 0⟩, some ⟨.tr (eL r16.frames), 59, 4⟩, some ⟨.tr (eL r33.frames), 59, 4⟩, some ⟨.tr (eL r35.1.frames), 59, 4⟩, some ⟨.mx [.t (.v (.slice none 0 0)), iA (0 : Int)], 28, 0⟩] rfl rfl ?_
  refine PL.store rfl rfl rfl rfl rfl rfl rfl ?_
  refine PL.nO [some ⟨.mx [sL p_aB.frames, iA p_aB.forced], 24, 0⟩, some ⟨.tr (eL r4.frames), 59, 4⟩, some ⟨.tr (eL r6.1.frames), 59, 4⟩, some ⟨.mx [.os 2 0 r6.1.frames.length, iA r6.1.forced], 28, 0⟩, some ⟨.tr (eL r21.2), 59, 4⟩, some ⟨.mx [.os 4 0 r8.frames.length, iA r8.forced], 28, 0⟩, some ⟨.tr (eL r27.2), 59, 4⟩, some ⟨.mx [.os 6 0 r10.1.frames.length, iA r10.1.forced], 28, 0⟩, some ⟨.tr (eL r16.frames), 59, 4⟩, some ⟨.tr (eL r33.frames), 59, 4⟩, some ⟨.tr (eL r35.1.frames), 59, 4⟩, some ⟨.mx [.os 10 0 r35.1.frames.length, iA r35.1.forced], 28, 0⟩] rfl ?_
  refine PL.op rfl (Rd.asnT rfl) ?_
  refine PL.nil ?_
  refine thA_n ?_
  refine PC.seq ?_
  refine PC.seq ?_
  obtain ⟨r37, h_38, hh0⟩ := bind_some hh0
  rcases cond_some hh0 with ⟨h_39, hh0⟩ | ⟨h_39, hh0⟩
  rotate_left
  · refine PC.region ?_
    refine PL.op rfl (Rd.loadBox rfl rfl rfl) ?_
    refine PL.op rfl (Rd.loadBox rfl rfl rfl) ?_
    refine PL.callM true [] (w_L_eqBuffer N r35.1 r6.1 r37 h_38) rfl Try.call15 rfl ⟨.aggL ⟨.own rfl (by first | decide | exact List.not_mem_nil) rfl rfl, .t _, trivial⟩, .aggL ⟨.own rfl (by first | decide | exact List.not_mem_nil) rfl rfl, .t _, trivial⟩, trivial⟩ rfl trivial (fun _ => ⟨trivial, flat_nil⟩) ?_
    refine PL.op rfl (Rd.unnot rfl) ?_
    refine PL.op rfl (Rd.moveT rfl) ?_
    refine PL.guard_off rfl rfl (not_f h_39) ?_
    refine PL.guard_off rfl rfl (not_f h_39) ?_
    refine PL.guard_off rfl rfl (not_f h_39) ?_
    refine PL.op rfl (Rd.pick_t rfl (not_f h_39)) ?_
    refine PL.nil ?_
    refine thA_n ?_
    refine PC.cond_true rfl rfl ?_
    refine PC.seq ?_
    refine PC.region ?_
    refine PL.op rfl (Rd.asnT rfl) ?_
    refine PL.nil ?_
    refine thA_n ?_
    refine PC.ret ?_
    refine thA_r ?_
    obtain rfl := some_in hh0
    exact FinA.mk (r := bA false) (bl := []) [] (.inl rfl) rfl (rl := [.tmp 4]) (.tmp .nil) rfl rfl rfl (.t _) trivial ⟨rfl, rfl⟩
  refine PC.region ?_
  refine PL.op rfl (Rd.loadBox rfl rfl rfl) ?_
  refine PL.op rfl (Rd.loadBox rfl rfl rfl) ?_
  refine PL.callM true [] (w_L_eqBuffer N r35.1 r6.1 r37 h_38) rfl Try.call15 rfl ⟨.aggL ⟨.own rfl (by first | decide | exact List.not_mem_nil) rfl rfl, .t _, trivial⟩, .aggL ⟨.own rfl (by first | decide | exact List.not_mem_nil) rfl rfl, .t _, trivial⟩, trivial⟩ rfl trivial (fun _ => ⟨trivial, flat_nil⟩) ?_
  refine PL.op rfl (Rd.unnot rfl) ?_
  refine PL.op rfl (Rd.moveT rfl) ?_
  refine PL.guard_on rfl (not_t h_39) ?_
  refine PL.op rfl (Rd.moveT rfl) ?_
  refine PL.guard_on rfl (not_t h_39) ?_
  refine PL.op rfl (Rd.moveT rfl) ?_
  refine PL.guard_on rfl (not_t h_39) ?_
  refine PL.op rfl (Rd.neqB rfl rfl) ?_
  refine PL.op rfl (Rd.pick_f rfl (not_t h_39)) ?_
  refine PL.nil ?_
  refine thA_n ?_
  rcases cond_some hh0 with ⟨h_40, hh0⟩ | ⟨h_40, hh0⟩
  rotate_left
  · refine PC.cond_true rfl (not_f h_40) ?_
    refine PC.seq ?_
    refine PC.region ?_
    refine PL.op rfl (Rd.asnT rfl) ?_
    refine PL.nil ?_
    refine thA_n ?_
    refine PC.ret ?_
    refine thA_r ?_
    obtain rfl := some_in hh0
    exact FinA.mk (r := bA false) (bl := []) [] (.inl rfl) rfl (rl := [.tmp 4]) (.tmp .nil) rfl rfl rfl (.t _) trivial ⟨rfl, rfl⟩
  refine PC.cond_false rfl (not_t h_40) ?_
  refine PC.skip ?_
  refine thA_n ?_
  refine PC.seq ?_
  refine PC.region ?_
  refine PL.op rfl (Rd.asnT rfl) ?_
  refine PL.nil ?_
  refine thA_n ?_
  refine PC.seq ?_
  obtain ⟨r41, h_42, hh0⟩ := bind_some hh0
  refine PC.region ?_
  refine PL.op rfl (Rd.loadBox rfl rfl rfl) ?_
  refine PL.op rfl (Rd.moveT rfl) ?_
  refine PL.callM true [] (w_L_heldBuffer N (I_Buffer.mk r27.2 r10.1.forced) (1 : Int) r41 h_42) rfl Try.call17 rfl ⟨.aggL ⟨.own rfl (by first | decide | exact List.not_mem_nil) (by simp only [List.length_set, len_L_markBuffer N _ _ _ h_28]) rfl, .t _, trivial⟩, .t _, trivial⟩ rfl trivial (fun _ => ⟨trivial, flat_nil⟩) ?_
  refine PL.op rfl (Rd.asnT rfl) ?_
  refine PL.nil ?_
  refine thA_n ?_
  refine PC.seq ?_
  refine PC.seq ?_
  refine PC.region ?_
  refine PL.op rfl (Rd.moveT rfl) ?_
  refine PL.op rfl (Rd.lss rfl rfl) ?_
  refine PL.nil ?_
  refine thA_n ?_
  rcases cond_some hh0 with ⟨h_43, hh0⟩ | ⟨h_43, hh0⟩
  · refine PC.cond_true rfl h_43 ?_
    refine PC.seq ?_
    refine PC.region ?_
    refine PL.op rfl (Rd.asnT rfl) ?_
    refine PL.nil ?_
    refine thA_n ?_
    refine PC.ret ?_
    refine thA_r ?_
    obtain rfl := some_in hh0
    exact FinA.mk (r := bA false) (bl := []) [] (.inl rfl) rfl (rl := [.tmp 4]) (.tmp .nil) rfl rfl rfl (.t _) trivial ⟨rfl, rfl⟩
  refine PC.cond_false rfl h_43 ?_
  refine PC.skip ?_
  refine thA_n ?_
  refine PC.seq ?_
  refine PC.seq ?_
  refine PC.region ?_
  refine PL.op rfl (Rd.moveT rfl) ?_
  refine PL.op rfl (Rd.moveT rfl) ?_
  refine PL.op rfl (Rd.neq rfl rfl) ?_
  refine PL.nil ?_
  refine thA_n ?_
  rcases cond_some hh0 with ⟨h_44, hh0⟩ | ⟨h_44, hh0⟩
  rotate_left
  · refine PC.cond_true rfl (not_f h_44) ?_
    refine PC.seq ?_
    refine PC.region ?_
    refine PL.op rfl (Rd.asnT rfl) ?_
    refine PL.nil ?_
    refine thA_n ?_
    refine PC.ret ?_
    refine thA_r ?_
    obtain rfl := some_in hh0
    exact FinA.mk (r := bA false) (bl := []) [] (.inl rfl) rfl (rl := [.tmp 4]) (.tmp .nil) rfl rfl rfl (.t _) trivial ⟨rfl, rfl⟩
  refine PC.cond_false rfl (not_t h_44) ?_
  refine PC.skip ?_
  refine thA_n ?_
  refine PC.seq ?_
  refine PC.region ?_
  refine PL.op rfl (Rd.asnT rfl) ?_
  refine PL.nil ?_
  refine thA_n ?_
  refine PC.ret ?_
  obtain rfl := some_in hh0
  exact FinA.mk (r := bA true) (bl := []) [] (.inl rfl) rfl (rl := [.tmp 4]) (.tmp .nil) rfl rfl rfl (.t _) trivial ⟨rfl, rfl⟩

def m_L_FnExactTouchPage (N : Nat) (p_aB : L_Buffer) (p_aPage : Int) (p_aLsn : Int) : Option (Bool) :=
  (m_L_szBuffer N p_aB (1048576 : Int)).bind fun r1 =>
  cond (decide (r1 < (0 : Int)))
    (some true)
    ((m_L_toBuffer N p_aB).bind fun r4 =>
    (m_S_TouchPage N r4 p_aPage p_aLsn).bind fun r6 =>
    (m_L_toBuffer N p_aB).bind fun r8 =>
    (m_I_TouchPage N r8 p_aPage p_aLsn).bind fun r10 =>
    (m_L_eqBuffer N r10.1 r6.1).bind fun r12 =>
    cond r12
      (cond (r10.2 == r6.2)
        ((m_L_toBuffer N p_aB).bind fun r16 =>
        (m_L_eqBuffer N r8 r16).bind fun r18 =>
        cond r18
          ((m_L_markBuffer N r8 (1 : Int)).bind fun r21 =>
          cond (decide (r21.1 < (0 : Int)))
            (some false)
            ((m_L_eqBuffer N r10.1 r6.1).bind fun r24 =>
            cond r24
              ((m_L_markBuffer N r10.1 (1 : Int)).bind fun r27 =>
              (m_L_heldBuffer N (I_Buffer.mk r27.2 r10.1.forced) (1 : Int)).bind fun r29 =>
              cond (decide (r29 < (0 : Int)))
                (some false)
                (cond (decide (r29 = r27.1))
                  ((m_L_toBuffer N p_aB).bind fun r33 =>
                  (m_I_TouchPage N r33 p_aPage p_aLsn).bind fun r35 =>
                  (m_L_eqBuffer N r35.1 r6.1).bind fun r37 =>
                  cond r37
                    (cond (r35.2 == r6.2)
                      ((m_L_heldBuffer N (I_Buffer.mk r27.2 r10.1.forced) (1 : Int)).bind fun r41 =>
                      cond (decide (r41 < (0 : Int)))
                        (some false)
                        (cond (decide (r41 = r27.1))
                          (some true)
                          (some false)))
                      (some false))
                    (some false))
                  (some false)))
              (some false)))
          (some false))
        (some false))
      (some false))
theorem w_L_FnExactTouchPage (N : Nat) (p_aB : L_Buffer) (p_aPage : Int) (p_aLsn : Int) (r : Bool) (hh0 : m_L_FnExactTouchPage N p_aB p_aPage p_aLsn = some r) : FnX Try.prog 10 [] [.agg [sL p_aB.frames, iA p_aB.forced], iA p_aPage, iA p_aLsn] (RE (bA r) []) := by
  unfold m_L_FnExactTouchPage at hh0
  refine FnX.mk Try.func10 rfl rfl ?_
  intro s hs
  refine PC.seq ?_
  refine PC.region ?_
  refine PL.ef rfl (Ef.box rfl rfl rfl) ?_
  refine PL.nm (.op 0 0) [some ⟨.mx [sL p_aB.frames, iA p_aB.forced], 24, 0⟩] rfl rfl ?_
  refine PL.op rfl (Rd.asnT rfl) ?_
  refine PL.nil ?_
  refine thA_n ?_
  refine PC.seq ?_
  refine PC.region ?_
  refine PL.op rfl (Rd.asnT rfl) ?_
  refine PL.nil ?_
  refine thA_n ?_
  refine PC.seq ?_
  obtain ⟨r1, h_2, hh0⟩ := bind_some hh0
  refine PC.region ?_
  refine PL.op rfl (Rd.loadBox rfl rfl rfl) ?_
  refine PL.op rfl (Rd.moveT rfl) ?_
  refine PL.callM false [] (w_L_szBuffer N p_aB (1048576 : Int) r1 h_2) rfl Try.call11 rfl ⟨.aggL ⟨.t _, .t _, trivial⟩, .t _, trivial⟩ rfl trivial (fun h => by cases h) ?_
  refine PL.op rfl (Rd.asnT rfl) ?_
  refine PL.nil ?_
  refine thA_n ?_
  refine PC.seq ?_
  refine PC.seq ?_
  refine PC.region ?_
  refine PL.op rfl (Rd.moveT rfl) ?_
  refine PL.op rfl (Rd.lss rfl rfl) ?_
  refine PL.nil ?_
  refine thA_n ?_
  rcases cond_some hh0 with ⟨h_3, hh0⟩ | ⟨h_3, hh0⟩
  · refine PC.cond_true rfl h_3 ?_
    refine PC.seq ?_
    refine PC.region ?_
    refine PL.op rfl (Rd.asnT rfl) ?_
    refine PL.nil ?_
    refine thA_n ?_
    refine PC.ret ?_
    refine thA_r ?_
    obtain rfl := some_in hh0
    exact FinA.mk (r := bA true) (bl := []) [] (.inl rfl) rfl (rl := [.tmp 6]) (.tmp .nil) rfl rfl rfl (.t _) trivial ⟨rfl, rfl⟩
  refine PC.cond_false rfl h_3 ?_
  refine PC.skip ?_
  refine thA_n ?_
  refine PC.seq ?_
  obtain ⟨r4, h_5, hh0⟩ := bind_some hh0
  obtain ⟨r6, h_7, hh0⟩ := bind_some hh0
  refine PC.region ?_
  refine PL.op rfl (Rd.loadBox rfl rfl rfl) ?_
  refine PL.callM false [] (w_L_toBuffer N p_aB r4 h_5) rfl Try.call13 rfl ⟨.aggL ⟨.t _, .t _, trivial⟩, trivial⟩ rfl trivial (fun h => by cases h) ?_
  refine PL.nm (.agg [.os 1 0 r4.frames.length, iA r4.forced]) [some ⟨.mx [sL p_aB.frames, iA p_aB.forced], 24, 0⟩, some ⟨.tr (eL r4.frames), 59, 4⟩] rfl rfl ?_
  refine PL.op rfl (Rd.moveT rfl) ?_
  refine PL.op rfl (Rd.moveT rfl) ?_
  refine PL.callM true [] (w_S_TouchPage N r4 p_aPage p_aLsn r6 h_7) rfl Try.call24 rfl ⟨.aggL ⟨.own rfl (by first | decide | exact List.not_mem_nil) rfl rfl, .t _, trivial⟩, .t _, .t _, trivial⟩ rfl trivial (fun _ => ⟨⟨⟨trivial, trivial, trivial⟩, trivial, trivial⟩, (flat_cons flat_ow flat_nil)⟩) ?_
  refine PL.nm (.tup [.agg [.os 2 0 r6.1.frames.length, iA r6.1.forced], bA r6.2]) [some ⟨.mx [sL p_aB.frames, iA p_aB.forced], 24, 0⟩, some ⟨.tr (eL r4.frames), 59, 4⟩, some ⟨.tr (eL r6.1.frames), 59, 4⟩] rfl rfl ?_
  refine PL.op rfl (Rd.moveU rfl) ?_
  refine PL.op rfl (Rd.extract rfl rfl) ?_
  refine PL.op rfl (Rd.extract rfl rfl) ?_
  refine PL.ef rfl (Ef.alloc rfl rfl) ?_
  refine PL.nm (.op 3 0) [some ⟨.mx [sL p_aB.frames, iA p_aB.forced], 24, 0⟩, some ⟨.tr (eL r4.frames), 59, 4⟩, some ⟨.tr (eL r6.1.frames), 59, 4⟩, some ⟨.mx [.t (.v (.slice none 0 0)), iA (0 : Int)], 28, 0⟩] rfl rfl ?_
  refine PL.store rfl rfl rfl rfl rfl rfl rfl ?_
  refine PL.nO [some ⟨.mx [sL p_aB.frames, iA p_aB.forced], 24, 0⟩, some ⟨.tr (eL r4.frames), 59, 4⟩, some ⟨.tr (eL r6.1.frames), 59, 4⟩, some ⟨.mx [.os 2 0 r6.1.frames.length, iA r6.1.forced], 28, 0⟩] rfl ?_
  refine PL.op rfl (Rd.asnT rfl) ?_
  refine PL.nil ?_
  refine thA_n ?_
  refine PC.seq ?_
  obtain ⟨r8, h_9, hh0⟩ := bind_some hh0
  refine PC.region ?_
  refine PL.op rfl (Rd.loadBox rfl rfl rfl) ?_
  refine PL.callM false [] (w_L_toBuffer N p_aB r8 h_9) rfl Try.call13 rfl ⟨.aggL ⟨.t _, .t _, trivial⟩, trivial⟩ rfl trivial (fun h => by cases h) ?_
  refine PL.nm (.agg [.os 4 0 r8.frames.length, iA r8.forced]) [some ⟨.mx [sL p_aB.frames, iA p_aB.forced], 24, 0⟩, some ⟨.tr (eL r4.frames), 59, 4⟩, some ⟨.tr (eL r6.1.frames), 59, 4⟩, some ⟨.mx [.os 2 0 r6.1.frames.length, iA r6.1.forced], 28, 0⟩, some ⟨.tr (eL r8.frames), 59, 4⟩] rfl rfl ?_
  refine PL.ef rfl (Ef.alloc rfl rfl) ?_
  refine PL.nm (.op 5 0) [some ⟨.mx [sL p_aB.frames, iA p_aB.forced], 24, 0⟩, some ⟨.tr (eL r4.frames), 59, 4⟩, some ⟨.tr (eL r6.1.frames), 59, 4⟩, some ⟨.mx [.os 2 0 r6.1.frames.length, iA r6.1.forced], 28, 0⟩, some ⟨.tr (eL r8.frames), 59, 4⟩, some ⟨.mx [.t (.v (.slice none 0 0)), iA (0 : Int)], 28, 0⟩] rfl rfl ?_
  refine PL.store rfl rfl rfl rfl rfl rfl rfl ?_
  refine PL.nO [some ⟨.mx [sL p_aB.frames, iA p_aB.forced], 24, 0⟩, some ⟨.tr (eL r4.frames), 59, 4⟩, some ⟨.tr (eL r6.1.frames), 59, 4⟩, some ⟨.mx [.os 2 0 r6.1.frames.length, iA r6.1.forced], 28, 0⟩, some ⟨.tr (eL r8.frames), 59, 4⟩, some ⟨.mx [.os 4 0 r8.frames.length, iA r8.forced], 28, 0⟩] rfl ?_
  refine PL.nil ?_
  refine thA_n ?_
  refine PC.seq ?_
  obtain ⟨r10, h_11, hh0⟩ := bind_some hh0
  refine PC.region ?_
  refine PL.op rfl (Rd.loadBox rfl rfl rfl) ?_
  refine PL.op rfl (Rd.moveT rfl) ?_
  refine PL.op rfl (Rd.moveT rfl) ?_
  refine PL.callM true [] (w_I_TouchPage N r8 p_aPage p_aLsn r10 h_11) rfl Try.call23 rfl ⟨.aggL ⟨.own rfl (by first | decide | exact List.not_mem_nil) rfl rfl, .t _, trivial⟩, .t _, .t _, trivial⟩ rfl trivial (fun _ => ⟨⟨⟨trivial, trivial, trivial⟩, trivial, trivial⟩, (flat_cons flat_ow flat_nil)⟩) ?_
  refine PL.nm (.tup [.agg [.os 6 0 r10.1.frames.length, iA r10.1.forced], bA r10.2]) [some ⟨.mx [sL p_aB.frames, iA p_aB.forced], 24, 0⟩, some ⟨.tr (eL r4.frames), 59, 4⟩, some ⟨.tr (eL r6.1.frames), 59, 4⟩, some ⟨.mx [.os 2 0 r6.1.frames.length, iA r6.1.forced], 28, 0⟩, some ⟨.tr (eL r8.frames), 59, 4⟩, some ⟨.mx [.os 4 0 r8.frames.length, iA r8.forced], 28, 0⟩, some ⟨.tr (eL r10.1.frames), 59, 4⟩] rfl rfl ?_
  refine PL.op rfl (Rd.moveU rfl) ?_
  refine PL.op rfl (Rd.extract rfl rfl) ?_
  refine PL.op rfl (Rd.extract rfl rfl) ?_
  refine PL.ef rfl (Ef.alloc rfl rfl) ?_
  refine PL.nm (.op 7 0) [some ⟨.mx [sL p_aB.frames, iA p_aB.forced], 24, 0⟩, some ⟨.tr (eL r4.frames), 59, 4⟩, some ⟨.tr (eL r6.1.frames), 59, 4⟩, some ⟨.mx [.os 2 0 r6.1.frames.length, iA r6.1.forced], 28, 0⟩, some ⟨.tr (eL r8.frames), 59, 4⟩, some ⟨.mx [.os 4 0 r8.frames.length, iA r8.forced], 28, 0⟩, some ⟨.tr (eL r10.1.frames), 59, 4⟩, some ⟨.mx [.t (.v (.slice none 0 0)), iA (0 : Int)], 28, 0⟩] rfl rfl ?_
  refine PL.store rfl rfl rfl rfl rfl rfl rfl ?_
  refine PL.nO [some ⟨.mx [sL p_aB.frames, iA p_aB.forced], 24, 0⟩, some ⟨.tr (eL r4.frames), 59, 4⟩, some ⟨.tr (eL r6.1.frames), 59, 4⟩, some ⟨.mx [.os 2 0 r6.1.frames.length, iA r6.1.forced], 28, 0⟩, some ⟨.tr (eL r8.frames), 59, 4⟩, some ⟨.mx [.os 4 0 r8.frames.length, iA r8.forced], 28, 0⟩, some ⟨.tr (eL r10.1.frames), 59, 4⟩, some ⟨.mx [.os 6 0 r10.1.frames.length, iA r10.1.forced], 28, 0⟩] rfl ?_
  refine PL.op rfl (Rd.asnT rfl) ?_
  refine PL.nil ?_
  refine thA_n ?_
  refine PC.seq ?_
  refine PC.seq ?_
  obtain ⟨r12, h_13, hh0⟩ := bind_some hh0
  rcases cond_some hh0 with ⟨h_14, hh0⟩ | ⟨h_14, hh0⟩
  rotate_left
  · refine PC.region ?_
    refine PL.op rfl (Rd.loadBox rfl rfl rfl) ?_
    refine PL.op rfl (Rd.loadBox rfl rfl rfl) ?_
    refine PL.callM true [] (w_L_eqBuffer N r10.1 r6.1 r12 h_13) rfl Try.call15 rfl ⟨.aggL ⟨.own rfl (by first | decide | exact List.not_mem_nil) rfl rfl, .t _, trivial⟩, .aggL ⟨.own rfl (by first | decide | exact List.not_mem_nil) rfl rfl, .t _, trivial⟩, trivial⟩ rfl trivial (fun _ => ⟨trivial, flat_nil⟩) ?_
    refine PL.op rfl (Rd.unnot rfl) ?_
    refine PL.op rfl (Rd.moveT rfl) ?_
    refine PL.guard_off rfl rfl (not_f h_14) ?_
    refine PL.guard_off rfl rfl (not_f h_14) ?_
    refine PL.guard_off rfl rfl (not_f h_14) ?_
    refine PL.op rfl (Rd.pick_t rfl (not_f h_14)) ?_
    refine PL.nil ?_
    refine thA_n ?_
    refine PC.cond_true rfl rfl ?_
    refine PC.seq ?_
    refine PC.region ?_
    refine PL.op rfl (Rd.asnT rfl) ?_
    refine PL.nil ?_
    refine thA_n ?_
    refine PC.ret ?_
    refine thA_r ?_
    obtain rfl := some_in hh0
    exact FinA.mk (r := bA false) (bl := []) [] (.inl rfl) rfl (rl := [.tmp 6]) (.tmp .nil) rfl rfl rfl (.t _) trivial ⟨rfl, rfl⟩
  refine PC.region ?_
  refine PL.op rfl (Rd.loadBox rfl rfl rfl) ?_
  refine PL.op rfl (Rd.loadBox rfl rfl rfl) ?_
  refine PL.callM true [] (w_L_eqBuffer N r10.1 r6.1 r12 h_13) rfl Try.call15 rfl ⟨.aggL ⟨.own rfl (by first | decide | exact List.not_mem_nil) rfl rfl, .t _, trivial⟩, .aggL ⟨.own rfl (by first | decide | exact List.not_mem_nil) rfl rfl, .t _, trivial⟩, trivial⟩ rfl trivial (fun _ => ⟨trivial, flat_nil⟩) ?_
  refine PL.op rfl (Rd.unnot rfl) ?_
  refine PL.op rfl (Rd.moveT rfl) ?_
  refine PL.guard_on rfl (not_t h_14) ?_
  refine PL.op rfl (Rd.moveT rfl) ?_
  refine PL.guard_on rfl (not_t h_14) ?_
  refine PL.op rfl (Rd.moveT rfl) ?_
  refine PL.guard_on rfl (not_t h_14) ?_
  refine PL.op rfl (Rd.neqB rfl rfl) ?_
  refine PL.op rfl (Rd.pick_f rfl (not_t h_14)) ?_
  refine PL.nil ?_
  refine thA_n ?_
  rcases cond_some hh0 with ⟨h_15, hh0⟩ | ⟨h_15, hh0⟩
  rotate_left
  · refine PC.cond_true rfl (not_f h_15) ?_
    refine PC.seq ?_
    refine PC.region ?_
    refine PL.op rfl (Rd.asnT rfl) ?_
    refine PL.nil ?_
    refine thA_n ?_
    refine PC.ret ?_
    refine thA_r ?_
    obtain rfl := some_in hh0
    exact FinA.mk (r := bA false) (bl := []) [] (.inl rfl) rfl (rl := [.tmp 6]) (.tmp .nil) rfl rfl rfl (.t _) trivial ⟨rfl, rfl⟩
  refine PC.cond_false rfl (not_t h_15) ?_
  refine PC.skip ?_
  refine thA_n ?_
  refine PC.seq ?_
  refine PC.seq ?_
  obtain ⟨r16, h_17, hh0⟩ := bind_some hh0
  obtain ⟨r18, h_19, hh0⟩ := bind_some hh0
  refine PC.any (id := 10) 5 (.seg [0, 1, 2, 3, 4] .done) [] rfl (by kernel_rfl) rfl ?_
  refine PT.seg ?_
  refine PR.op rfl (Rd.loadBox rfl rfl rfl) ?_
  refine PR.op rfl (Rd.loadBox rfl rfl rfl) ?_
  refine PR.callM false [] (w_L_toBuffer N p_aB r16 h_17) rfl Try.call13 rfl ⟨.aggL ⟨.t _, .t _, trivial⟩, trivial⟩ rfl trivial (fun h => by cases h) rfl ?_
  refine PR.nm (.agg [.os 8 0 r16.frames.length, iA r16.forced]) [some ⟨.mx [sL p_aB.frames, iA p_aB.forced], 24, 0⟩, some ⟨.tr (eL r4.frames), 59, 4⟩, some ⟨.tr (eL r6.1.frames), 59, 4⟩, some ⟨.mx [.os 2 0 r6.1.frames.length, iA r6.1.forced], 28, 0⟩, some ⟨.tr (eL r8.frames), 59, 4⟩, some ⟨.mx [.os 4 0 r8.frames.length, iA r8.forced], 28, 0⟩, some ⟨.tr (eL r10.1.frames), 59, 4⟩, some ⟨.mx [.os 6 0 r10.1.frames.length, iA r10.1.forced], 28, 0⟩, some ⟨.tr (eL r16.frames), 59, 4⟩] rfl rfl ?_
  refine PR.callM true [] (w_L_eqBuffer N r8 r16 r18 h_19) rfl Try.call15 rfl ⟨.aggL ⟨.own rfl (by first | decide | exact List.not_mem_nil) rfl rfl, .t _, trivial⟩, .aggL ⟨.own rfl (by first | decide | exact List.not_mem_nil) rfl rfl, .t _, trivial⟩, trivial⟩ rfl trivial (fun _ => ⟨trivial, flat_nil⟩) rfl ?_
  refine PR.op rfl (Rd.unnot rfl) ?_
  refine PR.nil ?_
  refine PT.done ?_
  refine PL.nil ?_
  refine thA_n ?_
  rcases cond_some hh0 with ⟨h_20, hh0⟩ | ⟨h_20, hh0⟩
  rotate_left
  · refine PC.cond_true rfl (not_f h_20) ?_
    refine PC.seq ?_
    refine PC.region ?_
    refine PL.op rfl (Rd.asnT rfl) ?_
    refine PL.nil ?_
    refine thA_n ?_
    refine PC.ret ?_
    refine thA_r ?_
    obtain rfl := some_in hh0
    exact FinA.mk (r := bA false) (bl := []) [] (.inl rfl) rfl (rl := [.tmp 6]) (.tmp .nil) rfl rfl rfl (.t _) trivial ⟨rfl, rfl⟩
  refine PC.cond_false rfl (not_t h_20) ?_
  refine PC.skip ?_
  refine thA_n ?_
  refine PC.seq ?_
  refine PC.region ?_
  refine PL.op rfl (Rd.asnT rfl) ?_
  refine PL.nil ?_
  refine thA_n ?_
  refine PC.seq ?_
  obtain ⟨r21, h_22, hh0⟩ := bind_some hh0
  refine PC.region ?_
  refine PL.op rfl (Rd.loadBox rfl rfl rfl) ?_
  refine PL.op rfl (Rd.moveT rfl) ?_
  refine PL.callM false [4] (w_L_markBuffer N r8 (1 : Int) r21 h_22) rfl Try.call16 rfl ⟨.aggL ⟨.os rfl, .t _, trivial⟩, .t _, trivial⟩ rfl ⟨⟨_, rfl, rfl, rfl, .tr _⟩, trivial⟩ (fun h => by cases h) ?_
  refine PL.nm (iA r21.1) [some ⟨.mx [sL p_aB.frames, iA p_aB.forced], 24, 0⟩, some ⟨.tr (eL r4.frames), 59, 4⟩, some ⟨.tr (eL r6.1.frames), 59, 4⟩, some ⟨.mx [.os 2 0 r6.1.frames.length, iA r6.1.forced], 28, 0⟩, some ⟨.tr (eL r21.2), 59, 4⟩, some ⟨.mx [.os 4 0 r8.frames.length, iA r8.forced], 28, 0⟩, some ⟨.tr (eL r10.1.frames), 59, 4⟩, some ⟨.mx [.os 6 0 r10.1.frames.length, iA r10.1.forced], 28, 0⟩, some ⟨.tr (eL r16.frames), 59, 4⟩] rfl rfl ?_
  refine PL.op rfl (Rd.asnT rfl) ?_
  refine PL.nil ?_
  refine thA_n ?_
  refine PC.seq ?_
  refine PC.seq ?_
  rcases cond_some hh0 with ⟨h_23, hh0⟩ | ⟨h_23, hh0⟩
  · refine PC.region ?_
    refine PL.op rfl (Rd.moveT rfl) ?_
    refine PL.op rfl (Rd.lss rfl rfl) ?_
    refine PL.op rfl (Rd.moveT rfl) ?_
    refine PL.guard_off rfl rfl h_23 ?_
    refine PL.guard_off rfl rfl h_23 ?_
    refine PL.guard_off rfl rfl h_23 ?_
    refine PL.guard_off rfl rfl h_23 ?_
    refine PL.op rfl (Rd.pick_t rfl h_23) ?_
    refine PL.op rfl (Rd.moveT rfl) ?_
    refine PL.guard_off rfl rfl rfl ?_
    refine PL.guard_off rfl rfl rfl ?_
    refine PL.guard_off rfl rfl rfl ?_
    refine PL.op rfl (Rd.pick_t rfl rfl) ?_
    refine PL.nil ?_
    refine thA_n ?_
    refine PC.cond_true rfl rfl ?_
    refine PC.seq ?_
    refine PC.region ?_
    refine PL.op rfl (Rd.asnT rfl) ?_
    refine PL.nil ?_
    refine thA_n ?_
    refine PC.ret ?_
    refine thA_r ?_
    obtain rfl := some_in hh0
    exact FinA.mk (r := bA false) (bl := []) [] (.inl rfl) rfl (rl := [.tmp 6]) (.tmp .nil) rfl rfl rfl (.t _) trivial ⟨rfl, rfl⟩
  obtain ⟨r24, h_25, hh0⟩ := bind_some hh0
  rcases cond_some hh0 with ⟨h_26, hh0⟩ | ⟨h_26, hh0⟩
  rotate_left
  · refine PC.region ?_
    refine PL.op rfl (Rd.moveT rfl) ?_
    refine PL.op rfl (Rd.lss rfl rfl) ?_
    refine PL.op rfl (Rd.moveT rfl) ?_
    refine PL.guard_on rfl h_23 ?_
    refine PL.op rfl (Rd.loadBox rfl rfl rfl) ?_
    refine PL.guard_on rfl h_23 ?_
    refine PL.op rfl (Rd.loadBox rfl rfl rfl) ?_
    refine PL.guard_on rfl h_23 ?_
    refine PL.callM true [] (w_L_eqBuffer N r10.1 r6.1 r24 h_25) rfl Try.call15 rfl ⟨.aggL ⟨.own rfl (by first | decide | exact List.not_mem_nil) rfl rfl, .t _, trivial⟩, .aggL ⟨.own rfl (by first | decide | exact List.not_mem_nil) rfl rfl, .t _, trivial⟩, trivial⟩ rfl trivial (fun _ => ⟨trivial, flat_nil⟩) ?_
    refine PL.guard_on rfl h_23 ?_
    refine PL.op rfl (Rd.unnot rfl) ?_
    refine PL.op rfl (Rd.pick_f rfl h_23) ?_
    refine PL.op rfl (Rd.moveT rfl) ?_
    refine PL.guard_off rfl rfl (not_f h_26) ?_
    refine PL.guard_off rfl rfl (not_f h_26) ?_
    refine PL.guard_off rfl rfl (not_f h_26) ?_
    refine PL.op rfl (Rd.pick_t rfl (not_f h_26)) ?_
    refine PL.nil ?_
    refine thA_n ?_
    refine PC.cond_true rfl rfl ?_
    refine PC.seq ?_
    refine PC.region ?_
    refine PL.op rfl (Rd.asnT rfl) ?_
    refine PL.nil ?_
    refine thA_n ?_
    refine PC.ret ?_
    refine thA_r ?_
    obtain rfl := some_in hh0
    exact FinA.mk (r := bA false) (bl := []) [] (.inl rfl) rfl (rl := [.tmp 6]) (.tmp .nil) rfl rfl rfl (.t _) trivial ⟨rfl, rfl⟩
  refine PC.region ?_
  refine PL.op rfl (Rd.moveT rfl) ?_
  refine PL.op rfl (Rd.lss rfl rfl) ?_
  refine PL.op rfl (Rd.moveT rfl) ?_
  refine PL.guard_on rfl h_23 ?_
  refine PL.op rfl (Rd.loadBox rfl rfl rfl) ?_
  refine PL.guard_on rfl h_23 ?_
  refine PL.op rfl (Rd.loadBox rfl rfl rfl) ?_
  refine PL.guard_on rfl h_23 ?_
  refine PL.callM true [] (w_L_eqBuffer N r10.1 r6.1 r24 h_25) rfl Try.call15 rfl ⟨.aggL ⟨.own rfl (by first | decide | exact List.not_mem_nil) rfl rfl, .t _, trivial⟩, .aggL ⟨.own rfl (by first | decide | exact List.not_mem_nil) rfl rfl, .t _, trivial⟩, trivial⟩ rfl trivial (fun _ => ⟨trivial, flat_nil⟩) ?_
  refine PL.guard_on rfl h_23 ?_
  refine PL.op rfl (Rd.unnot rfl) ?_
  refine PL.op rfl (Rd.pick_f rfl h_23) ?_
  refine PL.op rfl (Rd.moveT rfl) ?_
  refine PL.guard_on rfl (not_t h_26) ?_
  refine PL.op rfl (Rd.moveT rfl) ?_
  refine PL.guard_on rfl (not_t h_26) ?_
  refine PL.op rfl (Rd.moveT rfl) ?_
  refine PL.guard_on rfl (not_t h_26) ?_
  refine PL.op rfl (Rd.neqB rfl rfl) ?_
  refine PL.op rfl (Rd.pick_f rfl (not_t h_26)) ?_
  refine PL.nil ?_
  refine thA_n ?_
  refine PC.cond_false rfl (not_t h_15) ?_
  refine PC.skip ?_
  refine thA_n ?_
  refine PC.seq ?_
  refine PC.region ?_
  refine PL.op rfl (Rd.asnT rfl) ?_
  refine PL.nil ?_
  refine thA_n ?_
  refine PC.seq ?_
  obtain ⟨r27, h_28, hh0⟩ := bind_some hh0
  refine PC.region ?_
  refine PL.op rfl (Rd.loadBox rfl rfl rfl) ?_
  refine PL.op rfl (Rd.moveT rfl) ?_
  refine PL.callM false [6] (w_L_markBuffer N r10.1 (1 : Int) r27 h_28) rfl Try.call16 rfl ⟨.aggL ⟨.os rfl, .t _, trivial⟩, .t _, trivial⟩ rfl ⟨⟨_, rfl, rfl, rfl, .tr _⟩, trivial⟩ (fun h => by cases h) ?_
  refine PL.nm (iA r27.1) [some ⟨.mx [sL p_aB.frames, iA p_aB.forced], 24, 0⟩, some ⟨.tr (eL r4.frames), 59, 4⟩, some ⟨.tr (eL r6.1.frames), 59, 4⟩, some ⟨.mx [.os 2 0 r6.1.frames.length, iA r6.1.forced], 28, 0⟩, some ⟨.tr (eL r21.2), 59, 4⟩, some ⟨.mx [.os 4 0 r8.frames.length, iA r8.forced], 28, 0⟩, some ⟨.tr (eL r27.2), 59, 4⟩, some ⟨.mx [.os 6 0 r10.1.frames.length, iA r10.1.forced], 28, 0⟩, some ⟨.tr (eL r16.frames), 59, 4⟩] rfl rfl ?_
  refine PL.op rfl (Rd.asnT rfl) ?_
  refine PL.nil ?_
  refine thA_n ?_
  refine PC.seq ?_
  refine PC.region ?_
  refine PL.op rfl (Rd.asnT rfl) ?_
  refine PL.nil ?_
  refine thA_n ?_
  refine PC.seq ?_
  obtain ⟨r29, h_30, hh0⟩ := bind_some hh0
  refine PC.region ?_
  refine PL.op rfl (Rd.loadBox rfl rfl rfl) ?_
  refine PL.op rfl (Rd.moveT rfl) ?_
  refine PL.callM true [] (w_L_heldBuffer N (I_Buffer.mk r27.2 r10.1.forced) (1 : Int) r29 h_30) rfl Try.call17 rfl ⟨.aggL ⟨.own rfl (by first | decide | exact List.not_mem_nil) (by simp only [List.length_set, len_L_markBuffer N _ _ _ h_28]) rfl, .t _, trivial⟩, .t _, trivial⟩ rfl trivial (fun _ => ⟨trivial, flat_nil⟩) ?_
  refine PL.op rfl (Rd.asnT rfl) ?_
  refine PL.nil ?_
  refine thA_n ?_
  refine PC.seq ?_
  refine PC.seq ?_
  refine PC.region ?_
  refine PL.op rfl (Rd.moveT rfl) ?_
  refine PL.op rfl (Rd.lss rfl rfl) ?_
  refine PL.nil ?_
  refine thA_n ?_
  rcases cond_some hh0 with ⟨h_31, hh0⟩ | ⟨h_31, hh0⟩
  · refine PC.cond_true rfl h_31 ?_
    refine PC.seq ?_
    refine PC.region ?_
    refine PL.op rfl (Rd.asnT rfl) ?_
    refine PL.nil ?_
    refine thA_n ?_
    refine PC.ret ?_
    refine thA_r ?_
    obtain rfl := some_in hh0
    exact FinA.mk (r := bA false) (bl := []) [] (.inl rfl) rfl (rl := [.tmp 6]) (.tmp .nil) rfl rfl rfl (.t _) trivial ⟨rfl, rfl⟩
  refine PC.cond_false rfl h_31 ?_
  refine PC.skip ?_
  refine thA_n ?_
  refine PC.seq ?_
  refine PC.seq ?_
  refine PC.region ?_
  refine PL.op rfl (Rd.moveT rfl) ?_
  refine PL.op rfl (Rd.moveT rfl) ?_
  refine PL.op rfl (Rd.neq rfl rfl) ?_
  refine PL.nil ?_
  refine thA_n ?_
  rcases cond_some hh0 with ⟨h_32, hh0⟩ | ⟨h_32, hh0⟩
  rotate_left
  · refine PC.cond_true rfl (not_f h_32) ?_
    refine PC.seq ?_
    refine PC.region ?_
    refine PL.op rfl (Rd.asnT rfl) ?_
    refine PL.nil ?_
    refine thA_n ?_
    refine PC.ret ?_
    refine thA_r ?_
    obtain rfl := some_in hh0
    exact FinA.mk (r := bA false) (bl := []) [] (.inl rfl) rfl (rl := [.tmp 6]) (.tmp .nil) rfl rfl rfl (.t _) trivial ⟨rfl, rfl⟩
  refine PC.cond_false rfl (not_t h_32) ?_
  refine PC.skip ?_
  refine thA_n ?_
  refine PC.seq ?_
  obtain ⟨r33, h_34, hh0⟩ := bind_some hh0
  obtain ⟨r35, h_36, hh0⟩ := bind_some hh0
  refine PC.region ?_
  refine PL.op rfl (Rd.loadBox rfl rfl rfl) ?_
  refine PL.callM false [] (w_L_toBuffer N p_aB r33 h_34) rfl Try.call13 rfl ⟨.aggL ⟨.t _, .t _, trivial⟩, trivial⟩ rfl trivial (fun h => by cases h) ?_
  refine PL.nm (.agg [.os 9 0 r33.frames.length, iA r33.forced]) [some ⟨.mx [sL p_aB.frames, iA p_aB.forced], 24, 0⟩, some ⟨.tr (eL r4.frames), 59, 4⟩, some ⟨.tr (eL r6.1.frames), 59, 4⟩, some ⟨.mx [.os 2 0 r6.1.frames.length, iA r6.1.forced], 28, 0⟩, some ⟨.tr (eL r21.2), 59, 4⟩, some ⟨.mx [.os 4 0 r8.frames.length, iA r8.forced], 28, 0⟩, some ⟨.tr (eL r27.2), 59, 4⟩, some ⟨.mx [.os 6 0 r10.1.frames.length, iA r10.1.forced], 28, 0⟩, some ⟨.tr (eL r16.frames), 59, 4⟩, some ⟨.tr (eL r33.frames), 59, 4⟩] rfl rfl ?_
  refine PL.op rfl (Rd.moveT rfl) ?_
  refine PL.op rfl (Rd.moveT rfl) ?_
  refine PL.callM true [] (w_I_TouchPage N r33 p_aPage p_aLsn r35 h_36) rfl Try.call23 rfl ⟨.aggL ⟨.own rfl (by first | decide | exact List.not_mem_nil) rfl rfl, .t _, trivial⟩, .t _, .t _, trivial⟩ rfl trivial (fun _ => ⟨⟨⟨trivial, trivial, trivial⟩, trivial, trivial⟩, (flat_cons flat_ow flat_nil)⟩) ?_
  refine PL.nm (.tup [.agg [.os 10 0 r35.1.frames.length, iA r35.1.forced], bA r35.2]) [some ⟨.mx [sL p_aB.frames, iA p_aB.forced], 24, 0⟩, some ⟨.tr (eL r4.frames), 59, 4⟩, some ⟨.tr (eL r6.1.frames), 59, 4⟩, some ⟨.mx [.os 2 0 r6.1.frames.length, iA r6.1.forced], 28, 0⟩, some ⟨.tr (eL r21.2), 59, 4⟩, some ⟨.mx [.os 4 0 r8.frames.length, iA r8.forced], 28, 0⟩, some ⟨.tr (eL r27.2), 59, 4⟩, some ⟨.mx [.os 6 0 r10.1.frames.length, iA r10.1.forced], 28, 0⟩, some ⟨.tr (eL r16.frames), 59, 4⟩, some ⟨.tr (eL r33.frames), 59, 4⟩, some ⟨.tr (eL r35.1.frames), 59, 4⟩] rfl rfl ?_
  refine PL.op rfl (Rd.moveU rfl) ?_
  refine PL.op rfl (Rd.extract rfl rfl) ?_
  refine PL.op rfl (Rd.extract rfl rfl) ?_
  refine PL.ef rfl (Ef.alloc rfl rfl) ?_
  refine PL.nm (.op 11 0) [some ⟨.mx [sL p_aB.frames, iA p_aB.forced], 24, 0⟩, some ⟨.tr (eL r4.frames), 59, 4⟩, some ⟨.tr (eL r6.1.frames), 59, 4⟩, some ⟨.mx [.os 2 0 r6.1.frames.length, iA r6.1.forced], 28, 0⟩, some ⟨.tr (eL r21.2), 59, 4⟩, some ⟨.mx [.os 4 0 r8.frames.length, iA r8.forced], 28, 0⟩, some ⟨.tr (eL r27.2), 59, 4⟩, some ⟨.mx [.os 6 0 r10.1.frames.length, iA r10.1.forced], 28, 0⟩, some ⟨.tr (eL r16.frames), 59, 4⟩, some ⟨.tr (eL r33.frames), 59, 4⟩, some ⟨.tr (eL r35.1.frames), 59, 4⟩, some ⟨.mx [.t (.v (.slice none 0 0)), iA (0 : Int)], 28, 0⟩] rfl rfl ?_
  refine PL.store rfl rfl rfl rfl rfl rfl rfl ?_
  refine PL.nO [some ⟨.mx [sL p_aB.frames, iA p_aB.forced], 24, 0⟩, some ⟨.tr (eL r4.frames), 59, 4⟩, some ⟨.tr (eL r6.1.frames), 59, 4⟩, some ⟨.mx [.os 2 0 r6.1.frames.length, iA r6.1.forced], 28, 0⟩, some ⟨.tr (eL r21.2), 59, 4⟩, some ⟨.mx [.os 4 0 r8.frames.length, iA r8.forced], 28, 0⟩, some ⟨.tr (eL r27.2), 59, 4⟩, some ⟨.mx [.os 6 0 r10.1.frames.length, iA r10.1.forced], 28, 0⟩, some ⟨.tr (eL r16.frames), 59, 4⟩, some ⟨.tr (eL r33.frames), 59, 4⟩, some ⟨.tr (eL r35.1.frames), 59, 4⟩, some ⟨.mx [.os 10 0 r35.1.frames.length, iA r35.1.forced], 28, 0⟩] rfl ?_
  refine PL.op rfl (Rd.asnT rfl) ?_
  refine PL.nil ?_
  refine thA_n ?_
  refine PC.seq ?_
  refine PC.seq ?_
  obtain ⟨r37, h_38, hh0⟩ := bind_some hh0
  rcases cond_some hh0 with ⟨h_39, hh0⟩ | ⟨h_39, hh0⟩
  rotate_left
  · refine PC.region ?_
    refine PL.op rfl (Rd.loadBox rfl rfl rfl) ?_
    refine PL.op rfl (Rd.loadBox rfl rfl rfl) ?_
    refine PL.callM true [] (w_L_eqBuffer N r35.1 r6.1 r37 h_38) rfl Try.call15 rfl ⟨.aggL ⟨.own rfl (by first | decide | exact List.not_mem_nil) rfl rfl, .t _, trivial⟩, .aggL ⟨.own rfl (by first | decide | exact List.not_mem_nil) rfl rfl, .t _, trivial⟩, trivial⟩ rfl trivial (fun _ => ⟨trivial, flat_nil⟩) ?_
    refine PL.op rfl (Rd.unnot rfl) ?_
    refine PL.op rfl (Rd.moveT rfl) ?_
    refine PL.guard_off rfl rfl (not_f h_39) ?_
    refine PL.guard_off rfl rfl (not_f h_39) ?_
    refine PL.guard_off rfl rfl (not_f h_39) ?_
    refine PL.op rfl (Rd.pick_t rfl (not_f h_39)) ?_
    refine PL.nil ?_
    refine thA_n ?_
    refine PC.cond_true rfl rfl ?_
    refine PC.seq ?_
    refine PC.region ?_
    refine PL.op rfl (Rd.asnT rfl) ?_
    refine PL.nil ?_
    refine thA_n ?_
    refine PC.ret ?_
    refine thA_r ?_
    obtain rfl := some_in hh0
    exact FinA.mk (r := bA false) (bl := []) [] (.inl rfl) rfl (rl := [.tmp 6]) (.tmp .nil) rfl rfl rfl (.t _) trivial ⟨rfl, rfl⟩
  refine PC.region ?_
  refine PL.op rfl (Rd.loadBox rfl rfl rfl) ?_
  refine PL.op rfl (Rd.loadBox rfl rfl rfl) ?_
  refine PL.callM true [] (w_L_eqBuffer N r35.1 r6.1 r37 h_38) rfl Try.call15 rfl ⟨.aggL ⟨.own rfl (by first | decide | exact List.not_mem_nil) rfl rfl, .t _, trivial⟩, .aggL ⟨.own rfl (by first | decide | exact List.not_mem_nil) rfl rfl, .t _, trivial⟩, trivial⟩ rfl trivial (fun _ => ⟨trivial, flat_nil⟩) ?_
  refine PL.op rfl (Rd.unnot rfl) ?_
  refine PL.op rfl (Rd.moveT rfl) ?_
  refine PL.guard_on rfl (not_t h_39) ?_
  refine PL.op rfl (Rd.moveT rfl) ?_
  refine PL.guard_on rfl (not_t h_39) ?_
  refine PL.op rfl (Rd.moveT rfl) ?_
  refine PL.guard_on rfl (not_t h_39) ?_
  refine PL.op rfl (Rd.neqB rfl rfl) ?_
  refine PL.op rfl (Rd.pick_f rfl (not_t h_39)) ?_
  refine PL.nil ?_
  refine thA_n ?_
  rcases cond_some hh0 with ⟨h_40, hh0⟩ | ⟨h_40, hh0⟩
  rotate_left
  · refine PC.cond_true rfl (not_f h_40) ?_
    refine PC.seq ?_
    refine PC.region ?_
    refine PL.op rfl (Rd.asnT rfl) ?_
    refine PL.nil ?_
    refine thA_n ?_
    refine PC.ret ?_
    refine thA_r ?_
    obtain rfl := some_in hh0
    exact FinA.mk (r := bA false) (bl := []) [] (.inl rfl) rfl (rl := [.tmp 6]) (.tmp .nil) rfl rfl rfl (.t _) trivial ⟨rfl, rfl⟩
  refine PC.cond_false rfl (not_t h_40) ?_
  refine PC.skip ?_
  refine thA_n ?_
  refine PC.seq ?_
  refine PC.region ?_
  refine PL.op rfl (Rd.asnT rfl) ?_
  refine PL.nil ?_
  refine thA_n ?_
  refine PC.seq ?_
  obtain ⟨r41, h_42, hh0⟩ := bind_some hh0
  refine PC.region ?_
  refine PL.op rfl (Rd.loadBox rfl rfl rfl) ?_
  refine PL.op rfl (Rd.moveT rfl) ?_
  refine PL.callM true [] (w_L_heldBuffer N (I_Buffer.mk r27.2 r10.1.forced) (1 : Int) r41 h_42) rfl Try.call17 rfl ⟨.aggL ⟨.own rfl (by first | decide | exact List.not_mem_nil) (by simp only [List.length_set, len_L_markBuffer N _ _ _ h_28]) rfl, .t _, trivial⟩, .t _, trivial⟩ rfl trivial (fun _ => ⟨trivial, flat_nil⟩) ?_
  refine PL.op rfl (Rd.asnT rfl) ?_
  refine PL.nil ?_
  refine thA_n ?_
  refine PC.seq ?_
  refine PC.seq ?_
  refine PC.region ?_
  refine PL.op rfl (Rd.moveT rfl) ?_
  refine PL.op rfl (Rd.lss rfl rfl) ?_
  refine PL.nil ?_
  refine thA_n ?_
  rcases cond_some hh0 with ⟨h_43, hh0⟩ | ⟨h_43, hh0⟩
  · refine PC.cond_true rfl h_43 ?_
    refine PC.seq ?_
    refine PC.region ?_
    refine PL.op rfl (Rd.asnT rfl) ?_
    refine PL.nil ?_
    refine thA_n ?_
    refine PC.ret ?_
    refine thA_r ?_
    obtain rfl := some_in hh0
    exact FinA.mk (r := bA false) (bl := []) [] (.inl rfl) rfl (rl := [.tmp 6]) (.tmp .nil) rfl rfl rfl (.t _) trivial ⟨rfl, rfl⟩
  refine PC.cond_false rfl h_43 ?_
  refine PC.skip ?_
  refine thA_n ?_
  refine PC.seq ?_
  refine PC.seq ?_
  refine PC.region ?_
  refine PL.op rfl (Rd.moveT rfl) ?_
  refine PL.op rfl (Rd.moveT rfl) ?_
  refine PL.op rfl (Rd.neq rfl rfl) ?_
  refine PL.nil ?_
  refine thA_n ?_
  rcases cond_some hh0 with ⟨h_44, hh0⟩ | ⟨h_44, hh0⟩
  rotate_left
  · refine PC.cond_true rfl (not_f h_44) ?_
    refine PC.seq ?_
    refine PC.region ?_
    refine PL.op rfl (Rd.asnT rfl) ?_
    refine PL.nil ?_
    refine thA_n ?_
    refine PC.ret ?_
    refine thA_r ?_
    obtain rfl := some_in hh0
    exact FinA.mk (r := bA false) (bl := []) [] (.inl rfl) rfl (rl := [.tmp 6]) (.tmp .nil) rfl rfl rfl (.t _) trivial ⟨rfl, rfl⟩
  refine PC.cond_false rfl (not_t h_44) ?_
  refine PC.skip ?_
  refine thA_n ?_
  refine PC.seq ?_
  refine PC.region ?_
  refine PL.op rfl (Rd.asnT rfl) ?_
  refine PL.nil ?_
  refine thA_n ?_
  refine PC.ret ?_
  obtain rfl := some_in hh0
  exact FinA.mk (r := bA true) (bl := []) [] (.inl rfl) rfl (rl := [.tmp 6]) (.tmp .nil) rfl rfl rfl (.t _) trivial ⟨rfl, rfl⟩

end V
end Go.Proofs.Ytifcacahgiihoaa
