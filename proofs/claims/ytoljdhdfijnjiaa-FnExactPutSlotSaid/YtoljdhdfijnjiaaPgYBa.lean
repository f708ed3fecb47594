/- Pages: an exact law's function. No condition. -/
import Derived.Test.YtoljdhdfijnjiaaPlPgX
namespace Go.Proofs.Ytoljdhdfijnjiaa
namespace V
open Enc (enc)
set_option linter.unusedVariables false
set_option linter.unusedSimpArgs false
set_option maxHeartbeats 4000000
set_option maxRecDepth 100000
open Go.RowKit
attribute [local irreducible] thA inA FinA eL

def m_L_FnExactSetSlot (N : Nat) (p_aP : L_Page) (p_aAt : Int) (p_aData : ByteArray) : Option (Bool) :=
  cond (decide ((1048576 : Int) < (p_aData.size : Int)))
    (some true)
    ((m_L_szPage N p_aP (1048576 : Int)).bind fun r2 =>
    cond (decide (r2 < (0 : Int)))
      (some true)
      ((m_L_toPage N p_aP).bind fun r5 =>
      (m_S_SetSlot N r5 p_aAt p_aData).bind fun r7 =>
      (m_L_toPage N p_aP).bind fun r9 =>
      (m_I_SetSlot N r9 p_aAt p_aData).bind fun r11 =>
      (m_L_eqPage N r11.1 r7.1).bind fun r13 =>
      cond r13
        (cond (r11.2 == r7.2)
          ((m_L_toPage N p_aP).bind fun r17 =>
          (m_L_eqPage N r9 r17).bind fun r19 =>
          cond r19
            ((m_L_markPage N r9 (1 : Int)).bind fun r22 =>
            cond (decide (r22.1 < (0 : Int)))
              (some false)
              ((m_L_eqPage N r11.1 r7.1).bind fun r25 =>
              cond r25
                ((m_L_markPage N r11.1 (1 : Int)).bind fun r28 =>
                (m_L_heldPage N (I_Page.mk r28.2) (1 : Int)).bind fun r30 =>
                cond (decide (r30 < (0 : Int)))
                  (some false)
                  (cond (decide (r30 = r28.1))
                    ((m_L_toPage N p_aP).bind fun r34 =>
                    (m_I_SetSlot N r34 p_aAt p_aData).bind fun r36 =>
                    (m_L_eqPage N r36.1 r7.1).bind fun r38 =>
                    cond r38
                      (cond (r36.2 == r7.2)
                        ((m_L_heldPage N (I_Page.mk r28.2) (1 : Int)).bind fun r42 =>
                        cond (decide (r42 < (0 : Int)))
                          (some false)
                          (cond (decide (r42 = r28.1))
                            (some true)
                            (some false)))
                        (some false))
                      (some false))
                    (some false)))
                (some false)))
            (some false))
          (some false))
        (some false)))
theorem w_L_FnExactSetSlot (N : Nat) (p_aP : L_Page) (p_aAt : Int) (p_aData : ByteArray) (r : Bool) (hh0 : m_L_FnExactSetSlot N p_aP p_aAt p_aData = some r) : FnX Try.prog 10 [] [.agg [sL p_aP.slots], iA p_aAt, sA p_aData] (RE (bA r) []) := by
  unfold m_L_FnExactSetSlot at hh0
  refine FnX.mk Try.func10 rfl rfl ?_
  intro s hs
  refine PC.seq ?_
  refine PC.region ?_
  refine PL.ef rfl (Ef.box rfl rfl rfl) ?_
  refine PL.nm (.op 0 0) [some ⟨.mx [sL p_aP.slots], 48, 0⟩] rfl rfl ?_
  refine PL.op rfl (Rd.asnT rfl) ?_
  refine PL.nil ?_
  refine thA_n ?_
  refine PC.seq ?_
  refine PC.seq ?_
  refine PC.region ?_
  refine PL.op rfl (Rd.moveT rfl) ?_
  refine PL.op rfl (Rd.lenSt rfl) ?_
  refine PL.op rfl (Rd.gtr rfl rfl) ?_
  refine PL.nil ?_
  refine thA_n ?_
  rcases cond_some hh0 with ⟨h_1, hh0⟩ | ⟨h_1, hh0⟩
  · refine PC.cond_true rfl h_1 ?_
    refine PC.seq ?_
    refine PC.region ?_
    refine PL.op rfl (Rd.asnT rfl) ?_
    refine PL.nil ?_
    refine thA_n ?_
    refine PC.ret ?_
    refine thA_r ?_
    obtain rfl := some_in hh0
    exact FinA.mk (r := bA true) (bl := []) [] (.inl rfl) rfl (rl := [.tmp 6]) (.tmp .nil) rfl rfl rfl (.t _) trivial ⟨rfl, rfl⟩
  refine PC.cond_false rfl h_1 ?_
  refine PC.skip ?_
  refine thA_n ?_
  refine PC.seq ?_
  refine PC.region ?_
  refine PL.op rfl (Rd.asnT rfl) ?_
  refine PL.nil ?_
  refine thA_n ?_
  refine PC.seq ?_
  obtain ⟨r2, h_3, hh0⟩ := bind_some hh0
  refine PC.region ?_
  refine PL.op rfl (Rd.loadBox rfl rfl rfl) ?_
  refine PL.op rfl (Rd.moveT rfl) ?_
  refine PL.callM false [] (w_L_szPage N p_aP (1048576 : Int) r2 h_3) rfl Try.call34 rfl ⟨.aggL ⟨.t _, trivial⟩, .t _, trivial⟩ rfl trivial (fun h => by cases h) ?_
  refine PL.op rfl (Rd.asnT rfl) ?_
  refine PL.nil ?_
  refine thA_n ?_
  refine PC.seq ?_
  refine PC.seq ?_
  refine PC.region ?_
  refine PL.op rfl (Rd.moveT rfl) ?_
  refine PL.op rfl (Rd.lss rfl rfl) ?_
  refine PL.nil ?_
  refine thA_n ?_
  rcases cond_some hh0 with ⟨h_4, hh0⟩ | ⟨h_4, hh0⟩
  · refine PC.cond_true rfl h_4 ?_
    refine PC.seq ?_
    refine PC.region ?_
    refine PL.op rfl (Rd.asnT rfl) ?_
    refine PL.nil ?_
    refine thA_n ?_
    refine PC.ret ?_
    refine thA_r ?_
    obtain rfl := some_in hh0
    exact FinA.mk (r := bA true) (bl := []) [] (.inl rfl) rfl (rl := [.tmp 6]) (.tmp .nil) rfl rfl rfl (.t _) trivial ⟨rfl, rfl⟩
  refine PC.cond_false rfl h_4 ?_
  refine PC.skip ?_
  refine thA_n ?_
  refine PC.seq ?_
  obtain ⟨r5, h_6, hh0⟩ := bind_some hh0
  obtain ⟨r7, h_8, hh0⟩ := bind_some hh0
  refine PC.region ?_
  refine PL.op rfl (Rd.loadBox rfl rfl rfl) ?_
  refine PL.callM false [] (w_L_toPage N p_aP r5 h_6) rfl Try.call35 rfl ⟨.aggL ⟨.t _, trivial⟩, trivial⟩ rfl trivial (fun h => by cases h) ?_
  refine PL.nm (.agg [.os 1 0 r5.slots.length]) [some ⟨.mx [sL p_aP.slots], 48, 0⟩, some ⟨.tr (eL r5.slots), 35, 2⟩] rfl rfl ?_
  refine PL.op rfl (Rd.moveT rfl) ?_
  refine PL.op rfl (Rd.moveT rfl) ?_
  refine PL.callM true [] (w_S_SetSlot N r5 p_aAt p_aData r7 h_8) rfl Try.call30 rfl ⟨.aggL ⟨.own rfl (by first | decide | exact List.not_mem_nil) rfl rfl, trivial⟩, .t _, .t _, trivial⟩ rfl trivial (fun _ => ⟨⟨⟨trivial, trivial⟩, trivial, trivial⟩, (flat_cons flat_ow flat_nil)⟩) ?_
  refine PL.nm (.tup [.agg [.os 2 0 r7.1.slots.length], bA r7.2]) [some ⟨.mx [sL p_aP.slots], 48, 0⟩, some ⟨.tr (eL r5.slots), 35, 2⟩, some ⟨.tr (eL r7.1.slots), 35, 2⟩] rfl rfl ?_
  refine PL.op rfl (Rd.moveU rfl) ?_
  refine PL.op rfl (Rd.extract rfl rfl) ?_
  refine PL.op rfl (Rd.extract rfl rfl) ?_
  refine PL.ef rfl (Ef.alloc rfl rfl) ?_
  refine PL.nm (.op 3 0) [some ⟨.mx [sL p_aP.slots], 48, 0⟩, some ⟨.tr (eL r5.slots), 35, 2⟩, some ⟨.tr (eL r7.1.slots), 35, 2⟩, some ⟨.mx [.t (.v (.slice none 0 0))], 25, 0⟩] rfl rfl ?_
  refine PL.store rfl rfl rfl rfl rfl rfl rfl ?_
  refine PL.nO [some ⟨.mx [sL p_aP.slots], 48, 0⟩, some ⟨.tr (eL r5.slots), 35, 2⟩, some ⟨.tr (eL r7.1.slots), 35, 2⟩, some ⟨.mx [.os 2 0 r7.1.slots.length], 25, 0⟩] rfl ?_
  refine PL.op rfl (Rd.asnT rfl) ?_
  refine PL.nil ?_
  refine thA_n ?_
  refine PC.seq ?_
  obtain ⟨r9, h_10, hh0⟩ := bind_some hh0
  refine PC.region ?_
  refine PL.op rfl (Rd.loadBox rfl rfl rfl) ?_
  refine PL.callM false [] (w_L_toPage N p_aP r9 h_10) rfl Try.call35 rfl ⟨.aggL ⟨.t _, trivial⟩, trivial⟩ rfl trivial (fun h => by cases h) ?_
  refine PL.nm (.agg [.os 4 0 r9.slots.length]) [some ⟨.mx [sL p_aP.slots], 48, 0⟩, some ⟨.tr (eL r5.slots), 35, 2⟩, some ⟨.tr (eL r7.1.slots), 35, 2⟩, some ⟨.mx [.os 2 0 r7.1.slots.length], 25, 0⟩, some ⟨.tr (eL r9.slots), 35, 2⟩] rfl rfl ?_
  refine PL.ef rfl (Ef.alloc rfl rfl) ?_
  refine PL.nm (.op 5 0) [some ⟨.mx [sL p_aP.slots], 48, 0⟩, some ⟨.tr (eL r5.slots), 35, 2⟩, some ⟨.tr (eL r7.1.slots), 35, 2⟩, some ⟨.mx [.os 2 0 r7.1.slots.length], 25, 0⟩, some ⟨.tr (eL r9.slots), 35, 2⟩, some ⟨.mx [.t (.v (.slice none 0 0))], 25, 0⟩] rfl rfl ?_
  refine PL.store rfl rfl rfl rfl rfl rfl rfl ?_
  refine PL.nO [some ⟨.mx [sL p_aP.slots], 48, 0⟩, some ⟨.tr (eL r5.slots), 35, 2⟩, some ⟨.tr (eL r7.1.slots), 35, 2⟩, some ⟨.mx [.os 2 0 r7.1.slots.length], 25, 0⟩, some ⟨.tr (eL r9.slots), 35, 2⟩, some ⟨.mx [.os 4 0 r9.slots.length], 25, 0⟩] rfl ?_
  refine PL.nil ?_
  refine thA_n ?_
  refine PC.seq ?_
  obtain ⟨r11, h_12, hh0⟩ := bind_some hh0
  refine PC.region ?_
  refine PL.op rfl (Rd.loadBox rfl rfl rfl) ?_
  refine PL.op rfl (Rd.moveT rfl) ?_
  refine PL.op rfl (Rd.moveT rfl) ?_
  refine PL.callM true [] (w_I_SetSlot N r9 p_aAt p_aData r11 h_12) rfl Try.call29 rfl ⟨.aggL ⟨.own rfl (by first | decide | exact List.not_mem_nil) rfl rfl, trivial⟩, .t _, .t _, trivial⟩ rfl trivial (fun _ => ⟨⟨⟨trivial, trivial⟩, trivial, trivial⟩, (flat_cons flat_ow flat_nil)⟩) ?_
  refine PL.nm (.tup [.agg [.os 6 0 r11.1.slots.length], bA r11.2]) [some ⟨.mx [sL p_aP.slots], 48, 0⟩, some ⟨.tr (eL r5.slots), 35, 2⟩, some ⟨.tr (eL r7.1.slots), 35, 2⟩, some ⟨.mx [.os 2 0 r7.1.slots.length], 25, 0⟩, some ⟨.tr (eL r9.slots), 35, 2⟩, some ⟨.mx [.os 4 0 r9.slots.length], 25, 0⟩, some ⟨.tr (eL r11.1.slots), 35, 2⟩] rfl rfl ?_
  refine PL.op rfl (Rd.moveU rfl) ?_
  refine PL.op rfl (Rd.extract rfl rfl) ?_
  refine PL.op rfl (Rd.extract rfl rfl) ?_
  refine PL.ef rfl (Ef.alloc rfl rfl) ?_
  refine PL.nm (.op 7 0) [some ⟨.mx [sL p_aP.slots], 48, 0⟩, some ⟨.tr (eL r5.slots), 35, 2⟩, some ⟨.tr (eL r7.1.slots), 35, 2⟩, some ⟨.mx [.os 2 0 r7.1.slots.length], 25, 0⟩, some ⟨.tr (eL r9.slots), 35, 2⟩, some ⟨.mx [.os 4 0 r9.slots.length], 25, 0⟩, some ⟨.tr (eL r11.1.slots), 35, 2⟩, some ⟨.mx [.t (.v (.slice none 0 0))], 25, 0⟩] rfl rfl ?_
  refine PL.store rfl rfl rfl rfl rfl rfl rfl ?_
  refine PL.nO [some ⟨.mx [sL p_aP.slots], 48, 0⟩, some ⟨.tr (eL r5.slots), 35, 2⟩, some ⟨.tr (eL r7.1.slots), 35, 2⟩, some ⟨.mx [.os 2 0 r7.1.slots.length], 25, 0⟩, some ⟨.tr (eL r9.slots), 35, 2⟩, some ⟨.mx [.os 4 0 r9.slots.length], 25, 0⟩, some ⟨.tr (eL r11.1.slots), 35, 2⟩, some ⟨.mx [.os 6 0 r11.1.slots.length], 25, 0⟩] rfl ?_
  refine PL.op rfl (Rd.asnT rfl) ?_
  refine PL.nil ?_
  refine thA_n ?_
  refine PC.seq ?_
  refine PC.seq ?_
  obtain ⟨r13, h_14, hh0⟩ := bind_some hh0
  rcases cond_some hh0 with ⟨h_15, hh0⟩ | ⟨h_15, hh0⟩
  rotate_left
  · refine PC.region ?_
    refine PL.op rfl (Rd.loadBox rfl rfl rfl) ?_
    refine PL.op rfl (Rd.loadBox rfl rfl rfl) ?_
    refine PL.callM true [] (w_L_eqPage N r11.1 r7.1 r13 h_14) rfl Try.call36 rfl ⟨.aggL ⟨.own rfl (by first | decide | exact List.not_mem_nil) rfl rfl, trivial⟩, .aggL ⟨.own rfl (by first | decide | exact List.not_mem_nil) rfl rfl, trivial⟩, trivial⟩ rfl trivial (fun _ => ⟨trivial, flat_nil⟩) ?_
    refine PL.op rfl (Rd.unnot rfl) ?_
    refine PL.op rfl (Rd.moveT rfl) ?_
    refine PL.guard_off rfl rfl (not_f h_15) ?_
    refine PL.guard_off rfl rfl (not_f h_15) ?_
    refine PL.guard_off rfl rfl (not_f h_15) ?_
    refine PL.op rfl (Rd.pick_t rfl (not_f h_15)) ?_
    refine PL.nil ?_
    refine thA_n ?_
    refine PC.cond_true rfl rfl ?_
    refine PC.seq ?_
    refine PC.region ?_
    refine PL.op rfl (Rd.asnT rfl) ?_
    refine PL.nil ?_
    refine thA_n ?_
    refine PC.ret ?_
    refine thA_r ?_
    obtain rfl := some_in hh0
    exact FinA.mk (r := bA false) (bl := []) [] (.inl rfl) rfl (rl := [.tmp 6]) (.tmp .nil) rfl rfl rfl (.t _) trivial ⟨rfl, rfl⟩
  refine PC.region ?_
  refine PL.op rfl (Rd.loadBox rfl rfl rfl) ?_
  refine PL.op rfl (Rd.loadBox rfl rfl rfl) ?_
  refine PL.callM true [] (w_L_eqPage N r11.1 r7.1 r13 h_14) rfl Try.call36 rfl ⟨.aggL ⟨.own rfl (by first | decide | exact List.not_mem_nil) rfl rfl, trivial⟩, .aggL ⟨.own rfl (by first | decide | exact List.not_mem_nil) rfl rfl, trivial⟩, trivial⟩ rfl trivial (fun _ => ⟨trivial, flat_nil⟩) ?_
  refine PL.op rfl (Rd.unnot rfl) ?_
  refine PL.op rfl (Rd.moveT rfl) ?_
  refine PL.guard_on rfl (not_t h_15) ?_
  refine PL.op rfl (Rd.moveT rfl) ?_
  refine PL.guard_on rfl (not_t h_15) ?_
  refine PL.op rfl (Rd.moveT rfl) ?_
  refine PL.guard_on rfl (not_t h_15) ?_
  refine PL.op rfl (Rd.neqB rfl rfl) ?_
  refine PL.op rfl (Rd.pick_f rfl (not_t h_15)) ?_
  refine PL.nil ?_
  refine thA_n ?_
  rcases cond_some hh0 with ⟨h_16, hh0⟩ | ⟨h_16, hh0⟩
  rotate_left
  · refine PC.cond_true rfl (not_f h_16) ?_
    refine PC.seq ?_
    refine PC.region ?_
    refine PL.op rfl (Rd.asnT rfl) ?_
    refine PL.nil ?_
    refine thA_n ?_
    refine PC.ret ?_
    refine thA_r ?_
    obtain rfl := some_in hh0
    exact FinA.mk (r := bA false) (bl := []) [] (.inl rfl) rfl (rl := [.tmp 6]) (.tmp .nil) rfl rfl rfl (.t _) trivial ⟨rfl, rfl⟩
  refine PC.cond_false rfl (not_t h_16) ?_
  refine PC.skip ?_
  refine thA_n ?_
  refine PC.seq ?_
  refine PC.seq ?_
  obtain ⟨r17, h_18, hh0⟩ := bind_some hh0
  obtain ⟨r19, h_20, hh0⟩ := bind_some hh0
  refine PC.any (id := 12) 5 (.seg [0, 1, 2, 3, 4] .done) [] rfl (by kernel_rfl) rfl ?_
  refine PT.seg ?_
  refine PR.op rfl (Rd.loadBox rfl rfl rfl) ?_
  refine PR.op rfl (Rd.loadBox rfl rfl rfl) ?_
  refine PR.callM false [] (w_L_toPage N p_aP r17 h_18) rfl Try.call35 rfl ⟨.aggL ⟨.t _, trivial⟩, trivial⟩ rfl trivial (fun h => by cases h) rfl ?_
  refine PR.nm (.agg [.os 8 0 r17.slots.length]) [some ⟨.mx [sL p_aP.slots], 48, 0⟩, some ⟨.tr (eL r5.slots), 35, 2⟩, some ⟨.tr (eL r7.1.slots), 35, 2⟩, some ⟨.mx [.os 2 0 r7.1.slots.length], 25, 0⟩, some ⟨.tr (eL r9.slots), 35, 2⟩, some ⟨.mx [.os 4 0 r9.slots.length], 25, 0⟩, some ⟨.tr (eL r11.1.slots), 35, 2⟩, some ⟨.mx [.os 6 0 r11.1.slots.length], 25, 0⟩, some ⟨.tr (eL r17.slots), 35, 2⟩] rfl rfl ?_
  refine PR.callM true [] (w_L_eqPage N r9 r17 r19 h_20) rfl Try.call36 rfl ⟨.aggL ⟨.own rfl (by first | decide | exact List.not_mem_nil) rfl rfl, trivial⟩, .aggL ⟨.own rfl (by first | decide | exact List.not_mem_nil) rfl rfl, trivial⟩, trivial⟩ rfl trivial (fun _ => ⟨trivial, flat_nil⟩) rfl ?_
  refine PR.op rfl (Rd.unnot rfl) ?_
  refine PR.nil ?_
  refine PT.done ?_
  refine PL.nil ?_
  refine thA_n ?_
  rcases cond_some hh0 with ⟨h_21, hh0⟩ | ⟨h_21, hh0⟩
  rotate_left
  · refine PC.cond_true rfl (not_f h_21) ?_
    refine PC.seq ?_
    refine PC.region ?_
    refine PL.op rfl (Rd.asnT rfl) ?_
    refine PL.nil ?_
    refine thA_n ?_
    refine PC.ret ?_
    refine thA_r ?_
    obtain rfl := some_in hh0
    exact FinA.mk (r := bA false) (bl := []) [] (.inl rfl) rfl (rl := [.tmp 6]) (.tmp .nil) rfl rfl rfl (.t _) trivial ⟨rfl, rfl⟩
  refine PC.cond_false rfl (not_t h_21) ?_
  refine PC.skip ?_
  refine thA_n ?_
  refine PC.seq ?_
  refine PC.region ?_
  refine PL.op rfl (Rd.asnT rfl) ?_
  refine PL.nil ?_
  refine thA_n ?_
  refine PC.seq ?_
  obtain ⟨r22, h_23, hh0⟩ := bind_some hh0
  refine PC.region ?_
  refine PL.op rfl (Rd.loadBox rfl rfl rfl) ?_
  refine PL.op rfl (Rd.moveT rfl) ?_
  refine PL.callM false [4] (w_L_markPage N r9 (1 : Int) r22 h_23) rfl Try.call37 rfl ⟨.aggL ⟨.os rfl, trivial⟩, .t _, trivial⟩ rfl ⟨⟨_, rfl, rfl, rfl, .tr _⟩, trivial⟩ (fun h => by cases h) ?_
  refine PL.nm (iA r22.1) [some ⟨.mx [sL p_aP.slots], 48, 0⟩, some ⟨.tr (eL r5.slots), 35, 2⟩, some ⟨.tr (eL r7.1.slots), 35, 2⟩, some ⟨.mx [.os 2 0 r7.1.slots.length], 25, 0⟩, some ⟨.tr (eL r22.2), 35, 2⟩, some ⟨.mx [.os 4 0 r9.slots.length], 25, 0⟩, some ⟨.tr (eL r11.1.slots), 35, 2⟩, some ⟨.mx [.os 6 0 r11.1.slots.length], 25, 0⟩, some ⟨.tr (eL r17.slots), 35, 2⟩] rfl rfl ?_
  refine PL.op rfl (Rd.asnT rfl) ?_
  refine PL.nil ?_
  refine thA_n ?_
  refine PC.seq ?_
  refine PC.seq ?_
  rcases cond_some hh0 with ⟨h_24, hh0⟩ | ⟨h_24, hh0⟩
  · refine PC.region ?_
    refine PL.op rfl (Rd.moveT rfl) ?_
    refine PL.op rfl (Rd.lss rfl rfl) ?_
    refine PL.op rfl (Rd.moveT rfl) ?_
    refine PL.guard_off rfl rfl h_24 ?_
    refine PL.guard_off rfl rfl h_24 ?_
    refine PL.guard_off rfl rfl h_24 ?_
    refine PL.guard_off rfl rfl h_24 ?_
    refine PL.op rfl (Rd.pick_t rfl h_24) ?_
    refine PL.op rfl (Rd.moveT rfl) ?_
    refine PL.guard_off rfl rfl rfl ?_
    refine PL.guard_off rfl rfl rfl ?_
    refine PL.guard_off rfl rfl rfl ?_
    refine PL.op rfl (Rd.pick_t rfl rfl) ?_
    refine PL.nil ?_
    refine thA_n ?_
    refine PC.cond_true rfl rfl ?_
    refine PC.seq ?_
    refine PC.region ?_
    refine PL.op rfl (Rd.asnT rfl) ?_
    refine PL.nil ?_
    refine thA_n ?_
    refine PC.ret ?_
    refine thA_r ?_
    obtain rfl := some_in hh0
    exact FinA.mk (r := bA false) (bl := []) [] (.inl rfl) rfl (rl := [.tmp 6]) (.tmp .nil) rfl rfl rfl (.t _) trivial ⟨rfl, rfl⟩
  obtain ⟨r25, h_26, hh0⟩ := bind_some hh0
  rcases cond_some hh0 with ⟨h_27, hh0⟩ | ⟨h_27, hh0⟩
  rotate_left
  · refine PC.region ?_
    refine PL.op rfl (Rd.moveT rfl) ?_
    refine PL.op rfl (Rd.lss rfl rfl) ?_
    refine PL.op rfl (Rd.moveT rfl) ?_
    refine PL.guard_on rfl h_24 ?_
    refine PL.op rfl (Rd.loadBox rfl rfl rfl) ?_
    refine PL.guard_on rfl h_24 ?_
    refine PL.op rfl (Rd.loadBox rfl rfl rfl) ?_
    refine PL.guard_on rfl h_24 ?_
    refine PL.callM true [] (w_L_eqPage N r11.1 r7.1 r25 h_26) rfl Try.call36 rfl ⟨.aggL ⟨.own rfl (by first | decide | exact List.not_mem_nil) rfl rfl, trivial⟩, .aggL ⟨.own rfl (by first | decide | exact List.not_mem_nil) rfl rfl, trivial⟩, trivial⟩ rfl trivial (fun _ => ⟨trivial, flat_nil⟩) ?_
    refine PL.guard_on rfl h_24 ?_
    refine PL.op rfl (Rd.unnot rfl) ?_
    refine PL.op rfl (Rd.pick_f rfl h_24) ?_
    refine PL.op rfl (Rd.moveT rfl) ?_
    refine PL.guard_off rfl rfl (not_f h_27) ?_
    refine PL.guard_off rfl rfl (not_f h_27) ?_
    refine PL.guard_off rfl rfl (not_f h_27) ?_
    refine PL.op rfl (Rd.pick_t rfl (not_f h_27)) ?_
    refine PL.nil ?_
    refine thA_n ?_
    refine PC.cond_true rfl rfl ?_
    refine PC.seq ?_
    refine PC.region ?_
    refine PL.op rfl (Rd.asnT rfl) ?_
    refine PL.nil ?_
    refine thA_n ?_
    refine PC.ret ?_
    refine thA_r ?_
    obtain rfl := some_in hh0
    exact FinA.mk (r := bA false) (bl := []) [] (.inl rfl) rfl (rl := [.tmp 6]) (.tmp .nil) rfl rfl rfl (.t _) trivial ⟨rfl, rfl⟩
  refine PC.region ?_
  refine PL.op rfl (Rd.moveT rfl) ?_
  refine PL.op rfl (Rd.lss rfl rfl) ?_
  refine PL.op rfl (Rd.moveT rfl) ?_
  refine PL.guard_on rfl h_24 ?_
  refine PL.op rfl (Rd.loadBox rfl rfl rfl) ?_
  refine PL.guard_on rfl h_24 ?_
  refine PL.op rfl (Rd.loadBox rfl rfl rfl) ?_
  refine PL.guard_on rfl h_24 ?_
  refine PL.callM true [] (w_L_eqPage N r11.1 r7.1 r25 h_26) rfl Try.call36 rfl ⟨.aggL ⟨.own rfl (by first | decide | exact List.not_mem_nil) rfl rfl, trivial⟩, .aggL ⟨.own rfl (by first | decide | exact List.not_mem_nil) rfl rfl, trivial⟩, trivial⟩ rfl trivial (fun _ => ⟨trivial, flat_nil⟩) ?_
  refine PL.guard_on rfl h_24 ?_
  refine PL.op rfl (Rd.unnot rfl) ?_
  refine PL.op rfl (Rd.pick_f rfl h_24) ?_
  refine PL.op rfl (Rd.moveT rfl) ?_
  refine PL.guard_on rfl (not_t h_27) ?_
  refine PL.op rfl (Rd.moveT rfl) ?_
  refine PL.guard_on rfl (not_t h_27) ?_
  refine PL.op rfl (Rd.moveT rfl) ?_
  refine PL.guard_on rfl (not_t h_27) ?_
  refine PL.op rfl (Rd.neqB rfl rfl) ?_
  refine PL.op rfl (Rd.pick_f rfl (not_t h_27)) ?_
  refine PL.nil ?_
  refine thA_n ?_
  refine PC.cond_false rfl (not_t h_16) ?_
  refine PC.skip ?_
  refine thA_n ?_
  refine PC.seq ?_
  refine PC.region ?_
  refine PL.op rfl (Rd.asnT rfl) ?_
  refine PL.nil ?_
  refine thA_n ?_
  refine PC.seq ?_
  obtain ⟨r28, h_29, hh0⟩ := bind_some hh0
  refine PC.region ?_
  refine PL.op rfl (Rd.loadBox rfl rfl rfl) ?_
  refine PL.op rfl (Rd.moveT rfl) ?_
  refine PL.callM false [6] (w_L_markPage N r11.1 (1 : Int) r28 h_29) rfl Try.call37 rfl ⟨.aggL ⟨.os rfl, trivial⟩, .t _, trivial⟩ rfl ⟨⟨_, rfl, rfl, rfl, .tr _⟩, trivial⟩ (fun h => by cases h) ?_
  refine PL.nm (iA r28.1) [some ⟨.mx [sL p_aP.slots], 48, 0⟩, some ⟨.tr (eL r5.slots), 35, 2⟩, some ⟨.tr (eL r7.1.slots), 35, 2⟩, some ⟨.mx [.os 2 0 r7.1.slots.length], 25, 0⟩, some ⟨.tr (eL r22.2), 35, 2⟩, some ⟨.mx [.os 4 0 r9.slots.length], 25, 0⟩, some ⟨.tr (eL r28.2), 35, 2⟩, some ⟨.mx [.os 6 0 r11.1.slots.length], 25, 0⟩, some ⟨.tr (eL r17.slots), 35, 2⟩] rfl rfl ?_
  refine PL.op rfl (Rd.asnT rfl) ?_
  refine PL.nil ?_
  refine thA_n ?_
  refine PC.seq ?_
  refine PC.region ?_
  refine PL.op rfl (Rd.asnT rfl) ?_
  refine PL.nil ?_
  refine thA_n ?_
  refine PC.seq ?_
  obtain ⟨r30, h_31, hh0⟩ := bind_some hh0
  refine PC.region ?_
  refine PL.op rfl (Rd.loadBox rfl rfl rfl) ?_
  refine PL.op rfl (Rd.moveT rfl) ?_
  refine PL.callM true [] (w_L_heldPage N (I_Page.mk r28.2) (1 : Int) r30 h_31) rfl Try.call38 rfl ⟨.aggL ⟨.own rfl (by first | decide | exact List.not_mem_nil) (by simp only [List.length_set, len_L_markPage N _ _ _ h_29]) rfl, trivial⟩, .t _, trivial⟩ rfl trivial (fun _ => ⟨trivial, flat_nil⟩) ?_
  refine PL.op rfl (Rd.asnT rfl) ?_
  refine PL.nil ?_
  refine thA_n ?_
  refine PC.seq ?_
  refine PC.seq ?_
  refine PC.region ?_
  refine PL.op rfl (Rd.moveT rfl) ?_
  refine PL.op rfl (Rd.lss rfl rfl) ?_
  refine PL.nil ?_
  refine thA_n ?_
  rcases cond_some hh0 with ⟨h_32, hh0⟩ | ⟨h_32, hh0⟩
  · refine PC.cond_true rfl h_32 ?_
    refine PC.seq ?_
    refine PC.region ?_
    refine PL.op rfl (Rd.asnT rfl) ?_
    refine PL.nil ?_
    refine thA_n ?_
    refine PC.ret ?_
    refine thA_r ?_
    obtain rfl := some_in hh0
    exact FinA.mk (r := bA false) (bl := []) [] (.inl rfl) rfl (rl := [.tmp 6]) (.tmp .nil) rfl rfl rfl (.t _) trivial ⟨rfl, rfl⟩
  refine PC.cond_false rfl h_32 ?_
  refine PC.skip ?_
  refine thA_n ?_
  refine PC.seq ?_
  refine PC.seq ?_
  refine PC.region ?_
  refine PL.op rfl (Rd.moveT rfl) ?_
  refine PL.op rfl (Rd.moveT rfl) ?_
  refine PL.op rfl (Rd.neq rfl rfl) ?_
  refine PL.nil ?_
  refine thA_n ?_
  rcases cond_some hh0 with ⟨h_33, hh0⟩ | ⟨h_33, hh0⟩
  rotate_left
  · refine PC.cond_true rfl (not_f h_33) ?_
    refine PC.seq ?_
    refine PC.region ?_
    refine PL.op rfl (Rd.asnT rfl) ?_
    refine PL.nil ?_
    refine thA_n ?_
    refine PC.ret ?_
    refine thA_r ?_
    obtain rfl := some_in hh0
    exact FinA.mk (r := bA false) (bl := []) [] (.inl rfl) rfl (rl := [.tmp 6]) (.tmp .nil) rfl rfl rfl (.t _) trivial ⟨rfl, rfl⟩
  refine PC.cond_false rfl (not_t h_33) ?_
  refine PC.skip ?_
  refine thA_n ?_
  refine PC.seq ?_
  obtain ⟨r34, h_35, hh0⟩ := bind_some hh0
  obtain ⟨r36, h_37, hh0⟩ := bind_some hh0
  refine PC.region ?_
  refine PL.op rfl (Rd.loadBox rfl rfl rfl) ?_
  refine PL.callM false [] (w_L_toPage N p_aP r34 h_35) rfl Try.call35 rfl ⟨.aggL ⟨.t _, trivial⟩, trivial⟩ rfl trivial (fun h => by cases h) ?_
  refine PL.nm (.agg [.os 9 0 r34.slots.length]) [some ⟨.mx [sL p_aP.slots], 48, 0⟩, some ⟨.tr (eL r5.slots), 35, 2⟩, some ⟨.tr (eL r7.1.slots), 35, 2⟩, some ⟨.mx [.os 2 0 r7.1.slots.length], 25, 0⟩, some ⟨.tr (eL r22.2), 35, 2⟩, some ⟨.mx [.os 4 0 r9.slots.length], 25, 0⟩, some ⟨.tr (eL r28.2), 35, 2⟩, some ⟨.mx [.os 6 0 r11.1.slots.length], 25, 0⟩, some ⟨.tr (eL r17.slots), 35, 2⟩, some ⟨.tr (eL r34.slots), 35, 2⟩] rfl rfl ?_
  refine PL.op rfl (Rd.moveT rfl) ?_
  refine PL.op rfl (Rd.moveT rfl) ?_
  refine PL.callM true [] (w_I_SetSlot N r34 p_aAt p_aData r36 h_37) rfl Try.call29 rfl ⟨.aggL ⟨.own rfl (by first | decide | exact List.not_mem_nil) rfl rfl, trivial⟩, .t _, .t _, trivial⟩ rfl trivial (fun _ => ⟨⟨⟨trivial, trivial⟩, trivial, trivial⟩, (flat_cons flat_ow flat_nil)⟩) ?_
  refine PL.nm (.tup [.agg [.os 10 0 r36.1.slots.length], bA r36.2]) [some ⟨.mx [sL p_aP.slots], 48, 0⟩, some ⟨.tr (eL r5.slots), 35, 2⟩, some ⟨.tr (eL r7.1.slots), 35, 2⟩, some ⟨.mx [.os 2 0 r7.1.slots.length], 25, 0⟩, some ⟨.tr (eL r22.2), 35, 2⟩, some ⟨.mx [.os 4 0 r9.slots.length], 25, 0⟩, some ⟨.tr (eL r28.2), 35, 2⟩, some ⟨.mx [.os 6 0 r11.1.slots.length], 25, 0⟩, some ⟨.tr (eL r17.slots), 35, 2⟩, some ⟨.tr (eL r34.slots), 35, 2⟩, some ⟨.tr (eL r36.1.slots), 35, 2⟩] rfl rfl ?_
  refine PL.op rfl (Rd.moveU rfl) ?_
  refine PL.op rfl (Rd.extract rfl rfl) ?_
  refine PL.op rfl (Rd.extract rfl rfl) ?_
  refine PL.ef rfl (Ef.alloc rfl rfl) ?_
  refine PL.nm (.op 11 0) [some ⟨.mx [sL p_aP.slots], 48, 0⟩, some ⟨.tr (eL r5.slots), 35, 2⟩, some ⟨.tr (eL r7.1.slots), 35, 2⟩, some ⟨.mx [.os 2 0 r7.1.slots.length], 25, 0⟩, some ⟨.tr (eL r22.2), 35, 2⟩, some ⟨.mx [.os 4 0 r9.slots.length], 25, 0⟩, some ⟨.tr (eL r28.2), 35, 2⟩, some ⟨.mx [.os 6 0 r11.1.slots.length], 25, 0⟩, some ⟨.tr (eL r17.slots), 35, 2⟩, some ⟨.tr (eL r34.slots), 35, 2⟩, some ⟨.tr (eL r36.1.slots), 35, 2⟩, some ⟨.mx [.t (.v (.slice none 0 0))], 25, 0⟩] rfl rfl ?_
  refine PL.store rfl rfl rfl rfl rfl rfl rfl ?_
  refine PL.nO [some ⟨.mx [sL p_aP.slots], 48, 0⟩, some ⟨.tr (eL r5.slots), 35, 2⟩, some ⟨.tr (eL r7.1.slots), 35, 2⟩, some ⟨.mx [.os 2 0 r7.1.slots.length], 25, 0⟩, some ⟨.tr (eL r22.2), 35, 2⟩, some ⟨.mx [.os 4 0 r9.slots.length], 25, 0⟩, some ⟨.tr (eL r28.2), 35, 2⟩, some ⟨.mx [.os 6 0 r11.1.slots.length], 25, 0⟩, some ⟨.tr (eL r17.slots), 35, 2⟩, some ⟨.tr (eL r34.slots), 35, 2⟩, some ⟨.tr (eL r36.1.slots), 35, 2⟩, some ⟨.mx [.os 10 0 r36.1.slots.length], 25, 0⟩] rfl ?_
  refine PL.op rfl (Rd.asnT rfl) ?_
  refine PL.nil ?_
  refine thA_n ?_
  refine PC.seq ?_
  refine PC.seq ?_
  obtain ⟨r38, h_39, hh0⟩ := bind_some hh0
  rcases cond_some hh0 with ⟨h_40, hh0⟩ | ⟨h_40, hh0⟩
  rotate_left
  · refine PC.region ?_
    refine PL.op rfl (Rd.loadBox rfl rfl rfl) ?_
    refine PL.op rfl (Rd.loadBox rfl rfl rfl) ?_
    refine PL.callM true [] (w_L_eqPage N r36.1 r7.1 r38 h_39) rfl Try.call36 rfl ⟨.aggL ⟨.own rfl (by first | decide | exact List.not_mem_nil) rfl rfl, trivial⟩, .aggL ⟨.own rfl (by first | decide | exact List.not_mem_nil) rfl rfl, trivial⟩, trivial⟩ rfl trivial (fun _ => ⟨trivial, flat_nil⟩) ?_
    refine PL.op rfl (Rd.unnot rfl) ?_
    refine PL.op rfl (Rd.moveT rfl) ?_
    refine PL.guard_off rfl rfl (not_f h_40) ?_
    refine PL.guard_off rfl rfl (not_f h_40) ?_
    refine PL.guard_off rfl rfl (not_f h_40) ?_
    refine PL.op rfl (Rd.pick_t rfl (not_f h_40)) ?_
    refine PL.nil ?_
    refine thA_n ?_
    refine PC.cond_true rfl rfl ?_
    refine PC.seq ?_
    refine PC.region ?_
    refine PL.op rfl (Rd.asnT rfl) ?_
    refine PL.nil ?_
    refine thA_n ?_
    refine PC.ret ?_
    refine thA_r ?_
    obtain rfl := some_in hh0
    exact FinA.mk (r := bA false) (bl := []) [] (.inl rfl) rfl (rl := [.tmp 6]) (.tmp .nil) rfl rfl rfl (.t _) trivial ⟨rfl, rfl⟩
  refine PC.region ?_
  refine PL.op rfl (Rd.loadBox rfl rfl rfl) ?_
  refine PL.op rfl (Rd.loadBox rfl rfl rfl) ?_
  refine PL.callM true [] (w_L_eqPage N r36.1 r7.1 r38 h_39) rfl Try.call36 rfl ⟨.aggL ⟨.own rfl (by first | decide | exact List.not_mem_nil) rfl rfl, trivial⟩, .aggL ⟨.own rfl (by first | decide | exact List.not_mem_nil) rfl rfl, trivial⟩, trivial⟩ rfl trivial (fun _ => ⟨trivial, flat_nil⟩) ?_
  refine PL.op rfl (Rd.unnot rfl) ?_
  refine PL.op rfl (Rd.moveT rfl) ?_
  refine PL.guard_on rfl (not_t h_40) ?_
  refine PL.op rfl (Rd.moveT rfl) ?_
  refine PL.guard_on rfl (not_t h_40) ?_
  refine PL.op rfl (Rd.moveT rfl) ?_
  refine PL.guard_on rfl (not_t h_40) ?_
  refine PL.op rfl (Rd.neqB rfl rfl) ?_
  refine PL.op rfl (Rd.pick_f rfl (not_t h_40)) ?_
  refine PL.nil ?_
  refine thA_n ?_
  rcases cond_some hh0 with ⟨h_41, hh0⟩ | ⟨h_41, hh0⟩
  rotate_left
  · refine PC.cond_true rfl (not_f h_41) ?_
    refine PC.seq ?_
    refine PC.region ?_
    refine PL.op rfl (Rd.asnT rfl) ?_
    refine PL.nil ?_
    refine thA_n ?_
    refine PC.ret ?_
    refine thA_r ?_
    obtain rfl := some_in hh0
    exact FinA.mk (r := bA false) (bl := []) [] (.inl rfl) rfl (rl := [.tmp 6]) (.tmp .nil) rfl rfl rfl (.t _) trivial ⟨rfl, rfl⟩
  refine PC.cond_false rfl (not_t h_41) ?_
  refine PC.skip ?_
  refine thA_n ?_
  refine PC.seq ?_
  refine PC.region ?_
  refine PL.op rfl (Rd.asnT rfl) ?_
  refine PL.nil ?_
  refine thA_n ?_
  refine PC.seq ?_
  obtain ⟨r42, h_43, hh0⟩ := bind_some hh0
  refine PC.region ?_
  refine PL.op rfl (Rd.loadBox rfl rfl rfl) ?_
  refine PL.op rfl (Rd.moveT rfl) ?_
  refine PL.callM true [] (w_L_heldPage N (I_Page.mk r28.2) (1 : Int) r42 h_43) rfl Try.call38 rfl ⟨.aggL ⟨.own rfl (by first | decide | exact List.not_mem_nil) (by simp only [List.length_set, len_L_markPage N _ _ _ h_29]) rfl, trivial⟩, .t _, trivial⟩ rfl trivial (fun _ => ⟨trivial, flat_nil⟩) ?_
  refine PL.op rfl (Rd.asnT rfl) ?_
  refine PL.nil ?_
  refine thA_n ?_
  refine PC.seq ?_
  refine PC.seq ?_
  refine PC.region ?_
  refine PL.op rfl (Rd.moveT rfl) ?_
  refine PL.op rfl (Rd.lss rfl rfl) ?_
  refine PL.nil ?_
  refine thA_n ?_
  rcases cond_some hh0 with ⟨h_44, hh0⟩ | ⟨h_44, hh0⟩
  · refine PC.cond_true rfl h_44 ?_
    refine PC.seq ?_
    refine PC.region ?_
    refine PL.op rfl (Rd.asnT rfl) ?_
    refine PL.nil ?_
    refine thA_n ?_
    refine PC.ret ?_
    refine thA_r ?_
    obtain rfl := some_in hh0
    exact FinA.mk (r := bA false) (bl := []) [] (.inl rfl) rfl (rl := [.tmp 6]) (.tmp .nil) rfl rfl rfl (.t _) trivial ⟨rfl, rfl⟩
  refine PC.cond_false rfl h_44 ?_
  refine PC.skip ?_
  refine thA_n ?_
  refine PC.seq ?_
  refine PC.seq ?_
  refine PC.region ?_
  refine PL.op rfl (Rd.moveT rfl) ?_
  refine PL.op rfl (Rd.moveT rfl) ?_
  refine PL.op rfl (Rd.neq rfl rfl) ?_
  refine PL.nil ?_
  refine thA_n ?_
  rcases cond_some hh0 with ⟨h_45, hh0⟩ | ⟨h_45, hh0⟩
  rotate_left
  · refine PC.cond_true rfl (not_f h_45) ?_
    refine PC.seq ?_
    refine PC.region ?_
    refine PL.op rfl (Rd.asnT rfl) ?_
    refine PL.nil ?_
    refine thA_n ?_
    refine PC.ret ?_
    refine thA_r ?_
    obtain rfl := some_in hh0
    exact FinA.mk (r := bA false) (bl := []) [] (.inl rfl) rfl (rl := [.tmp 6]) (.tmp .nil) rfl rfl rfl (.t _) trivial ⟨rfl, rfl⟩
  refine PC.cond_false rfl (not_t h_45) ?_
  refine PC.skip ?_
  refine thA_n ?_
  refine PC.seq ?_
  refine PC.region ?_
  refine PL.op rfl (Rd.asnT rfl) ?_
  refine PL.nil ?_
  refine thA_n ?_
  refine PC.ret ?_
  obtain rfl := some_in hh0
  exact FinA.mk (r := bA true) (bl := []) [] (.inl rfl) rfl (rl := [.tmp 6]) (.tmp .nil) rfl rfl rfl (.t _) trivial ⟨rfl, rfl⟩

end V
end Go.Proofs.Ytoljdhdfijnjiaa
