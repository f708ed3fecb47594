/- Pages: an exact law's function. No condition. -/
import Derived.Test.YtoljdhdfijnjiaaPlPgX
namespace Go.Proofs.Ytoljdhdfijnjiaa
namespace V
open Enc (enc)
set_option linter.unusedVariables false
set_option linter.unusedSimpArgs false
set_option maxHeartbeats 4000000
set_option maxRecDepth 100000
open Go.RowKit
attribute [local irreducible] thA inA FinA eL

def m_L_FnExactPutSlot (N : Nat) (p_aP : L_Page) (p_aData : ByteArray) : Option (Bool) :=
  cond (decide ((1048576 : Int) < (p_aData.size : Int)))
    (some true)
    ((m_L_szPage N p_aP (1048576 : Int)).bind fun r2 =>
    cond (decide (r2 < (0 : Int)))
      (some true)
      ((m_L_toPage N p_aP).bind fun r5 =>
      (m_S_PutSlot N r5 p_aData).bind fun r7 =>
      (m_L_toPage N p_aP).bind fun r9 =>
      (m_I_PutSlot N r9 p_aData).bind fun r11 =>
      (m_L_eqPage N r11.1 r7.1).bind fun r13 =>
      cond r13
        (cond (decide (r11.2.1 = r7.2.1))
          (cond (r11.2.2 == r7.2.2)
            ((m_L_toPage N p_aP).bind fun r18 =>
            (m_L_eqPage N r9 r18).bind fun r20 =>
            cond r20
              ((m_L_markPage N r9 (1 : Int)).bind fun r23 =>
              cond (decide (r23.1 < (0 : Int)))
                (some false)
                ((m_L_eqPage N r11.1 r7.1).bind fun r26 =>
                cond r26
                  ((m_L_markPage N r11.1 (1 : Int)).bind fun r29 =>
                  (m_L_heldPage N (I_Page.mk r29.2) (1 : Int)).bind fun r31 =>
                  cond (decide (r31 < (0 : Int)))
                    (some false)
                    (cond (decide (r31 = r29.1))
                      ((m_L_toPage N p_aP).bind fun r35 =>
                      (m_I_PutSlot N r35 p_aData).bind fun r37 =>
                      (m_L_eqPage N r37.1 r7.1).bind fun r39 =>
                      cond r39
                        (cond (decide (r37.2.1 = r7.2.1))
                          (cond (r37.2.2 == r7.2.2)
                            ((m_L_heldPage N (I_Page.mk r29.2) (1 : Int)).bind fun r44 =>
                            cond (decide (r44 < (0 : Int)))
                              (some false)
                              (cond (decide (r44 = r29.1))
                                (some true)
                                (some false)))
                            (some false))
                          (some false))
                        (some false))
                      (some false)))
                  (some false)))
              (some false))
            (some false))
          (some false))
        (some false)))
theorem w_L_FnExactPutSlot (N : Nat) (p_aP : L_Page) (p_aData : ByteArray) (r : Bool) (hh0 : m_L_FnExactPutSlot N p_aP p_aData = some r) : FnX Try.prog 11 [] [.agg [sL p_aP.slots], sA p_aData] (RE (bA r) []) := by
  unfold m_L_FnExactPutSlot at hh0
  refine FnX.mk Try.func11 rfl rfl ?_
  intro s hs
  refine PC.seq ?_
  refine PC.region ?_
  refine PL.ef rfl (Ef.box rfl rfl rfl) ?_
  refine PL.nm (.op 0 0) [some ⟨.mx [sL p_aP.slots], 48, 0⟩] rfl rfl ?_
  refine PL.op rfl (Rd.asnT rfl) ?_
  refine PL.nil ?_
  refine thA_n ?_
  refine PC.seq ?_
  refine PC.seq ?_
  refine PC.region ?_
  refine PL.op rfl (Rd.moveT rfl) ?_
  refine PL.op rfl (Rd.lenSt rfl) ?_
  refine PL.op rfl (Rd.gtr rfl rfl) ?_
  refine PL.nil ?_
  refine thA_n ?_
  rcases cond_some hh0 with ⟨h_1, hh0⟩ | ⟨h_1, hh0⟩
  · refine PC.cond_true rfl h_1 ?_
    refine PC.seq ?_
    refine PC.region ?_
    refine PL.op rfl (Rd.asnT rfl) ?_
    refine PL.nil ?_
    refine thA_n ?_
    refine PC.ret ?_
    refine thA_r ?_
    obtain rfl := some_in hh0
    exact FinA.mk (r := bA true) (bl := []) [] (.inl rfl) rfl (rl := [.tmp 4]) (.tmp .nil) rfl rfl rfl (.t _) trivial ⟨rfl, rfl⟩
  refine PC.cond_false rfl h_1 ?_
  refine PC.skip ?_
  refine thA_n ?_
  refine PC.seq ?_
  refine PC.region ?_
  refine PL.op rfl (Rd.asnT rfl) ?_
  refine PL.nil ?_
  refine thA_n ?_
  refine PC.seq ?_
  obtain ⟨r2, h_3, hh0⟩ := bind_some hh0
  refine PC.region ?_
  refine PL.op rfl (Rd.loadBox rfl rfl rfl) ?_
  refine PL.op rfl (Rd.moveT rfl) ?_
  refine PL.callM false [] (w_L_szPage N p_aP (1048576 : Int) r2 h_3) rfl Try.call34 rfl ⟨.aggL ⟨.t _, trivial⟩, .t _, trivial⟩ rfl trivial (fun h => by cases h) ?_
  refine PL.op rfl (Rd.asnT rfl) ?_
  refine PL.nil ?_
  refine thA_n ?_
  refine PC.seq ?_
  refine PC.seq ?_
  refine PC.region ?_
  refine PL.op rfl (Rd.moveT rfl) ?_
  refine PL.op rfl (Rd.lss rfl rfl) ?_
  refine PL.nil ?_
  refine thA_n ?_
  rcases cond_some hh0 with ⟨h_4, hh0⟩ | ⟨h_4, hh0⟩
  · refine PC.cond_true rfl h_4 ?_
    refine PC.seq ?_
    refine PC.region ?_
    refine PL.op rfl (Rd.asnT rfl) ?_
    refine PL.nil ?_
    refine thA_n ?_
    refine PC.ret ?_
    refine thA_r ?_
    obtain rfl := some_in hh0
    exact FinA.mk (r := bA true) (bl := []) [] (.inl rfl) rfl (rl := [.tmp 4]) (.tmp .nil) rfl rfl rfl (.t _) trivial ⟨rfl, rfl⟩
  refine PC.cond_false rfl h_4 ?_
  refine PC.skip ?_
  refine thA_n ?_
  refine PC.seq ?_
  obtain ⟨r5, h_6, hh0⟩ := bind_some hh0
  obtain ⟨r7, h_8, hh0⟩ := bind_some hh0
  refine PC.region ?_
  refine PL.op rfl (Rd.loadBox rfl rfl rfl) ?_
  refine PL.callM false [] (w_L_toPage N p_aP r5 h_6) rfl Try.call35 rfl ⟨.aggL ⟨.t _, trivial⟩, trivial⟩ rfl trivial (fun h => by cases h) ?_
  refine PL.nm (.agg [.os 1 0 r5.slots.length]) [some ⟨.mx [sL p_aP.slots], 48, 0⟩, some ⟨.tr (eL r5.slots), 35, 2⟩] rfl rfl ?_
  refine PL.op rfl (Rd.moveT rfl) ?_
  refine PL.callM true [] (w_S_PutSlot N r5 p_aData r7 h_8) rfl Try.call24 rfl ⟨.aggL ⟨.own rfl (by first | decide | exact List.not_mem_nil) rfl rfl, trivial⟩, .t _, trivial⟩ rfl trivial (fun _ => ⟨⟨⟨trivial, trivial⟩, trivial, trivial, trivial⟩, (flat_cons flat_ow flat_nil)⟩) ?_
  refine PL.nm (.tup [.agg [.os 2 0 r7.1.slots.length], iA r7.2.1, bA r7.2.2]) [some ⟨.mx [sL p_aP.slots], 48, 0⟩, some ⟨.tr (eL r5.slots), 35, 2⟩, some ⟨.tr (eL r7.1.slots), 35, 2⟩] rfl rfl ?_
  refine PL.op rfl (Rd.moveU rfl) ?_
  refine PL.op rfl (Rd.extract rfl rfl) ?_
  refine PL.op rfl (Rd.extract rfl rfl) ?_
  refine PL.op rfl (Rd.extract rfl rfl) ?_
  refine PL.ef rfl (Ef.alloc rfl rfl) ?_
  refine PL.nm (.op 3 0) [some ⟨.mx [sL p_aP.slots], 48, 0⟩, some ⟨.tr (eL r5.slots), 35, 2⟩, some ⟨.tr (eL r7.1.slots), 35, 2⟩, some ⟨.mx [.t (.v (.slice none 0 0))], 25, 0⟩] rfl rfl ?_
  refine PL.store rfl rfl rfl rfl rfl rfl rfl ?_
  refine PL.nO [some ⟨.mx [sL p_aP.slots], 48, 0⟩, some ⟨.tr (eL r5.slots), 35, 2⟩, some ⟨.tr (eL r7.1.slots), 35, 2⟩, some ⟨.mx [.os 2 0 r7.1.slots.length], 25, 0⟩] rfl ?_
  refine PL.op rfl (Rd.asnT rfl) ?_
  refine PL.op rfl (Rd.asnT rfl) ?_
  refine PL.nil ?_
  refine thA_n ?_
  refine PC.seq ?_
  obtain ⟨r9, h_10, hh0⟩ := bind_some hh0
  refine PC.region ?_
  refine PL.op rfl (Rd.loadBox rfl rfl rfl) ?_
  refine PL.callM false [] (w_L_toPage N p_aP r9 h_10) rfl Try.call35 rfl ⟨.aggL ⟨.t _, trivial⟩, trivial⟩ rfl trivial (fun h => by cases h) ?_
  refine PL.nm (.agg [.os 4 0 r9.slots.length]) [some ⟨.mx [sL p_aP.slots], 48, 0⟩, some ⟨.tr (eL r5.slots), 35, 2⟩, some ⟨.tr (eL r7.1.slots), 35, 2⟩, some ⟨.mx [.os 2 0 r7.1.slots.length], 25, 0⟩, some ⟨.tr (eL r9.slots), 35, 2⟩] rfl rfl ?_
  refine PL.ef rfl (Ef.alloc rfl rfl) ?_
  refine PL.nm (.op 5 0) [some ⟨.mx [sL p_aP.slots], 48, 0⟩, some ⟨.tr (eL r5.slots), 35, 2⟩, some ⟨.tr (eL r7.1.slots), 35, 2⟩, some ⟨.mx [.os 2 0 r7.1.slots.length], 25, 0⟩, some ⟨.tr (eL r9.slots), 35, 2⟩, some ⟨.mx [.t (.v (.slice none 0 0))], 25, 0⟩] rfl rfl ?_
  refine PL.store rfl rfl rfl rfl rfl rfl rfl ?_
  refine PL.nO [some ⟨.mx [sL p_aP.slots], 48, 0⟩, some ⟨.tr (eL r5.slots), 35, 2⟩, some ⟨.tr (eL r7.1.slots), 35, 2⟩, some ⟨.mx [.os 2 0 r7.1.slots.length], 25, 0⟩, some ⟨.tr (eL r9.slots), 35, 2⟩, some ⟨.mx [.os 4 0 r9.slots.length], 25, 0⟩] rfl ?_
  refine PL.nil ?_
  refine thA_n ?_
  refine PC.seq ?_
  obtain ⟨r11, h_12, hh0⟩ := bind_some hh0
  refine PC.region ?_
  refine PL.op rfl (Rd.loadBox rfl rfl rfl) ?_
  refine PL.op rfl (Rd.moveT rfl) ?_
  refine PL.callM true [] (w_I_PutSlot N r9 p_aData r11 h_12) rfl Try.call22 rfl ⟨.aggL ⟨.own rfl (by first | decide | exact List.not_mem_nil) rfl rfl, trivial⟩, .t _, trivial⟩ rfl trivial (fun _ => ⟨⟨⟨trivial, trivial⟩, trivial, trivial, trivial⟩, (flat_cons flat_ow flat_nil)⟩) ?_
  refine PL.nm (.tup [.agg [.os 6 0 r11.1.slots.length], iA r11.2.1, bA r11.2.2]) [some ⟨.mx [sL p_aP.slots], 48, 0⟩, some ⟨.tr (eL r5.slots), 35, 2⟩, some ⟨.tr (eL r7.1.slots), 35, 2⟩, some ⟨.mx [.os 2 0 r7.1.slots.length], 25, 0⟩, some ⟨.tr (eL r9.slots), 35, 2⟩, some ⟨.mx [.os 4 0 r9.slots.length], 25, 0⟩, some ⟨.tr (eL r11.1.slots), 35, 2⟩] rfl rfl ?_
  refine PL.op rfl (Rd.moveU rfl) ?_
  refine PL.op rfl (Rd.extract rfl rfl) ?_
  refine PL.op rfl (Rd.extract rfl rfl) ?_
  refine PL.op rfl (Rd.extract rfl rfl) ?_
  refine PL.ef rfl (Ef.alloc rfl rfl) ?_
  refine PL.nm (.op 7 0) [some ⟨.mx [sL p_aP.slots], 48, 0⟩, some ⟨.tr (eL r5.slots), 35, 2⟩, some ⟨.tr (eL r7.1.slots), 35, 2⟩, some ⟨.mx [.os 2 0 r7.1.slots.length], 25, 0⟩, some ⟨.tr (eL r9.slots), 35, 2⟩, some ⟨.mx [.os 4 0 r9.slots.length], 25, 0⟩, some ⟨.tr (eL r11.1.slots), 35, 2⟩, some ⟨.mx [.t (.v (.slice none 0 0))], 25, 0⟩] rfl rfl ?_
  refine PL.store rfl rfl rfl rfl rfl rfl rfl ?_
  refine PL.nO [some ⟨.mx [sL p_aP.slots], 48, 0⟩, some ⟨.tr (eL r5.slots), 35, 2⟩, some ⟨.tr (eL r7.1.slots), 35, 2⟩, some ⟨.mx [.os 2 0 r7.1.slots.length], 25, 0⟩, some ⟨.tr (eL r9.slots), 35, 2⟩, some ⟨.mx [.os 4 0 r9.slots.length], 25, 0⟩, some ⟨.tr (eL r11.1.slots), 35, 2⟩, some ⟨.mx [.os 6 0 r11.1.slots.length], 25, 0⟩] rfl ?_
  refine PL.op rfl (Rd.asnT rfl) ?_
  refine PL.op rfl (Rd.asnT rfl) ?_
  refine PL.nil ?_
  refine thA_n ?_
  refine PC.seq ?_
  refine PC.seq ?_
  obtain ⟨r13, h_14, hh0⟩ := bind_some hh0
  rcases cond_some hh0 with ⟨h_15, hh0⟩ | ⟨h_15, hh0⟩
  rotate_left
  · refine PC.region ?_
    refine PL.op rfl (Rd.loadBox rfl rfl rfl) ?_
    refine PL.op rfl (Rd.loadBox rfl rfl rfl) ?_
    refine PL.callM true [] (w_L_eqPage N r11.1 r7.1 r13 h_14) rfl Try.call36 rfl ⟨.aggL ⟨.own rfl (by first | decide | exact List.not_mem_nil) rfl rfl, trivial⟩, .aggL ⟨.own rfl (by first | decide | exact List.not_mem_nil) rfl rfl, trivial⟩, trivial⟩ rfl trivial (fun _ => ⟨trivial, flat_nil⟩) ?_
    refine PL.op rfl (Rd.unnot rfl) ?_
    refine PL.op rfl (Rd.moveT rfl) ?_
    refine PL.guard_off rfl rfl (not_f h_15) ?_
    refine PL.guard_off rfl rfl (not_f h_15) ?_
    refine PL.guard_off rfl rfl (not_f h_15) ?_
    refine PL.op rfl (Rd.pick_t rfl (not_f h_15)) ?_
    refine PL.op rfl (Rd.moveT rfl) ?_
    refine PL.guard_off rfl rfl rfl ?_
    refine PL.guard_off rfl rfl rfl ?_
    refine PL.guard_off rfl rfl rfl ?_
    refine PL.op rfl (Rd.pick_t rfl rfl) ?_
    refine PL.nil ?_
    refine thA_n ?_
    refine PC.cond_true rfl rfl ?_
    refine PC.seq ?_
    refine PC.region ?_
    refine PL.op rfl (Rd.asnT rfl) ?_
    refine PL.nil ?_
    refine thA_n ?_
    refine PC.ret ?_
    refine thA_r ?_
    obtain rfl := some_in hh0
    exact FinA.mk (r := bA false) (bl := []) [] (.inl rfl) rfl (rl := [.tmp 4]) (.tmp .nil) rfl rfl rfl (.t _) trivial ⟨rfl, rfl⟩
  rcases cond_some hh0 with ⟨h_16, hh0⟩ | ⟨h_16, hh0⟩
  rotate_left
  · refine PC.region ?_
    refine PL.op rfl (Rd.loadBox rfl rfl rfl) ?_
    refine PL.op rfl (Rd.loadBox rfl rfl rfl) ?_
    refine PL.callM true [] (w_L_eqPage N r11.1 r7.1 r13 h_14) rfl Try.call36 rfl ⟨.aggL ⟨.own rfl (by first | decide | exact List.not_mem_nil) rfl rfl, trivial⟩, .aggL ⟨.own rfl (by first | decide | exact List.not_mem_nil) rfl rfl, trivial⟩, trivial⟩ rfl trivial (fun _ => ⟨trivial, flat_nil⟩) ?_
    refine PL.op rfl (Rd.unnot rfl) ?_
    refine PL.op rfl (Rd.moveT rfl) ?_
    refine PL.guard_on rfl (not_t h_15) ?_
    refine PL.op rfl (Rd.moveT rfl) ?_
    refine PL.guard_on rfl (not_t h_15) ?_
    refine PL.op rfl (Rd.moveT rfl) ?_
    refine PL.guard_on rfl (not_t h_15) ?_
    refine PL.op rfl (Rd.neq rfl rfl) ?_
    refine PL.op rfl (Rd.pick_f rfl (not_t h_15)) ?_
    refine PL.op rfl (Rd.moveT rfl) ?_
    refine PL.guard_off rfl rfl (not_f h_16) ?_
    refine PL.guard_off rfl rfl (not_f h_16) ?_
    refine PL.guard_off rfl rfl (not_f h_16) ?_
    refine PL.op rfl (Rd.pick_t rfl (not_f h_16)) ?_
    refine PL.nil ?_
    refine thA_n ?_
    refine PC.cond_true rfl rfl ?_
    refine PC.seq ?_
    refine PC.region ?_
    refine PL.op rfl (Rd.asnT rfl) ?_
    refine PL.nil ?_
    refine thA_n ?_
    refine PC.ret ?_
    refine thA_r ?_
    obtain rfl := some_in hh0
    exact FinA.mk (r := bA false) (bl := []) [] (.inl rfl) rfl (rl := [.tmp 4]) (.tmp .nil) rfl rfl rfl (.t _) trivial ⟨rfl, rfl⟩
  refine PC.region ?_
  refine PL.op rfl (Rd.loadBox rfl rfl rfl) ?_
  refine PL.op rfl (Rd.loadBox rfl rfl rfl) ?_
  refine PL.callM true [] (w_L_eqPage N r11.1 r7.1 r13 h_14) rfl Try.call36 rfl ⟨.aggL ⟨.own rfl (by first | decide | exact List.not_mem_nil) rfl rfl, trivial⟩, .aggL ⟨.own rfl (by first | decide | exact List.not_mem_nil) rfl rfl, trivial⟩, trivial⟩ rfl trivial (fun _ => ⟨trivial, flat_nil⟩) ?_
  refine PL.op rfl (Rd.unnot rfl) ?_
  refine PL.op rfl (Rd.moveT rfl) ?_
  refine PL.guard_on rfl (not_t h_15) ?_
  refine PL.op rfl (Rd.moveT rfl) ?_
  refine PL.guard_on rfl (not_t h_15) ?_
  refine PL.op rfl (Rd.moveT rfl) ?_
  refine PL.guard_on rfl (not_t h_15) ?_
  refine PL.op rfl (Rd.neq rfl rfl) ?_
  refine PL.op rfl (Rd.pick_f rfl (not_t h_15)) ?_
  refine PL.op rfl (Rd.moveT rfl) ?_
  refine PL.guard_on rfl (not_t h_16) ?_
  refine PL.op rfl (Rd.moveT rfl) ?_
  refine PL.guard_on rfl (not_t h_16) ?_
  refine PL.op rfl (Rd.moveT rfl) ?_
  refine PL.guard_on rfl (not_t h_16) ?_
  refine PL.op rfl (Rd.neqB rfl rfl) ?_
  refine PL.op rfl (Rd.pick_f rfl (not_t h_16)) ?_
  refine PL.nil ?_
  refine thA_n ?_
  rcases cond_some hh0 with ⟨h_17, hh0⟩ | ⟨h_17, hh0⟩
  rotate_left
  · refine PC.cond_true rfl (not_f h_17) ?_
    refine PC.seq ?_
    refine PC.region ?_
    refine PL.op rfl (Rd.asnT rfl) ?_
    refine PL.nil ?_
    refine thA_n ?_
    refine PC.ret ?_
    refine thA_r ?_
    obtain rfl := some_in hh0
    exact FinA.mk (r := bA false) (bl := []) [] (.inl rfl) rfl (rl := [.tmp 4]) (.tmp .nil) rfl rfl rfl (.t _) trivial ⟨rfl, rfl⟩
  refine PC.cond_false rfl (not_t h_17) ?_
  refine PC.skip ?_
  refine thA_n ?_
  refine PC.seq ?_
  refine PC.seq ?_
  obtain ⟨r18, h_19, hh0⟩ := bind_some hh0
  obtain ⟨r20, h_21, hh0⟩ := bind_some hh0
  refine PC.any (id := 12) 5 (.seg [0, 1, 2, 3, 4] .done) [] rfl (by kernel_rfl) rfl ?_
  refine PT.seg ?_
  refine PR.op rfl (Rd.loadBox rfl rfl rfl) ?_
  refine PR.op rfl (Rd.loadBox rfl rfl rfl) ?_
  refine PR.callM false [] (w_L_toPage N p_aP r18 h_19) rfl Try.call35 rfl ⟨.aggL ⟨.t _, trivial⟩, trivial⟩ rfl trivial (fun h => by cases h) rfl ?_
  refine PR.nm (.agg [.os 8 0 r18.slots.length]) [some ⟨.mx [sL p_aP.slots], 48, 0⟩, some ⟨.tr (eL r5.slots), 35, 2⟩, some ⟨.tr (eL r7.1.slots), 35, 2⟩, some ⟨.mx [.os 2 0 r7.1.slots.length], 25, 0⟩, some ⟨.tr (eL r9.slots), 35, 2⟩, some ⟨.mx [.os 4 0 r9.slots.length], 25, 0⟩, some ⟨.tr (eL r11.1.slots), 35, 2⟩, some ⟨.mx [.os 6 0 r11.1.slots.length], 25, 0⟩, some ⟨.tr (eL r18.slots), 35, 2⟩] rfl rfl ?_
  refine PR.callM true [] (w_L_eqPage N r9 r18 r20 h_21) rfl Try.call36 rfl ⟨.aggL ⟨.own rfl (by first | decide | exact List.not_mem_nil) rfl rfl, trivial⟩, .aggL ⟨.own rfl (by first | decide | exact List.not_mem_nil) rfl rfl, trivial⟩, trivial⟩ rfl trivial (fun _ => ⟨trivial, flat_nil⟩) rfl ?_
  refine PR.op rfl (Rd.unnot rfl) ?_
  refine PR.nil ?_
  refine PT.done ?_
  refine PL.nil ?_
  refine thA_n ?_
  rcases cond_some hh0 with ⟨h_22, hh0⟩ | ⟨h_22, hh0⟩
  rotate_left
  · refine PC.cond_true rfl (not_f h_22) ?_
    refine PC.seq ?_
    refine PC.region ?_
    refine PL.op rfl (Rd.asnT rfl) ?_
    refine PL.nil ?_
    refine thA_n ?_
    refine PC.ret ?_
    refine thA_r ?_
    obtain rfl := some_in hh0
    exact FinA.mk (r := bA false) (bl := []) [] (.inl rfl) rfl (rl := [.tmp 4]) (.tmp .nil) rfl rfl rfl (.t _) trivial ⟨rfl, rfl⟩
  refine PC.cond_false rfl (not_t h_22) ?_
  refine PC.skip ?_
  refine thA_n ?_
  refine PC.seq ?_
  refine PC.region ?_
  refine PL.op rfl (Rd.asnT rfl) ?_
  refine PL.nil ?_
  refine thA_n ?_
  refine PC.seq ?_
  obtain ⟨r23, h_24, hh0⟩ := bind_some hh0
  refine PC.region ?_
  refine PL.op rfl (Rd.loadBox rfl rfl rfl) ?_
  refine PL.op rfl (Rd.moveT rfl) ?_
  refine PL.callM false [4] (w_L_markPage N r9 (1 : Int) r23 h_24) rfl Try.call37 rfl ⟨.aggL ⟨.os rfl, trivial⟩, .t _, trivial⟩ rfl ⟨⟨_, rfl, rfl, rfl, .tr _⟩, trivial⟩ (fun h => by cases h) ?_
  refine PL.nm (iA r23.1) [some ⟨.mx [sL p_aP.slots], 48, 0⟩, some ⟨.tr (eL r5.slots), 35, 2⟩, some ⟨.tr (eL r7.1.slots), 35, 2⟩, some ⟨.mx [.os 2 0 r7.1.slots.length], 25, 0⟩, some ⟨.tr (eL r23.2), 35, 2⟩, some ⟨.mx [.os 4 0 r9.slots.length], 25, 0⟩, some ⟨.tr (eL r11.1.slots), 35, 2⟩, some ⟨.mx [.os 6 0 r11.1.slots.length], 25, 0⟩, some ⟨.tr (eL r18.slots), 35, 2⟩] rfl rfl ?_
  refine PL.op rfl (Rd.asnT rfl) ?_
  refine PL.nil ?_
  refine thA_n ?_
  refine PC.seq ?_
  refine PC.seq ?_
  rcases cond_some hh0 with ⟨h_25, hh0⟩ | ⟨h_25, hh0⟩
  · refine PC.region ?_
    refine PL.op rfl (Rd.moveT rfl) ?_
    refine PL.op rfl (Rd.lss rfl rfl) ?_
    refine PL.op rfl (Rd.moveT rfl) ?_
    refine PL.guard_off rfl rfl h_25 ?_
    refine PL.guard_off rfl rfl h_25 ?_
    refine PL.guard_off rfl rfl h_25 ?_
    refine PL.guard_off rfl rfl h_25 ?_
    refine PL.op rfl (Rd.pick_t rfl h_25) ?_
    refine PL.op rfl (Rd.moveT rfl) ?_
    refine PL.guard_off rfl rfl rfl ?_
    refine PL.guard_off rfl rfl rfl ?_
    refine PL.guard_off rfl rfl rfl ?_
    refine PL.op rfl (Rd.pick_t rfl rfl) ?_
    refine PL.op rfl (Rd.moveT rfl) ?_
    refine PL.guard_off rfl rfl rfl ?_
    refine PL.guard_off rfl rfl rfl ?_
    refine PL.guard_off rfl rfl rfl ?_
    refine PL.op rfl (Rd.pick_t rfl rfl) ?_
    refine PL.nil ?_
    refine thA_n ?_
    refine PC.cond_true rfl rfl ?_
    refine PC.seq ?_
    refine PC.region ?_
    refine PL.op rfl (Rd.asnT rfl) ?_
    refine PL.nil ?_
    refine thA_n ?_
    refine PC.ret ?_
    refine thA_r ?_
    obtain rfl := some_in hh0
    exact FinA.mk (r := bA false) (bl := []) [] (.inl rfl) rfl (rl := [.tmp 4]) (.tmp .nil) rfl rfl rfl (.t _) trivial ⟨rfl, rfl⟩
  obtain ⟨r26, h_27, hh0⟩ := bind_some hh0
  rcases cond_some hh0 with ⟨h_28, hh0⟩ | ⟨h_28, hh0⟩
  rotate_left
  · refine PC.region ?_
    refine PL.op rfl (Rd.moveT rfl) ?_
    refine PL.op rfl (Rd.lss rfl rfl) ?_
    refine PL.op rfl (Rd.moveT rfl) ?_
    refine PL.guard_on rfl h_25 ?_
    refine PL.op rfl (Rd.loadBox rfl rfl rfl) ?_
    refine PL.guard_on rfl h_25 ?_
    refine PL.op rfl (Rd.loadBox rfl rfl rfl) ?_
    refine PL.guard_on rfl h_25 ?_
    refine PL.callM true [] (w_L_eqPage N r11.1 r7.1 r26 h_27) rfl Try.call36 rfl ⟨.aggL ⟨.own rfl (by first | decide | exact List.not_mem_nil) rfl rfl, trivial⟩, .aggL ⟨.own rfl (by first | decide | exact List.not_mem_nil) rfl rfl, trivial⟩, trivial⟩ rfl trivial (fun _ => ⟨trivial, flat_nil⟩) ?_
    refine PL.guard_on rfl h_25 ?_
    refine PL.op rfl (Rd.unnot rfl) ?_
    refine PL.op rfl (Rd.pick_f rfl h_25) ?_
    refine PL.op rfl (Rd.moveT rfl) ?_
    refine PL.guard_off rfl rfl (not_f h_28) ?_
    refine PL.guard_off rfl rfl (not_f h_28) ?_
    refine PL.guard_off rfl rfl (not_f h_28) ?_
    refine PL.op rfl (Rd.pick_t rfl (not_f h_28)) ?_
    refine PL.op rfl (Rd.moveT rfl) ?_
    refine PL.guard_off rfl rfl rfl ?_
    refine PL.guard_off rfl rfl rfl ?_
    refine PL.guard_off rfl rfl rfl ?_
    refine PL.op rfl (Rd.pick_t rfl rfl) ?_
    refine PL.nil ?_
    refine thA_n ?_
    refine PC.cond_true rfl rfl ?_
    refine PC.seq ?_
    refine PC.region ?_
    refine PL.op rfl (Rd.asnT rfl) ?_
    refine PL.nil ?_
    refine thA_n ?_
    refine PC.ret ?_
    refine thA_r ?_
    obtain rfl := some_in hh0
    exact FinA.mk (r := bA false) (bl := []) [] (.inl rfl) rfl (rl := [.tmp 4]) (.tmp .nil) rfl rfl rfl (.t _) trivial ⟨rfl, rfl⟩
  refine PC.region ?_
  refine PL.op rfl (Rd.moveT rfl) ?_
  refine PL.op rfl (Rd.lss rfl rfl) ?_
  refine PL.op rfl (Rd.moveT rfl) ?_
  refine PL.guard_on rfl h_25 ?_
  refine PL.op rfl (Rd.loadBox rfl rfl rfl) ?_
  refine PL.guard_on rfl h_25 ?_
  refine PL.op rfl (Rd.loadBox rfl rfl rfl) ?_
  refine PL.guard_on rfl h_25 ?_
  refine PL.callM true [] (w_L_eqPage N r11.1 r7.1 r26 h_27) rfl Try.call36 rfl ⟨.aggL ⟨.own rfl (by first | decide | exact List.not_mem_nil) rfl rfl, trivial⟩, .aggL ⟨.own rfl (by first | decide | exact List.not_mem_nil) rfl rfl, trivial⟩, trivial⟩ rfl trivial (fun _ => ⟨trivial, flat_nil⟩) ?_
  refine PL.guard_on rfl h_25 ?_
  refine PL.op rfl (Rd.unnot rfl) ?_
  refine PL.op rfl (Rd.pick_f rfl h_25) ?_
  refine PL.op rfl (Rd.moveT rfl) ?_
  refine PL.guard_on rfl (not_t h_28) ?_
  refine PL.op rfl (Rd.moveT rfl) ?_
  refine PL.guard_on rfl (not_t h_28) ?_
  refine PL.op rfl (Rd.moveT rfl) ?_
  refine PL.guard_on rfl (not_t h_28) ?_
  refine PL.op rfl (Rd.neq rfl rfl) ?_
  refine PL.op rfl (Rd.pick_f rfl (not_t h_28)) ?_
  refine PL.op rfl (Rd.moveT rfl) ?_
  refine PL.guard_on rfl (not_t h_16) ?_
  refine PL.op rfl (Rd.moveT rfl) ?_
  refine PL.guard_on rfl (not_t h_16) ?_
  refine PL.op rfl (Rd.moveT rfl) ?_
  refine PL.guard_on rfl (not_t h_16) ?_
  refine PL.op rfl (Rd.neqB rfl rfl) ?_
  refine PL.op rfl (Rd.pick_f rfl (not_t h_16)) ?_
  refine PL.nil ?_
  refine thA_n ?_
  refine PC.cond_false rfl (not_t h_17) ?_
  refine PC.skip ?_
  refine thA_n ?_
  refine PC.seq ?_
  refine PC.region ?_
  refine PL.op rfl (Rd.asnT rfl) ?_
  refine PL.nil ?_
  refine thA_n ?_
  refine PC.seq ?_
  obtain ⟨r29, h_30, hh0⟩ := bind_some hh0
  refine PC.region ?_
  refine PL.op rfl (Rd.loadBox rfl rfl rfl) ?_
  refine PL.op rfl (Rd.moveT rfl) ?_
  refine PL.callM false [6] (w_L_markPage N r11.1 (1 : Int) r29 h_30) rfl Try.call37 rfl ⟨.aggL ⟨.os rfl, trivial⟩, .t _, trivial⟩ rfl ⟨⟨_, rfl, rfl, rfl, .tr _⟩, trivial⟩ (fun h => by cases h) ?_
  refine PL.nm (iA r29.1) [some ⟨.mx [sL p_aP.slots], 48, 0⟩, some ⟨.tr (eL r5.slots), 35, 2⟩, some ⟨.tr (eL r7.1.slots), 35, 2⟩, some ⟨.mx [.os 2 0 r7.1.slots.length], 25, 0⟩, some ⟨.tr (eL r23.2), 35, 2⟩, some ⟨.mx [.os 4 0 r9.slots.length], 25, 0⟩, some ⟨.tr (eL r29.2), 35, 2⟩, some ⟨.mx [.os 6 0 r11.1.slots.length], 25, 0⟩, some ⟨.tr (eL r18.slots), 35, 2⟩] rfl rfl ?_
  refine PL.op rfl (Rd.asnT rfl) ?_
  refine PL.nil ?_
  refine thA_n ?_
  refine PC.seq ?_
  refine PC.region ?_
  refine PL.op rfl (Rd.asnT rfl) ?_
  refine PL.nil ?_
  refine thA_n ?_
  refine PC.seq ?_
  obtain ⟨r31, h_32, hh0⟩ := bind_some hh0
  refine PC.region ?_
  refine PL.op rfl (Rd.loadBox rfl rfl rfl) ?_
  refine PL.op rfl (Rd.moveT rfl) ?_
  refine PL.callM true [] (w_L_heldPage N (I_Page.mk r29.2) (1 : Int) r31 h_32) rfl Try.call38 rfl ⟨.aggL ⟨.own rfl (by first | decide | exact List.not_mem_nil) (by simp only [List.length_set, len_L_markPage N _ _ _ h_30]) rfl, trivial⟩, .t _, trivial⟩ rfl trivial (fun _ => ⟨trivial, flat_nil⟩) ?_
  refine PL.op rfl (Rd.asnT rfl) ?_
  refine PL.nil ?_
  refine thA_n ?_
  refine PC.seq ?_
  refine PC.seq ?_
  refine PC.region ?_
  refine PL.op rfl (Rd.moveT rfl) ?_
  refine PL.op rfl (Rd.lss rfl rfl) ?_
  refine PL.nil ?_
  refine thA_n ?_
  rcases cond_some hh0 with ⟨h_33, hh0⟩ | ⟨h_33, hh0⟩
  · refine PC.cond_true rfl h_33 ?_
    refine PC.seq ?_
    refine PC.region ?_
    refine PL.op rfl (Rd.asnT rfl) ?_
    refine PL.nil ?_
    refine thA_n ?_
    refine PC.ret ?_
    refine thA_r ?_
    obtain rfl := some_in hh0
    exact FinA.mk (r := bA false) (bl := []) [] (.inl rfl) rfl (rl := [.tmp 4]) (.tmp .nil) rfl rfl rfl (.t _) trivial ⟨rfl, rfl⟩
  refine PC.cond_false rfl h_33 ?_
  refine PC.skip ?_
  refine thA_n ?_
  refine PC.seq ?_
  refine PC.seq ?_
  refine PC.region ?_
  refine PL.op rfl (Rd.moveT rfl) ?_
  refine PL.op rfl (Rd.moveT rfl) ?_
  refine PL.op rfl (Rd.neq rfl rfl) ?_
  refine PL.nil ?_
  refine thA_n ?_
  rcases cond_some hh0 with ⟨h_34, hh0⟩ | ⟨h_34, hh0⟩
  rotate_left
  · refine PC.cond_true rfl (not_f h_34) ?_
    refine PC.seq ?_
    refine PC.region ?_
    refine PL.op rfl (Rd.asnT rfl) ?_
    refine PL.nil ?_
    refine thA_n ?_
    refine PC.ret ?_
    refine thA_r ?_
    obtain rfl := some_in hh0
    exact FinA.mk (r := bA false) (bl := []) [] (.inl rfl) rfl (rl := [.tmp 4]) (.tmp .nil) rfl rfl rfl (.t _) trivial ⟨rfl, rfl⟩
  refine PC.cond_false rfl (not_t h_34) ?_
  refine PC.skip ?_
  refine thA_n ?_
  refine PC.seq ?_
  obtain ⟨r35, h_36, hh0⟩ := bind_some hh0
  obtain ⟨r37, h_38, hh0⟩ := bind_some hh0
  refine PC.region ?_
  refine PL.op rfl (Rd.loadBox rfl rfl rfl) ?_
  refine PL.callM false [] (w_L_toPage N p_aP r35 h_36) rfl Try.call35 rfl ⟨.aggL ⟨.t _, trivial⟩, trivial⟩ rfl trivial (fun h => by cases h) ?_
  refine PL.nm (.agg [.os 9 0 r35.slots.length]) [some ⟨.mx [sL p_aP.slots], 48, 0⟩, some ⟨.tr (eL r5.slots), 35, 2⟩, some ⟨.tr (eL r7.1.slots), 35, 2⟩, some ⟨.mx [.os 2 0 r7.1.slots.length], 25, 0⟩, some ⟨.tr (eL r23.2), 35, 2⟩, some ⟨.mx [.os 4 0 r9.slots.length], 25, 0⟩, some ⟨.tr (eL r29.2), 35, 2⟩, some ⟨.mx [.os 6 0 r11.1.slots.length], 25, 0⟩, some ⟨.tr (eL r18.slots), 35, 2⟩, some ⟨.tr (eL r35.slots), 35, 2⟩] rfl rfl ?_
  refine PL.op rfl (Rd.moveT rfl) ?_
  refine PL.callM true [] (w_I_PutSlot N r35 p_aData r37 h_38) rfl Try.call22 rfl ⟨.aggL ⟨.own rfl (by first | decide | exact List.not_mem_nil) rfl rfl, trivial⟩, .t _, trivial⟩ rfl trivial (fun _ => ⟨⟨⟨trivial, trivial⟩, trivial, trivial, trivial⟩, (flat_cons flat_ow flat_nil)⟩) ?_
  refine PL.nm (.tup [.agg [.os 10 0 r37.1.slots.length], iA r37.2.1, bA r37.2.2]) [some ⟨.mx [sL p_aP.slots], 48, 0⟩, some ⟨.tr (eL r5.slots), 35, 2⟩, some ⟨.tr (eL r7.1.slots), 35, 2⟩, some ⟨.mx [.os 2 0 r7.1.slots.length], 25, 0⟩, some ⟨.tr (eL r23.2), 35, 2⟩, some ⟨.mx [.os 4 0 r9.slots.length], 25, 0⟩, some ⟨.tr (eL r29.2), 35, 2⟩, some ⟨.mx [.os 6 0 r11.1.slots.length], 25, 0⟩, some ⟨.tr (eL r18.slots), 35, 2⟩, some ⟨.tr (eL r35.slots), 35, 2⟩, some ⟨.tr (eL r37.1.slots), 35, 2⟩] rfl rfl ?_
  refine PL.op rfl (Rd.moveU rfl) ?_
  refine PL.op rfl (Rd.extract rfl rfl) ?_
  refine PL.op rfl (Rd.extract rfl rfl) ?_
  refine PL.op rfl (Rd.extract rfl rfl) ?_
  refine PL.ef rfl (Ef.alloc rfl rfl) ?_
  refine PL.nm (.op 11 0) [some ⟨.mx [sL p_aP.slots], 48, 0⟩, some ⟨.tr (eL r5.slots), 35, 2⟩, some ⟨.tr (eL r7.1.slots), 35, 2⟩, some ⟨.mx [.os 2 0 r7.1.slots.length], 25, 0⟩, some ⟨.tr (eL r23.2), 35, 2⟩, some ⟨.mx [.os 4 0 r9.slots.length], 25, 0⟩, some ⟨.tr (eL r29.2), 35, 2⟩, some ⟨.mx [.os 6 0 r11.1.slots.length], 25, 0⟩, some ⟨.tr (eL r18.slots), 35, 2⟩, some ⟨.tr (eL r35.slots), 35, 2⟩, some ⟨.tr (eL r37.1.slots), 35, 2⟩, some ⟨.mx [.t (.v (.slice none 0 0))], 25, 0⟩] rfl rfl ?_
  refine PL.store rfl rfl rfl rfl rfl rfl rfl ?_
  refine PL.nO [some ⟨.mx [sL p_aP.slots], 48, 0⟩, some ⟨.tr (eL r5.slots), 35, 2⟩, some ⟨.tr (eL r7.1.slots), 35, 2⟩, some ⟨.mx [.os 2 0 r7.1.slots.length], 25, 0⟩, some ⟨.tr (eL r23.2), 35, 2⟩, some ⟨.mx [.os 4 0 r9.slots.length], 25, 0⟩, some ⟨.tr (eL r29.2), 35, 2⟩, some ⟨.mx [.os 6 0 r11.1.slots.length], 25, 0⟩, some ⟨.tr (eL r18.slots), 35, 2⟩, some ⟨.tr (eL r35.slots), 35, 2⟩, some ⟨.tr (eL r37.1.slots), 35, 2⟩, some ⟨.mx [.os 10 0 r37.1.slots.length], 25, 0⟩] rfl ?_
  refine PL.op rfl (Rd.asnT rfl) ?_
  refine PL.op rfl (Rd.asnT rfl) ?_
  refine PL.nil ?_
  refine thA_n ?_
  refine PC.seq ?_
  refine PC.seq ?_
  obtain ⟨r39, h_40, hh0⟩ := bind_some hh0
  rcases cond_some hh0 with ⟨h_41, hh0⟩ | ⟨h_41, hh0⟩
  rotate_left
  · refine PC.region ?_
    refine PL.op rfl (Rd.loadBox rfl rfl rfl) ?_
    refine PL.op rfl (Rd.loadBox rfl rfl rfl) ?_
    refine PL.callM true [] (w_L_eqPage N r37.1 r7.1 r39 h_40) rfl Try.call36 rfl ⟨.aggL ⟨.own rfl (by first | decide | exact List.not_mem_nil) rfl rfl, trivial⟩, .aggL ⟨.own rfl (by first | decide | exact List.not_mem_nil) rfl rfl, trivial⟩, trivial⟩ rfl trivial (fun _ => ⟨trivial, flat_nil⟩) ?_
    refine PL.op rfl (Rd.unnot rfl) ?_
    refine PL.op rfl (Rd.moveT rfl) ?_
    refine PL.guard_off rfl rfl (not_f h_41) ?_
    refine PL.guard_off rfl rfl (not_f h_41) ?_
    refine PL.guard_off rfl rfl (not_f h_41) ?_
    refine PL.op rfl (Rd.pick_t rfl (not_f h_41)) ?_
    refine PL.op rfl (Rd.moveT rfl) ?_
    refine PL.guard_off rfl rfl rfl ?_
    refine PL.guard_off rfl rfl rfl ?_
    refine PL.guard_off rfl rfl rfl ?_
    refine PL.op rfl (Rd.pick_t rfl rfl) ?_
    refine PL.nil ?_
    refine thA_n ?_
    refine PC.cond_true rfl rfl ?_
    refine PC.seq ?_
    refine PC.region ?_
    refine PL.op rfl (Rd.asnT rfl) ?_
    refine PL.nil ?_
    refine thA_n ?_
    refine PC.ret ?_
    refine thA_r ?_
    obtain rfl := some_in hh0
    exact FinA.mk (r := bA false) (bl := []) [] (.inl rfl) rfl (rl := [.tmp 4]) (.tmp .nil) rfl rfl rfl (.t _) trivial ⟨rfl, rfl⟩
  rcases cond_some hh0 with ⟨h_42, hh0⟩ | ⟨h_42, hh0⟩
  rotate_left
  · refine PC.region ?_
    refine PL.op rfl (Rd.loadBox rfl rfl rfl) ?_
    refine PL.op rfl (Rd.loadBox rfl rfl rfl) ?_
    refine PL.callM true [] (w_L_eqPage N r37.1 r7.1 r39 h_40) rfl Try.call36 rfl ⟨.aggL ⟨.own rfl (by first | decide | exact List.not_mem_nil) rfl rfl, trivial⟩, .aggL ⟨.own rfl (by first | decide | exact List.not_mem_nil) rfl rfl, trivial⟩, trivial⟩ rfl trivial (fun _ => ⟨trivial, flat_nil⟩) ?_
    refine PL.op rfl (Rd.unnot rfl) ?_
    refine PL.op rfl (Rd.moveT rfl) ?_
    refine PL.guard_on rfl (not_t h_41) ?_
    refine PL.op rfl (Rd.moveT rfl) ?_
    refine PL.guard_on rfl (not_t h_41) ?_
    refine PL.op rfl (Rd.moveT rfl) ?_
    refine PL.guard_on rfl (not_t h_41) ?_
    refine PL.op rfl (Rd.neq rfl rfl) ?_
    refine PL.op rfl (Rd.pick_f rfl (not_t h_41)) ?_
    refine PL.op rfl (Rd.moveT rfl) ?_
    refine PL.guard_off rfl rfl (not_f h_42) ?_
    refine PL.guard_off rfl rfl (not_f h_42) ?_
    refine PL.guard_off rfl rfl (not_f h_42) ?_
    refine PL.op rfl (Rd.pick_t rfl (not_f h_42)) ?_
    refine PL.nil ?_
    refine thA_n ?_
    refine PC.cond_true rfl rfl ?_
    refine PC.seq ?_
    refine PC.region ?_
    refine PL.op rfl (Rd.asnT rfl) ?_
    refine PL.nil ?_
    refine thA_n ?_
    refine PC.ret ?_
    refine thA_r ?_
    obtain rfl := some_in hh0
    exact FinA.mk (r := bA false) (bl := []) [] (.inl rfl) rfl (rl := [.tmp 4]) (.tmp .nil) rfl rfl rfl (.t _) trivial ⟨rfl, rfl⟩
  refine PC.region ?_
  refine PL.op rfl (Rd.loadBox rfl rfl rfl) ?_
  refine PL.op rfl (Rd.loadBox rfl rfl rfl) ?_
  refine PL.callM true [] (w_L_eqPage N r37.1 r7.1 r39 h_40) rfl Try.call36 rfl ⟨.aggL ⟨.own rfl (by first | decide | exact List.not_mem_nil) rfl rfl, trivial⟩, .aggL ⟨.own rfl (by first | decide | exact List.not_mem_nil) rfl rfl, trivial⟩, trivial⟩ rfl trivial (fun _ => ⟨trivial, flat_nil⟩) ?_
  refine PL.op rfl (Rd.unnot rfl) ?_
  refine PL.op rfl (Rd.moveT rfl) ?_
  refine PL.guard_on rfl (not_t h_41) ?_
  refine PL.op rfl (Rd.moveT rfl) ?_
  refine PL.guard_on rfl (not_t h_41) ?_
  refine PL.op rfl (Rd.moveT rfl) ?_
  refine PL.guard_on rfl (not_t h_41) ?_
  refine PL.op rfl (Rd.neq rfl rfl) ?_
  refine PL.op rfl (Rd.pick_f rfl (not_t h_41)) ?_
  refine PL.op rfl (Rd.moveT rfl) ?_
  refine PL.guard_on rfl (not_t h_42) ?_
  refine PL.op rfl (Rd.moveT rfl) ?_
  refine PL.guard_on rfl (not_t h_42) ?_
  refine PL.op rfl (Rd.moveT rfl) ?_
  refine PL.guard_on rfl (not_t h_42) ?_
  refine PL.op rfl (Rd.neqB rfl rfl) ?_
  refine PL.op rfl (Rd.pick_f rfl (not_t h_42)) ?_
  refine PL.nil ?_
  refine thA_n ?_
  rcases cond_some hh0 with ⟨h_43, hh0⟩ | ⟨h_43, hh0⟩
  rotate_left
  · refine PC.cond_true rfl (not_f h_43) ?_
    refine PC.seq ?_
    refine PC.region ?_
    refine PL.op rfl (Rd.asnT rfl) ?_
    refine PL.nil ?_
    refine thA_n ?_
    refine PC.ret ?_
    refine thA_r ?_
    obtain rfl := some_in hh0
    exact FinA.mk (r := bA false) (bl := []) [] (.inl rfl) rfl (rl := [.tmp 4]) (.tmp .nil) rfl rfl rfl (.t _) trivial ⟨rfl, rfl⟩
  refine PC.cond_false rfl (not_t h_43) ?_
  refine PC.skip ?_
  refine thA_n ?_
  refine PC.seq ?_
  refine PC.region ?_
  refine PL.op rfl (Rd.asnT rfl) ?_
  refine PL.nil ?_
  refine thA_n ?_
  refine PC.seq ?_
  obtain ⟨r44, h_45, hh0⟩ := bind_some hh0
  refine PC.region ?_
  refine PL.op rfl (Rd.loadBox rfl rfl rfl) ?_
  refine PL.op rfl (Rd.moveT rfl) ?_
  refine PL.callM true [] (w_L_heldPage N (I_Page.mk r29.2) (1 : Int) r44 h_45) rfl Try.call38 rfl ⟨.aggL ⟨.own rfl (by first | decide | exact List.not_mem_nil) (by simp only [List.length_set, len_L_markPage N _ _ _ h_30]) rfl, trivial⟩, .t _, trivial⟩ rfl trivial (fun _ => ⟨trivial, flat_nil⟩) ?_
  refine PL.op rfl (Rd.asnT rfl) ?_
  refine PL.nil ?_
  refine thA_n ?_
  refine PC.seq ?_
  refine PC.seq ?_
  refine PC.region ?_
  refine PL.op rfl (Rd.moveT rfl) ?_
  refine PL.op rfl (Rd.lss rfl rfl) ?_
  refine PL.nil ?_
  refine thA_n ?_
  rcases cond_some hh0 with ⟨h_46, hh0⟩ | ⟨h_46, hh0⟩
  · refine PC.cond_true rfl h_46 ?_
    refine PC.seq ?_
    refine PC.region ?_
    refine PL.op rfl (Rd.asnT rfl) ?_
    refine PL.nil ?_
    refine thA_n ?_
    refine PC.ret ?_
    refine thA_r ?_
    obtain rfl := some_in hh0
    exact FinA.mk (r := bA false) (bl := []) [] (.inl rfl) rfl (rl := [.tmp 4]) (.tmp .nil) rfl rfl rfl (.t _) trivial ⟨rfl, rfl⟩
  refine PC.cond_false rfl h_46 ?_
  refine PC.skip ?_
  refine thA_n ?_
  refine PC.seq ?_
  refine PC.seq ?_
  refine PC.region ?_
  refine PL.op rfl (Rd.moveT rfl) ?_
  refine PL.op rfl (Rd.moveT rfl) ?_
  refine PL.op rfl (Rd.neq rfl rfl) ?_
  refine PL.nil ?_
  refine thA_n ?_
  rcases cond_some hh0 with ⟨h_47, hh0⟩ | ⟨h_47, hh0⟩
  rotate_left
  · refine PC.cond_true rfl (not_f h_47) ?_
    refine PC.seq ?_
    refine PC.region ?_
    refine PL.op rfl (Rd.asnT rfl) ?_
    refine PL.nil ?_
    refine thA_n ?_
    refine PC.ret ?_
    refine thA_r ?_
    obtain rfl := some_in hh0
    exact FinA.mk (r := bA false) (bl := []) [] (.inl rfl) rfl (rl := [.tmp 4]) (.tmp .nil) rfl rfl rfl (.t _) trivial ⟨rfl, rfl⟩
  refine PC.cond_false rfl (not_t h_47) ?_
  refine PC.skip ?_
  refine thA_n ?_
  refine PC.seq ?_
  refine PC.region ?_
  refine PL.op rfl (Rd.asnT rfl) ?_
  refine PL.nil ?_
  refine thA_n ?_
  refine PC.ret ?_
  obtain rfl := some_in hh0
  exact FinA.mk (r := bA true) (bl := []) [] (.inl rfl) rfl (rl := [.tmp 4]) (.tmp .nil) rfl rfl rfl (.t _) trivial ⟨rfl, rfl⟩

end V
end Go.Proofs.Ytoljdhdfijnjiaa
