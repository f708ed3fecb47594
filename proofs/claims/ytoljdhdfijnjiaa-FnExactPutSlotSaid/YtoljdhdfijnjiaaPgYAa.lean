/- Pages: an exact law's function. No condition. -/
import Derived.Test.YtoljdhdfijnjiaaPlPgX
namespace Go.Proofs.Ytoljdhdfijnjiaa
namespace V
open Enc (enc)
set_option linter.unusedVariables false
set_option linter.unusedSimpArgs false
set_option maxHeartbeats 4000000
set_option maxRecDepth 100000
open Go.RowKit
attribute [local irreducible] thA inA FinA eL

def m_L_FnExactClearSlot (N : Nat) (p_aP : L_Page) (p_aAt : Int) : Option (Bool) :=
  (m_L_szPage N p_aP (1048576 : Int)).bind fun r1 =>
  cond (decide (r1 < (0 : Int)))
    (some true)
    ((m_L_toPage N p_aP).bind fun r4 =>
    (m_S_ClearSlot N r4 p_aAt).bind fun r6 =>
    (m_L_toPage N p_aP).bind fun r8 =>
    (m_I_ClearSlot N r8 p_aAt).bind fun r10 =>
    (m_L_eqPage N r10.1 r6.1).bind fun r12 =>
    cond r12
      (cond (r10.2 == r6.2)
        ((m_L_toPage N p_aP).bind fun r16 =>
        (m_L_eqPage N r8 r16).bind fun r18 =>
        cond r18
          ((m_L_markPage N r8 (1 : Int)).bind fun r21 =>
          cond (decide (r21.1 < (0 : Int)))
            (some false)
            ((m_L_eqPage N r10.1 r6.1).bind fun r24 =>
            cond r24
              ((m_L_markPage N r10.1 (1 : Int)).bind fun r27 =>
              (m_L_heldPage N (I_Page.mk r27.2) (1 : Int)).bind fun r29 =>
              cond (decide (r29 < (0 : Int)))
                (some false)
                (cond (decide (r29 = r27.1))
                  ((m_L_toPage N p_aP).bind fun r33 =>
                  (m_I_ClearSlot N r33 p_aAt).bind fun r35 =>
                  (m_L_eqPage N r35.1 r6.1).bind fun r37 =>
                  cond r37
                    (cond (r35.2 == r6.2)
                      ((m_L_heldPage N (I_Page.mk r27.2) (1 : Int)).bind fun r41 =>
                      cond (decide (r41 < (0 : Int)))
                        (some false)
                        (cond (decide (r41 = r27.1))
                          (some true)
                          (some false)))
                      (some false))
                    (some false))
                  (some false)))
              (some false)))
          (some false))
        (some false))
      (some false))
theorem w_L_FnExactClearSlot (N : Nat) (p_aP : L_Page) (p_aAt : Int) (r : Bool) (hh0 : m_L_FnExactClearSlot N p_aP p_aAt = some r) : FnX Try.prog 9 [] [.agg [sL p_aP.slots], iA p_aAt] (RE (bA r) []) := by
  unfold m_L_FnExactClearSlot at hh0
  refine FnX.mk Try.func9 rfl rfl ?_
  intro s hs
  refine PC.seq ?_
  refine PC.region ?_
  refine PL.ef rfl (Ef.box rfl rfl rfl) ?_
  refine PL.nm (.op 0 0) [some ⟨.mx [sL p_aP.slots], 48, 0⟩] rfl rfl ?_
  refine PL.op rfl (Rd.asnT rfl) ?_
  refine PL.nil ?_
  refine thA_n ?_
  refine PC.seq ?_
  refine PC.region ?_
  refine PL.op rfl (Rd.asnT rfl) ?_
  refine PL.nil ?_
  refine thA_n ?_
  refine PC.seq ?_
  obtain ⟨r1, h_2, hh0⟩ := bind_some hh0
  refine PC.region ?_
  refine PL.op rfl (Rd.loadBox rfl rfl rfl) ?_
  refine PL.op rfl (Rd.moveT rfl) ?_
  refine PL.callM false [] (w_L_szPage N p_aP (1048576 : Int) r1 h_2) rfl Try.call34 rfl ⟨.aggL ⟨.t _, trivial⟩, .t _, trivial⟩ rfl trivial (fun h => by cases h) ?_
  refine PL.op rfl (Rd.asnT rfl) ?_
  refine PL.nil ?_
  refine thA_n ?_
  refine PC.seq ?_
  refine PC.seq ?_
  refine PC.region ?_
  refine PL.op rfl (Rd.moveT rfl) ?_
  refine PL.op rfl (Rd.lss rfl rfl) ?_
  refine PL.nil ?_
  refine thA_n ?_
  rcases cond_some hh0 with ⟨h_3, hh0⟩ | ⟨h_3, hh0⟩
  · refine PC.cond_true rfl h_3 ?_
    refine PC.seq ?_
    refine PC.region ?_
    refine PL.op rfl (Rd.asnT rfl) ?_
    refine PL.nil ?_
    refine thA_n ?_
    refine PC.ret ?_
    refine thA_r ?_
    obtain rfl := some_in hh0
    exact FinA.mk (r := bA true) (bl := []) [] (.inl rfl) rfl (rl := [.tmp 4]) (.tmp .nil) rfl rfl rfl (.t _) trivial ⟨rfl, rfl⟩
  refine PC.cond_false rfl h_3 ?_
  refine PC.skip ?_
  refine thA_n ?_
  refine PC.seq ?_
  obtain ⟨r4, h_5, hh0⟩ := bind_some hh0
  obtain ⟨r6, h_7, hh0⟩ := bind_some hh0
  refine PC.region ?_
  refine PL.op rfl (Rd.loadBox rfl rfl rfl) ?_
  refine PL.callM false [] (w_L_toPage N p_aP r4 h_5) rfl Try.call35 rfl ⟨.aggL ⟨.t _, trivial⟩, trivial⟩ rfl trivial (fun h => by cases h) ?_
  refine PL.nm (.agg [.os 1 0 r4.slots.length]) [some ⟨.mx [sL p_aP.slots], 48, 0⟩, some ⟨.tr (eL r4.slots), 35, 2⟩] rfl rfl ?_
  refine PL.op rfl (Rd.moveT rfl) ?_
  refine PL.callM true [] (w_S_ClearSlot N r4 p_aAt r6 h_7) rfl Try.call33 rfl ⟨.aggL ⟨.own rfl (by first | decide | exact List.not_mem_nil) rfl rfl, trivial⟩, .t _, trivial⟩ rfl trivial (fun _ => ⟨⟨⟨trivial, trivial⟩, trivial, trivial⟩, (flat_cons flat_ow flat_nil)⟩) ?_
  refine PL.nm (.tup [.agg [.os 2 0 r6.1.slots.length], bA r6.2]) [some ⟨.mx [sL p_aP.slots], 48, 0⟩, some ⟨.tr (eL r4.slots), 35, 2⟩, some ⟨.tr (eL r6.1.slots), 35, 2⟩] rfl rfl ?_
  refine PL.op rfl (Rd.moveU rfl) ?_
  refine PL.op rfl (Rd.extract rfl rfl) ?_
  refine PL.op rfl (Rd.extract rfl rfl) ?_
  refine PL.ef rfl (Ef.alloc rfl rfl) ?_
  refine PL.nm (.op 3 0) [some ⟨.mx [sL p_aP.slots], 48, 0⟩, some ⟨.tr (eL r4.slots), 35, 2⟩, some ⟨.tr (eL r6.1.slots), 35, 2⟩, some ⟨.mx [.t (.v (.slice none 0 0))], 25, 0⟩] rfl rfl ?_
  refine PL.store rfl rfl rfl rfl rfl rfl rfl ?_
  refine PL.nO [some ⟨.mx [sL p_aP.slots], 48, 0⟩, some ⟨.tr (eL r4.slots), 35, 2⟩, some ⟨.tr (eL r6.1.slots), 35, 2⟩, some ⟨.mx [.os 2 0 r6.1.slots.length], 25, 0⟩] rfl ?_
  refine PL.op rfl (Rd.asnT rfl) ?_
  refine PL.nil ?_
  refine thA_n ?_
  refine PC.seq ?_
  obtain ⟨r8, h_9, hh0⟩ := bind_some hh0
  refine PC.region ?_
  refine PL.op rfl (Rd.loadBox rfl rfl rfl) ?_
  refine PL.callM false [] (w_L_toPage N p_aP r8 h_9) rfl Try.call35 rfl ⟨.aggL ⟨.t _, trivial⟩, trivial⟩ rfl trivial (fun h => by cases h) ?_
  refine PL.nm (.agg [.os 4 0 r8.slots.length]) [some ⟨.mx [sL p_aP.slots], 48, 0⟩, some ⟨.tr (eL r4.slots), 35, 2⟩, some ⟨.tr (eL r6.1.slots), 35, 2⟩, some ⟨.mx [.os 2 0 r6.1.slots.length], 25, 0⟩, some ⟨.tr (eL r8.slots), 35, 2⟩] rfl rfl ?_
  refine PL.ef rfl (Ef.alloc rfl rfl) ?_
  refine PL.nm (.op 5 0) [some ⟨.mx [sL p_aP.slots], 48, 0⟩, some ⟨.tr (eL r4.slots), 35, 2⟩, some ⟨.tr (eL r6.1.slots), 35, 2⟩, some ⟨.mx [.os 2 0 r6.1.slots.length], 25, 0⟩, some ⟨.tr (eL r8.slots), 35, 2⟩, some ⟨.mx [.t (.v (.slice none 0 0))], 25, 0⟩] rfl rfl ?_
  refine PL.store rfl rfl rfl rfl rfl rfl rfl ?_
  refine PL.nO [some ⟨.mx [sL p_aP.slots], 48, 0⟩, some ⟨.tr (eL r4.slots), 35, 2⟩, some ⟨.tr (eL r6.1.slots), 35, 2⟩, some ⟨.mx [.os 2 0 r6.1.slots.length], 25, 0⟩, some ⟨.tr (eL r8.slots), 35, 2⟩, some ⟨.mx [.os 4 0 r8.slots.length], 25, 0⟩] rfl ?_
  refine PL.nil ?_
  refine thA_n ?_
  refine PC.seq ?_
  obtain ⟨r10, h_11, hh0⟩ := bind_some hh0
  refine PC.region ?_
  refine PL.op rfl (Rd.loadBox rfl rfl rfl) ?_
  refine PL.op rfl (Rd.moveT rfl) ?_
  refine PL.callM true [] (w_I_ClearSlot N r8 p_aAt r10 h_11) rfl Try.call32 rfl ⟨.aggL ⟨.own rfl (by first | decide | exact List.not_mem_nil) rfl rfl, trivial⟩, .t _, trivial⟩ rfl trivial (fun _ => ⟨⟨⟨trivial, trivial⟩, trivial, trivial⟩, (flat_cons flat_ow flat_nil)⟩) ?_
  refine PL.nm (.tup [.agg [.os 6 0 r10.1.slots.length], bA r10.2]) [some ⟨.mx [sL p_aP.slots], 48, 0⟩, some ⟨.tr (eL r4.slots), 35, 2⟩, some ⟨.tr (eL r6.1.slots), 35, 2⟩, some ⟨.mx [.os 2 0 r6.1.slots.length], 25, 0⟩, some ⟨.tr (eL r8.slots), 35, 2⟩, some ⟨.mx [.os 4 0 r8.slots.length], 25, 0⟩, some ⟨.tr (eL r10.1.slots), 35, 2⟩] rfl rfl ?_
  refine PL.op rfl (Rd.moveU rfl) ?_
  refine PL.op rfl (Rd.extract rfl rfl) ?_
  refine PL.op rfl (Rd.extract rfl rfl) ?_
  refine PL.ef rfl (Ef.alloc rfl rfl) ?_
  refine PL.nm (.op 7 0) [some ⟨.mx [sL p_aP.slots], 48, 0⟩, some ⟨.tr (eL r4.slots), 35, 2⟩, some ⟨.tr (eL r6.1.slots), 35, 2⟩, some ⟨.mx [.os 2 0 r6.1.slots.length], 25, 0⟩, some ⟨.tr (eL r8.slots), 35, 2⟩, some ⟨.mx [.os 4 0 r8.slots.length], 25, 0⟩, some ⟨.tr (eL r10.1.slots), 35, 2⟩, some ⟨.mx [.t (.v (.slice none 0 0))], 25, 0⟩] rfl rfl ?_
  refine PL.store rfl rfl rfl rfl rfl rfl rfl ?_
  refine PL.nO [some ⟨.mx [sL p_aP.slots], 48, 0⟩, some ⟨.tr (eL r4.slots), 35, 2⟩, some ⟨.tr (eL r6.1.slots), 35, 2⟩, some ⟨.mx [.os 2 0 r6.1.slots.length], 25, 0⟩, some ⟨.tr (eL r8.slots), 35, 2⟩, some ⟨.mx [.os 4 0 r8.slots.length], 25, 0⟩, some ⟨.tr (eL r10.1.slots), 35, 2⟩, some ⟨.mx [.os 6 0 r10.1.slots.length], 25, 0⟩] rfl ?_
  refine PL.op rfl (Rd.asnT rfl) ?_
  refine PL.nil ?_
  refine thA_n ?_
  refine PC.seq ?_
  refine PC.seq ?_
  obtain ⟨r12, h_13, hh0⟩ := bind_some hh0
  rcases cond_some hh0 with ⟨h_14, hh0⟩ | ⟨h_14, hh0⟩
  rotate_left
  · refine PC.region ?_
    refine PL.op rfl (Rd.loadBox rfl rfl rfl) ?_
    refine PL.op rfl (Rd.loadBox rfl rfl rfl) ?_
    refine PL.callM true [] (w_L_eqPage N r10.1 r6.1 r12 h_13) rfl Try.call36 rfl ⟨.aggL ⟨.own rfl (by first | decide | exact List.not_mem_nil) rfl rfl, trivial⟩, .aggL ⟨.own rfl (by first | decide | exact List.not_mem_nil) rfl rfl, trivial⟩, trivial⟩ rfl trivial (fun _ => ⟨trivial, flat_nil⟩) ?_
    refine PL.op rfl (Rd.unnot rfl) ?_
    refine PL.op rfl (Rd.moveT rfl) ?_
    refine PL.guard_off rfl rfl (not_f h_14) ?_
    refine PL.guard_off rfl rfl (not_f h_14) ?_
    refine PL.guard_off rfl rfl (not_f h_14) ?_
    refine PL.op rfl (Rd.pick_t rfl (not_f h_14)) ?_
    refine PL.nil ?_
    refine thA_n ?_
    refine PC.cond_true rfl rfl ?_
    refine PC.seq ?_
    refine PC.region ?_
    refine PL.op rfl (Rd.asnT rfl) ?_
    refine PL.nil ?_
    refine thA_n ?_
    refine PC.ret ?_
    refine thA_r ?_
    obtain rfl := some_in hh0
    exact FinA.mk (r := bA false) (bl := []) [] (.inl rfl) rfl (rl := [.tmp 4]) (.tmp .nil) rfl rfl rfl (.t _) trivial ⟨rfl, rfl⟩
  refine PC.region ?_
  refine PL.op rfl (Rd.loadBox rfl rfl rfl) ?_
  refine PL.op rfl (Rd.loadBox rfl rfl rfl) ?_
  refine PL.callM true [] (w_L_eqPage N r10.1 r6.1 r12 h_13) rfl Try.call36 rfl ⟨.aggL ⟨.own rfl (by first | decide | exact List.not_mem_nil) rfl rfl, trivial⟩, .aggL ⟨.own rfl (by first | decide | exact List.not_mem_nil) rfl rfl, trivial⟩, trivial⟩ rfl trivial (fun _ => ⟨trivial, flat_nil⟩) ?_
  refine PL.op rfl (Rd.unnot rfl) ?_
  refine PL.op rfl (Rd.moveT rfl) ?_
  refine PL.guard_on rfl (not_t h_14) ?_
  refine PL.op rfl (Rd.moveT rfl) ?_
  refine PL.guard_on rfl (not_t h_14) ?_
  refine PL.op rfl (Rd.moveT rfl) ?_
  refine PL.guard_on rfl (not_t h_14) ?_
  refine PL.op rfl (Rd.neqB rfl rfl) ?_
  refine PL.op rfl (Rd.pick_f rfl (not_t h_14)) ?_
  refine PL.nil ?_
  refine thA_n ?_
  rcases cond_some hh0 with ⟨h_15, hh0⟩ | ⟨h_15, hh0⟩
  rotate_left
  · refine PC.cond_true rfl (not_f h_15) ?_
    refine PC.seq ?_
    refine PC.region ?_
    refine PL.op rfl (Rd.asnT rfl) ?_
    refine PL.nil ?_
    refine thA_n ?_
    refine PC.ret ?_
    refine thA_r ?_
    obtain rfl := some_in hh0
    exact FinA.mk (r := bA false) (bl := []) [] (.inl rfl) rfl (rl := [.tmp 4]) (.tmp .nil) rfl rfl rfl (.t _) trivial ⟨rfl, rfl⟩
  refine PC.cond_false rfl (not_t h_15) ?_
  refine PC.skip ?_
  refine thA_n ?_
  refine PC.seq ?_
  refine PC.seq ?_
  obtain ⟨r16, h_17, hh0⟩ := bind_some hh0
  obtain ⟨r18, h_19, hh0⟩ := bind_some hh0
  refine PC.any (id := 10) 5 (.seg [0, 1, 2, 3, 4] .done) [] rfl (by kernel_rfl) rfl ?_
  refine PT.seg ?_
  refine PR.op rfl (Rd.loadBox rfl rfl rfl) ?_
  refine PR.op rfl (Rd.loadBox rfl rfl rfl) ?_
  refine PR.callM false [] (w_L_toPage N p_aP r16 h_17) rfl Try.call35 rfl ⟨.aggL ⟨.t _, trivial⟩, trivial⟩ rfl trivial (fun h => by cases h) rfl ?_
  refine PR.nm (.agg [.os 8 0 r16.slots.length]) [some ⟨.mx [sL p_aP.slots], 48, 0⟩, some ⟨.tr (eL r4.slots), 35, 2⟩, some ⟨.tr (eL r6.1.slots), 35, 2⟩, some ⟨.mx [.os 2 0 r6.1.slots.length], 25, 0⟩, some ⟨.tr (eL r8.slots), 35, 2⟩, some ⟨.mx [.os 4 0 r8.slots.length], 25, 0⟩, some ⟨.tr (eL r10.1.slots), 35, 2⟩, some ⟨.mx [.os 6 0 r10.1.slots.length], 25, 0⟩, some ⟨.tr (eL r16.slots), 35, 2⟩] rfl rfl ?_
  refine PR.callM true [] (w_L_eqPage N r8 r16 r18 h_19) rfl Try.call36 rfl ⟨.aggL ⟨.own rfl (by first | decide | exact List.not_mem_nil) rfl rfl, trivial⟩, .aggL ⟨.own rfl (by first | decide | exact List.not_mem_nil) rfl rfl, trivial⟩, trivial⟩ rfl trivial (fun _ => ⟨trivial, flat_nil⟩) rfl ?_
  refine PR.op rfl (Rd.unnot rfl) ?_
  refine PR.nil ?_
  refine PT.done ?_
  refine PL.nil ?_
  refine thA_n ?_
  rcases cond_some hh0 with ⟨h_20, hh0⟩ | ⟨h_20, hh0⟩
  rotate_left
  · refine PC.cond_true rfl (not_f h_20) ?_
    refine PC.seq ?_
    refine PC.region ?_
    refine PL.op rfl (Rd.asnT rfl) ?_
    refine PL.nil ?_
    refine thA_n ?_
    refine PC.ret ?_
    refine thA_r ?_
    obtain rfl := some_in hh0
    exact FinA.mk (r := bA false) (bl := []) [] (.inl rfl) rfl (rl := [.tmp 4]) (.tmp .nil) rfl rfl rfl (.t _) trivial ⟨rfl, rfl⟩
  refine PC.cond_false rfl (not_t h_20) ?_
  refine PC.skip ?_
  refine thA_n ?_
  refine PC.seq ?_
  refine PC.region ?_
  refine PL.op rfl (Rd.asnT rfl) ?_
  refine PL.nil ?_
  refine thA_n ?_
  refine PC.seq ?_
  obtain ⟨r21, h_22, hh0⟩ := bind_some hh0
  refine PC.region ?_
  refine PL.op rfl (Rd.loadBox rfl rfl rfl) ?_
  refine PL.op rfl (Rd.moveT rfl) ?_
  refine PL.callM false [4] (w_L_markPage N r8 (1 : Int) r21 h_22) rfl Try.call37 rfl ⟨.aggL ⟨.os rfl, trivial⟩, .t _, trivial⟩ rfl ⟨⟨_, rfl, rfl, rfl, .tr _⟩, trivial⟩ (fun h => by cases h) ?_
  refine PL.nm (iA r21.1) [some ⟨.mx [sL p_aP.slots], 48, 0⟩, some ⟨.tr (eL r4.slots), 35, 2⟩, some ⟨.tr (eL r6.1.slots), 35, 2⟩, some ⟨.mx [.os 2 0 r6.1.slots.length], 25, 0⟩, some ⟨.tr (eL r21.2), 35, 2⟩, some ⟨.mx [.os 4 0 r8.slots.length], 25, 0⟩, some ⟨.tr (eL r10.1.slots), 35, 2⟩, some ⟨.mx [.os 6 0 r10.1.slots.length], 25, 0⟩, some ⟨.tr (eL r16.slots), 35, 2⟩] rfl rfl ?_
  refine PL.op rfl (Rd.asnT rfl) ?_
  refine PL.nil ?_
  refine thA_n ?_
  refine PC.seq ?_
  refine PC.seq ?_
  rcases cond_some hh0 with ⟨h_23, hh0⟩ | ⟨h_23, hh0⟩
  · refine PC.region ?_
    refine PL.op rfl (Rd.moveT rfl) ?_
    refine PL.op rfl (Rd.lss rfl rfl) ?_
    refine PL.op rfl (Rd.moveT rfl) ?_
    refine PL.guard_off rfl rfl h_23 ?_
    refine PL.guard_off rfl rfl h_23 ?_
    refine PL.guard_off rfl rfl h_23 ?_
    refine PL.guard_off rfl rfl h_23 ?_
    refine PL.op rfl (Rd.pick_t rfl h_23) ?_
    refine PL.op rfl (Rd.moveT rfl) ?_
    refine PL.guard_off rfl rfl rfl ?_
    refine PL.guard_off rfl rfl rfl ?_
    refine PL.guard_off rfl rfl rfl ?_
    refine PL.op rfl (Rd.pick_t rfl rfl) ?_
    refine PL.nil ?_
    refine thA_n ?_
    refine PC.cond_true rfl rfl ?_
    refine PC.seq ?_
    refine PC.region ?_
    refine PL.op rfl (Rd.asnT rfl) ?_
    refine PL.nil ?_
    refine thA_n ?_
    refine PC.ret ?_
    refine thA_r ?_
    obtain rfl := some_in hh0
    exact FinA.mk (r := bA false) (bl := []) [] (.inl rfl) rfl (rl := [.tmp 4]) (.tmp .nil) rfl rfl rfl (.t _) trivial ⟨rfl, rfl⟩
  obtain ⟨r24, h_25, hh0⟩ := bind_some hh0
  rcases cond_some hh0 with ⟨h_26, hh0⟩ | ⟨h_26, hh0⟩
  rotate_left
  · refine PC.region ?_
    refine PL.op rfl (Rd.moveT rfl) ?_
    refine PL.op rfl (Rd.lss rfl rfl) ?_
    refine PL.op rfl (Rd.moveT rfl) ?_
    refine PL.guard_on rfl h_23 ?_
    refine PL.op rfl (Rd.loadBox rfl rfl rfl) ?_
    refine PL.guard_on rfl h_23 ?_
    refine PL.op rfl (Rd.loadBox rfl rfl rfl) ?_
    refine PL.guard_on rfl h_23 ?_
    refine PL.callM true [] (w_L_eqPage N r10.1 r6.1 r24 h_25) rfl Try.call36 rfl ⟨.aggL ⟨.own rfl (by first | decide | exact List.not_mem_nil) rfl rfl, trivial⟩, .aggL ⟨.own rfl (by first | decide | exact List.not_mem_nil) rfl rfl, trivial⟩, trivial⟩ rfl trivial (fun _ => ⟨trivial, flat_nil⟩) ?_
    refine PL.guard_on rfl h_23 ?_
    refine PL.op rfl (Rd.unnot rfl) ?_
    refine PL.op rfl (Rd.pick_f rfl h_23) ?_
    refine PL.op rfl (Rd.moveT rfl) ?_
    refine PL.guard_off rfl rfl (not_f h_26) ?_
    refine PL.guard_off rfl rfl (not_f h_26) ?_
    refine PL.guard_off rfl rfl (not_f h_26) ?_
    refine PL.op rfl (Rd.pick_t rfl (not_f h_26)) ?_
    refine PL.nil ?_
    refine thA_n ?_
    refine PC.cond_true rfl rfl ?_
    refine PC.seq ?_
    refine PC.region ?_
    refine PL.op rfl (Rd.asnT rfl) ?_
    refine PL.nil ?_
    refine thA_n ?_
    refine PC.ret ?_
    refine thA_r ?_
    obtain rfl := some_in hh0
    exact FinA.mk (r := bA false) (bl := []) [] (.inl rfl) rfl (rl := [.tmp 4]) (.tmp .nil) rfl rfl rfl (.t _) trivial ⟨rfl, rfl⟩
  refine PC.region ?_
  refine PL.op rfl (Rd.moveT rfl) ?_
  refine PL.op rfl (Rd.lss rfl rfl) ?_
  refine PL.op rfl (Rd.moveT rfl) ?_
  refine PL.guard_on rfl h_23 ?_
  refine PL.op rfl (Rd.loadBox rfl rfl rfl) ?_
  refine PL.guard_on rfl h_23 ?_
  refine PL.op rfl (Rd.loadBox rfl rfl rfl) ?_
  refine PL.guard_on rfl h_23 ?_
  refine PL.callM true [] (w_L_eqPage N r10.1 r6.1 r24 h_25) rfl Try.call36 rfl ⟨.aggL ⟨.own rfl (by first | decide | exact List.not_mem_nil) rfl rfl, trivial⟩, .aggL ⟨.own rfl (by first | decide | exact List.not_mem_nil) rfl rfl, trivial⟩, trivial⟩ rfl trivial (fun _ => ⟨trivial, flat_nil⟩) ?_
  refine PL.guard_on rfl h_23 ?_
  refine PL.op rfl (Rd.unnot rfl) ?_
  refine PL.op rfl (Rd.pick_f rfl h_23) ?_
  refine PL.op rfl (Rd.moveT rfl) ?_
  refine PL.guard_on rfl (not_t h_26) ?_
  refine PL.op rfl (Rd.moveT rfl) ?_
  refine PL.guard_on rfl (not_t h_26) ?_
  refine PL.op rfl (Rd.moveT rfl) ?_
  refine PL.guard_on rfl (not_t h_26) ?_
  refine PL.op rfl (Rd.neqB rfl rfl) ?_
  refine PL.op rfl (Rd.pick_f rfl (not_t h_26)) ?_
  refine PL.nil ?_
  refine thA_n ?_
  refine PC.cond_false rfl (not_t h_15) ?_
  refine PC.skip ?_
  refine thA_n ?_
  refine PC.seq ?_
  refine PC.region ?_
  refine PL.op rfl (Rd.asnT rfl) ?_
  refine PL.nil ?_
  refine thA_n ?_
  refine PC.seq ?_
  obtain ⟨r27, h_28, hh0⟩ := bind_some hh0
  refine PC.region ?_
  refine PL.op rfl (Rd.loadBox rfl rfl rfl) ?_
  refine PL.op rfl (Rd.moveT rfl) ?_
  refine PL.callM false [6] (w_L_markPage N r10.1 (1 : Int) r27 h_28) rfl Try.call37 rfl ⟨.aggL ⟨.os rfl, trivial⟩, .t _, trivial⟩ rfl ⟨⟨_, rfl, rfl, rfl, .tr _⟩, trivial⟩ (fun h => by cases h) ?_
  refine PL.nm (iA r27.1) [some ⟨.mx [sL p_aP.slots], 48, 0⟩, some ⟨.tr (eL r4.slots), 35, 2⟩, some ⟨.tr (eL r6.1.slots), 35, 2⟩, some ⟨.mx [.os 2 0 r6.1.slots.length], 25, 0⟩, some ⟨.tr (eL r21.2), 35, 2⟩, some ⟨.mx [.os 4 0 r8.slots.length], 25, 0⟩, some ⟨.tr (eL r27.2), 35, 2⟩, some ⟨.mx [.os 6 0 r10.1.slots.length], 25, 0⟩, some ⟨.tr (eL r16.slots), 35, 2⟩] rfl rfl ?_
  refine PL.op rfl (Rd.asnT rfl) ?_
  refine PL.nil ?_
  refine thA_n ?_
  refine PC.seq ?_
  refine PC.region ?_
  refine PL.op rfl (Rd.asnT rfl) ?_
  refine PL.nil ?_
  refine thA_n ?_
  refine PC.seq ?_
  obtain ⟨r29, h_30, hh0⟩ := bind_some hh0
  refine PC.region ?_
  refine PL.op rfl (Rd.loadBox rfl rfl rfl) ?_
  refine PL.op rfl (Rd.moveT rfl) ?_
  refine PL.callM true [] (w_L_heldPage N (I_Page.mk r27.2) (1 : Int) r29 h_30) rfl Try.call38 rfl ⟨.aggL ⟨.own rfl (by first | decide | exact List.not_mem_nil) (by simp only [List.length_set, len_L_markPage N _ _ _ h_28]) rfl, trivial⟩, .t _, trivial⟩ rfl trivial (fun _ => ⟨trivial, flat_nil⟩) ?_
  refine PL.op rfl (Rd.asnT rfl) ?_
  refine PL.nil ?_
  refine thA_n ?_
  refine PC.seq ?_
  refine PC.seq ?_
  refine PC.region ?_
  refine PL.op rfl (Rd.moveT rfl) ?_
  refine PL.op rfl (Rd.lss rfl rfl) ?_
  refine PL.nil ?_
  refine thA_n ?_
  rcases cond_some hh0 with ⟨h_31, hh0⟩ | ⟨h_31, hh0⟩
  · refine PC.cond_true rfl h_31 ?_
    refine PC.seq ?_
    refine PC.region ?_
    refine PL.op rfl (Rd.asnT rfl) ?_
    refine PL.nil ?_
    refine thA_n ?_
    refine PC.ret ?_
    refine thA_r ?_
    obtain rfl := some_in hh0
    exact FinA.mk (r := bA false) (bl := []) [] (.inl rfl) rfl (rl := [.tmp 4]) (.tmp .nil) rfl rfl rfl (.t _) trivial ⟨rfl, rfl⟩
  refine PC.cond_false rfl h_31 ?_
  refine PC.skip ?_
  refine thA_n ?_
  refine PC.seq ?_
  refine PC.seq ?_
  refine PC.region ?_
  refine PL.op rfl (Rd.moveT rfl) ?_
  refine PL.op rfl (Rd.moveT rfl) ?_
  refine PL.op rfl (Rd.neq rfl rfl) ?_
  refine PL.nil ?_
  refine thA_n ?_
  rcases cond_some hh0 with ⟨h_32, hh0⟩ | ⟨h_32, hh0⟩
  rotate_left
  · refine PC.cond_true rfl (not_f h_32) ?_
    refine PC.seq ?_
    refine PC.region ?_
    refine PL.op rfl (Rd.asnT rfl) ?_
    refine PL.nil ?_
    refine thA_n ?_
    refine PC.ret ?_
    refine thA_r ?_
    obtain rfl := some_in hh0
    exact FinA.mk (r := bA false) (bl := []) [] (.inl rfl) rfl (rl := [.tmp 4]) (.tmp .nil) rfl rfl rfl (.t _) trivial ⟨rfl, rfl⟩
  refine PC.cond_false rfl (not_t h_32) ?_
  refine PC.skip ?_
  refine thA_n ?_
  refine PC.seq ?_
  obtain ⟨r33, h_34, hh0⟩ := bind_some hh0
  obtain ⟨r35, h_36, hh0⟩ := bind_some hh0
  refine PC.region ?_
  refine PL.op rfl (Rd.loadBox rfl rfl rfl) ?_
  refine PL.callM false [] (w_L_toPage N p_aP r33 h_34) rfl Try.call35 rfl ⟨.aggL ⟨.t _, trivial⟩, trivial⟩ rfl trivial (fun h => by cases h) ?_
  refine PL.nm (.agg [.os 9 0 r33.slots.length]) [some ⟨.mx [sL p_aP.slots], 48, 0⟩, some ⟨.tr (eL r4.slots), 35, 2⟩, some ⟨.tr (eL r6.1.slots), 35, 2⟩, some ⟨.mx [.os 2 0 r6.1.slots.length], 25, 0⟩, some ⟨.tr (eL r21.2), 35, 2⟩, some ⟨.mx [.os 4 0 r8.slots.length], 25, 0⟩, some ⟨.tr (eL r27.2), 35, 2⟩, some ⟨.mx [.os 6 0 r10.1.slots.length], 25, 0⟩, some ⟨.tr (eL r16.slots), 35, 2⟩, some ⟨.tr (eL r33.slots), 35, 2⟩] rfl rfl ?_
  refine PL.op rfl (Rd.moveT rfl) ?_
  refine PL.callM true [] (w_I_ClearSlot N r33 p_aAt r35 h_36) rfl Try.call32 rfl ⟨.aggL ⟨.own rfl (by first | decide | exact List.not_mem_nil) rfl rfl, trivial⟩, .t _, trivial⟩ rfl trivial (fun _ => ⟨⟨⟨trivial, trivial⟩, trivial, trivial⟩, (flat_cons flat_ow flat_nil)⟩) ?_
  refine PL.nm (.tup [.agg [.os 10 0 r35.1.slots.length], bA r35.2]) [some ⟨.mx [sL p_aP.slots], 48, 0⟩, some ⟨.tr (eL r4.slots), 35, 2⟩, some ⟨.tr (eL r6.1.slots), 35, 2⟩, some ⟨.mx [.os 2 0 r6.1.slots.length], 25, 0⟩, some ⟨.tr (eL r21.2), 35, 2⟩, some ⟨.mx [.os 4 0 r8.slots.length], 25, 0⟩, some ⟨.tr (eL r27.2), 35, 2⟩, some ⟨.mx [.os 6 0 r10.1.slots.length], 25, 0⟩, some ⟨.tr (eL r16.slots), 35, 2⟩, some ⟨.tr (eL r33.slots), 35, 2⟩, some ⟨.tr (eL r35.1.slots), 35, 2⟩] rfl rfl ?_
  refine PL.op rfl (Rd.moveU rfl) ?_
  refine PL.op rfl (Rd.extract rfl rfl) ?_
  refine PL.op rfl (Rd.extract rfl rfl) ?_
  refine PL.ef rfl (Ef.alloc rfl rfl) ?_
  refine PL.nm (.op 11 0) [some ⟨.mx [sL p_aP.slots], 48, 0⟩, some ⟨.tr (eL r4.slots), 35, 2⟩, some ⟨.tr (eL r6.1.slots), 35, 2⟩, some ⟨.mx [.os 2 0 r6.1.slots.length], 25, 0⟩, some ⟨.tr (eL r21.2), 35, 2⟩, some ⟨.mx [.os 4 0 r8.slots.length], 25, 0⟩, some ⟨.tr (eL r27.2), 35, 2⟩, some ⟨.mx [.os 6 0 r10.1.slots.length], 25, 0⟩, some ⟨.tr (eL r16.slots), 35, 2⟩, some ⟨.tr (eL r33.slots), 35, 2⟩, some ⟨.tr (eL r35.1.slots), 35, 2⟩, some ⟨.mx [.t (.v (.slice none 0 0))], 25, 0⟩] rfl rfl ?_
  refine PL.store rfl rfl rfl rfl rfl rfl rfl ?_
  refine PL.nO [some ⟨.mx [sL p_aP.slots], 48, 0⟩, some ⟨.tr (eL r4.slots), 35, 2⟩, some ⟨.tr (eL r6.1.slots), 35, 2⟩, some ⟨.mx [.os 2 0 r6.1.slots.length], 25, 0⟩, some ⟨.tr (eL r21.2), 35, 2⟩, some ⟨.mx [.os 4 0 r8.slots.length], 25, 0⟩, some ⟨.tr (eL r27.2), 35, 2⟩, some ⟨.mx [.os 6 0 r10.1.slots.length], 25, 0⟩, some ⟨.tr (eL r16.slots), 35, 2⟩, some ⟨.tr (eL r33.slots), 35, 2⟩, some ⟨.tr (eL r35.1.slots), 35, 2⟩, some ⟨.mx [.os 10 0 r35.1.slots.length], 25, 0⟩] rfl ?_
  refine PL.op rfl (Rd.asnT rfl) ?_
  refine PL.nil ?_
  refine thA_n ?_
  refine PC.seq ?_
  refine PC.seq ?_
  obtain ⟨r37, h_38, hh0⟩ := bind_some hh0
  rcases cond_some hh0 with ⟨h_39, hh0⟩ | ⟨h_39, hh0⟩
  rotate_left
  · refine PC.region ?_
    refine PL.op rfl (Rd.loadBox rfl rfl rfl) ?_
    refine PL.op rfl (Rd.loadBox rfl rfl rfl) ?_
    refine PL.callM true [] (w_L_eqPage N r35.1 r6.1 r37 h_38) rfl Try.call36 rfl ⟨.aggL ⟨.own rfl (by first | decide | exact List.not_mem_nil) rfl rfl, trivial⟩, .aggL ⟨.own rfl (by first | decide | exact List.not_mem_nil) rfl rfl, trivial⟩, trivial⟩ rfl trivial (fun _ => ⟨trivial, flat_nil⟩) ?_
    refine PL.op rfl (Rd.unnot rfl) ?_
    refine PL.op rfl (Rd.moveT rfl) ?_
    refine PL.guard_off rfl rfl (not_f h_39) ?_
    refine PL.guard_off rfl rfl (not_f h_39) ?_
    refine PL.guard_off rfl rfl (not_f h_39) ?_
    refine PL.op rfl (Rd.pick_t rfl (not_f h_39)) ?_
    refine PL.nil ?_
    refine thA_n ?_
    refine PC.cond_true rfl rfl ?_
    refine PC.seq ?_
    refine PC.region ?_
    refine PL.op rfl (Rd.asnT rfl) ?_
    refine PL.nil ?_
    refine thA_n ?_
    refine PC.ret ?_
    refine thA_r ?_
    obtain rfl := some_in hh0
    exact FinA.mk (r := bA false) (bl := []) [] (.inl rfl) rfl (rl := [.tmp 4]) (.tmp .nil) rfl rfl rfl (.t _) trivial ⟨rfl, rfl⟩
  refine PC.region ?_
  refine PL.op rfl (Rd.loadBox rfl rfl rfl) ?_
  refine PL.op rfl (Rd.loadBox rfl rfl rfl) ?_
  refine PL.callM true [] (w_L_eqPage N r35.1 r6.1 r37 h_38) rfl Try.call36 rfl ⟨.aggL ⟨.own rfl (by first | decide | exact List.not_mem_nil) rfl rfl, trivial⟩, .aggL ⟨.own rfl (by first | decide | exact List.not_mem_nil) rfl rfl, trivial⟩, trivial⟩ rfl trivial (fun _ => ⟨trivial, flat_nil⟩) ?_
  refine PL.op rfl (Rd.unnot rfl) ?_
  refine PL.op rfl (Rd.moveT rfl) ?_
  refine PL.guard_on rfl (not_t h_39) ?_
  refine PL.op rfl (Rd.moveT rfl) ?_
  refine PL.guard_on rfl (not_t h_39) ?_
  refine PL.op rfl (Rd.moveT rfl) ?_
  refine PL.guard_on rfl (not_t h_39) ?_
  refine PL.op rfl (Rd.neqB rfl rfl) ?_
  refine PL.op rfl (Rd.pick_f rfl (not_t h_39)) ?_
  refine PL.nil ?_
  refine thA_n ?_
  rcases cond_some hh0 with ⟨h_40, hh0⟩ | ⟨h_40, hh0⟩
  rotate_left
  · refine PC.cond_true rfl (not_f h_40) ?_
    refine PC.seq ?_
    refine PC.region ?_
    refine PL.op rfl (Rd.asnT rfl) ?_
    refine PL.nil ?_
    refine thA_n ?_
    refine PC.ret ?_
    refine thA_r ?_
    obtain rfl := some_in hh0
    exact FinA.mk (r := bA false) (bl := []) [] (.inl rfl) rfl (rl := [.tmp 4]) (.tmp .nil) rfl rfl rfl (.t _) trivial ⟨rfl, rfl⟩
  refine PC.cond_false rfl (not_t h_40) ?_
  refine PC.skip ?_
  refine thA_n ?_
  refine PC.seq ?_
  refine PC.region ?_
  refine PL.op rfl (Rd.asnT rfl) ?_
  refine PL.nil ?_
  refine thA_n ?_
  refine PC.seq ?_
  obtain ⟨r41, h_42, hh0⟩ := bind_some hh0
  refine PC.region ?_
  refine PL.op rfl (Rd.loadBox rfl rfl rfl) ?_
  refine PL.op rfl (Rd.moveT rfl) ?_
  refine PL.callM true [] (w_L_heldPage N (I_Page.mk r27.2) (1 : Int) r41 h_42) rfl Try.call38 rfl ⟨.aggL ⟨.own rfl (by first | decide | exact List.not_mem_nil) (by simp only [List.length_set, len_L_markPage N _ _ _ h_28]) rfl, trivial⟩, .t _, trivial⟩ rfl trivial (fun _ => ⟨trivial, flat_nil⟩) ?_
  refine PL.op rfl (Rd.asnT rfl) ?_
  refine PL.nil ?_
  refine thA_n ?_
  refine PC.seq ?_
  refine PC.seq ?_
  refine PC.region ?_
  refine PL.op rfl (Rd.moveT rfl) ?_
  refine PL.op rfl (Rd.lss rfl rfl) ?_
  refine PL.nil ?_
  refine thA_n ?_
  rcases cond_some hh0 with ⟨h_43, hh0⟩ | ⟨h_43, hh0⟩
  · refine PC.cond_true rfl h_43 ?_
    refine PC.seq ?_
    refine PC.region ?_
    refine PL.op rfl (Rd.asnT rfl) ?_
    refine PL.nil ?_
    refine thA_n ?_
    refine PC.ret ?_
    refine thA_r ?_
    obtain rfl := some_in hh0
    exact FinA.mk (r := bA false) (bl := []) [] (.inl rfl) rfl (rl := [.tmp 4]) (.tmp .nil) rfl rfl rfl (.t _) trivial ⟨rfl, rfl⟩
  refine PC.cond_false rfl h_43 ?_
  refine PC.skip ?_
  refine thA_n ?_
  refine PC.seq ?_
  refine PC.seq ?_
  refine PC.region ?_
  refine PL.op rfl (Rd.moveT rfl) ?_
  refine PL.op rfl (Rd.moveT rfl) ?_
  refine PL.op rfl (Rd.neq rfl rfl) ?_
  refine PL.nil ?_
  refine thA_n ?_
  rcases cond_some hh0 with ⟨h_44, hh0⟩ | ⟨h_44, hh0⟩
  rotate_left
  · refine PC.cond_true rfl (not_f h_44) ?_
    refine PC.seq ?_
    refine PC.region ?_
    refine PL.op rfl (Rd.asnT rfl) ?_
    refine PL.nil ?_
    refine thA_n ?_
    refine PC.ret ?_
    refine thA_r ?_
    obtain rfl := some_in hh0
    exact FinA.mk (r := bA false) (bl := []) [] (.inl rfl) rfl (rl := [.tmp 4]) (.tmp .nil) rfl rfl rfl (.t _) trivial ⟨rfl, rfl⟩
  refine PC.cond_false rfl (not_t h_44) ?_
  refine PC.skip ?_
  refine thA_n ?_
  refine PC.seq ?_
  refine PC.region ?_
  refine PL.op rfl (Rd.asnT rfl) ?_
  refine PL.nil ?_
  refine thA_n ?_
  refine PC.ret ?_
  obtain rfl := some_in hh0
  exact FinA.mk (r := bA true) (bl := []) [] (.inl rfl) rfl (rl := [.tmp 4]) (.tmp .nil) rfl rfl rfl (.t _) trivial ⟨rfl, rfl⟩

end V
end Go.Proofs.Ytoljdhdfijnjiaa
