/- Edits: an exact law's function. No condition. -/
import Derived.Test.YtaiifcnjmbpbjaaPlEdX
namespace Go.Proofs.Ytaiifcnjmbpbjaa
namespace V
open Enc (enc)
set_option linter.unusedVariables false
set_option linter.unusedSimpArgs false
set_option maxHeartbeats 4000000
set_option maxRecDepth 100000
open Go.RowKit
attribute [local irreducible] thA inA FinA eL

def m_L_FnExactRunEdits (N : Nat) (p_aS : (List Int)) (p_aList : (List L_Edit)) : Option (Bool) :=
  cond (decide ((1048576 : Int) < (p_aS.length : Int)))
    (some true)
    ((m_L_szEditS N p_aList (1048576 : Int)).bind fun r2 =>
    cond (decide (r2 < (0 : Int)))
      (some true)
      ((m_L_toIntS N p_aS).bind fun r5 =>
      (m_L_toEditS N p_aList).bind fun r7 =>
      (m_S_RunEdits N r5 r7).bind fun r9 =>
      (m_L_toIntS N p_aS).bind fun r11 =>
      (m_L_toEditS N p_aList).bind fun r13 =>
      (m_I_RunEdits N r11 r13).bind fun r15 =>
      (m_L_eqIntS N r15.1 r9.1).bind fun r17 =>
      cond r17
        (cond (r15.2 == r9.2)
          ((m_L_toIntS N p_aS).bind fun r21 =>
          (m_L_eqIntS N r11 r21).bind fun r23 =>
          cond r23
            ((m_L_toEditS N p_aList).bind fun r26 =>
            (m_L_eqEditS N r13 r26).bind fun r28 =>
            cond r28
              ((m_L_markIntS N r11 (1 : Int)).bind fun r31 =>
              (m_L_markEditS N r13 r31.1).bind fun r33 =>
              cond (decide (r33.1 < (0 : Int)))
                (some false)
                ((m_L_eqIntS N r15.1 r9.1).bind fun r36 =>
                cond r36
                  ((m_L_markIntS N r15.1 (1 : Int)).bind fun r39 =>
                  (m_L_heldIntS N r39.2 (1 : Int)).bind fun r41 =>
                  cond (decide (r41 < (0 : Int)))
                    (some false)
                    (cond (decide (r41 = r39.1))
                      ((m_L_toIntS N p_aS).bind fun r45 =>
                      (m_L_toEditS N p_aList).bind fun r47 =>
                      (m_I_RunEdits N r45 r47).bind fun r49 =>
                      (m_L_eqIntS N r49.1 r9.1).bind fun r51 =>
                      cond r51
                        (cond (r49.2 == r9.2)
                          ((m_L_heldIntS N r39.2 (1 : Int)).bind fun r55 =>
                          cond (decide (r55 < (0 : Int)))
                            (some false)
                            (cond (decide (r55 = r39.1))
                              (some true)
                              (some false)))
                          (some false))
                        (some false))
                      (some false)))
                  (some false)))
              (some false))
            (some false))
          (some false))
        (some false)))
theorem w_L_FnExactRunEdits (N : Nat) (p_aS : (List Int)) (p_aList : (List L_Edit)) (r : Bool) (hh0 : m_L_FnExactRunEdits N p_aS p_aList = some r) : FnX Try.prog 3 [] [sL p_aS, sL p_aList] (RE (bA r) []) := by
  unfold m_L_FnExactRunEdits at hh0
  refine FnX.mk Try.func3 rfl rfl ?_
  intro s hs
  refine PC.seq ?_
  refine PC.region ?_
  refine PL.op rfl (Rd.asnT rfl) ?_
  refine PL.nil ?_
  refine thA_n ?_
  refine PC.seq ?_
  refine PC.seq ?_
  refine PC.region ?_
  refine PL.op rfl (Rd.moveT rfl) ?_
  refine PL.op rfl (Rd.lenT rfl) ?_
  refine PL.op rfl (Rd.gtr rfl rfl) ?_
  refine PL.nil ?_
  refine thA_n ?_
  rcases cond_some hh0 with ⟨h_1, hh0⟩ | ⟨h_1, hh0⟩
  · refine PC.cond_true rfl h_1 ?_
    refine PC.seq ?_
    refine PC.region ?_
    refine PL.op rfl (Rd.asnT rfl) ?_
    refine PL.nil ?_
    refine thA_n ?_
    refine PC.ret ?_
    refine thA_r ?_
    obtain rfl := some_in hh0
    exact FinA.mk (r := bA true) (bl := []) [] (.inl rfl) rfl (rl := [.tmp 4]) (.tmp .nil) rfl rfl rfl (.t _) trivial ⟨rfl, rfl⟩
  refine PC.cond_false rfl h_1 ?_
  refine PC.skip ?_
  refine thA_n ?_
  refine PC.seq ?_
  refine PC.region ?_
  refine PL.op rfl (Rd.asnT rfl) ?_
  refine PL.nil ?_
  refine thA_n ?_
  refine PC.seq ?_
  obtain ⟨r2, h_3, hh0⟩ := bind_some hh0
  refine PC.region ?_
  refine PL.op rfl (Rd.moveT rfl) ?_
  refine PL.op rfl (Rd.moveT rfl) ?_
  refine PL.callM false [] (w_L_szEditS N p_aList (1048576 : Int) r2 h_3) rfl Try.call4 rfl ⟨.t _, .t _, trivial⟩ rfl trivial (fun h => by cases h) ?_
  refine PL.op rfl (Rd.asnT rfl) ?_
  refine PL.nil ?_
  refine thA_n ?_
  refine PC.seq ?_
  refine PC.seq ?_
  refine PC.region ?_
  refine PL.op rfl (Rd.moveT rfl) ?_
  refine PL.op rfl (Rd.lss rfl rfl) ?_
  refine PL.nil ?_
  refine thA_n ?_
  rcases cond_some hh0 with ⟨h_4, hh0⟩ | ⟨h_4, hh0⟩
  · refine PC.cond_true rfl h_4 ?_
    refine PC.seq ?_
    refine PC.region ?_
    refine PL.op rfl (Rd.asnT rfl) ?_
    refine PL.nil ?_
    refine thA_n ?_
    refine PC.ret ?_
    refine thA_r ?_
    obtain rfl := some_in hh0
    exact FinA.mk (r := bA true) (bl := []) [] (.inl rfl) rfl (rl := [.tmp 4]) (.tmp .nil) rfl rfl rfl (.t _) trivial ⟨rfl, rfl⟩
  refine PC.cond_false rfl h_4 ?_
  refine PC.skip ?_
  refine thA_n ?_
  refine PC.seq ?_
  obtain ⟨r5, h_6, hh0⟩ := bind_some hh0
  obtain ⟨r7, h_8, hh0⟩ := bind_some hh0
  obtain ⟨r9, h_10, hh0⟩ := bind_some hh0
  refine PC.region ?_
  refine PL.op rfl (Rd.moveT rfl) ?_
  refine PL.callM false [] (w_L_toIntS N p_aS r5 h_6) rfl Try.call6 rfl ⟨.t _, trivial⟩ rfl trivial (fun h => by cases h) ?_
  refine PL.nm (.os 0 0 r5.length) [some ⟨.tr (eL r5), 3, 1⟩] rfl rfl ?_
  refine PL.op rfl (Rd.moveT rfl) ?_
  refine PL.callM false [] (w_L_toEditS N p_aList r7 h_8) rfl Try.call7 rfl ⟨.t _, trivial⟩ rfl trivial (fun h => by cases h) ?_
  refine PL.nm (.os 1 0 r7.length) [some ⟨.tr (eL r5), 3, 1⟩, some ⟨.tr (eL r7), 38, 4⟩] rfl rfl ?_
  refine PL.callM true [] (w_S_RunEdits N r5 r7 r9 h_10) rfl Try.call5 rfl ⟨.own rfl (by first | decide | exact List.not_mem_nil) rfl rfl, .own rfl (by first | decide | exact List.not_mem_nil) rfl rfl, trivial⟩ rfl trivial (fun _ => ⟨⟨trivial, trivial, trivial⟩, (flat_cons flat_ow flat_nil)⟩) ?_
  refine PL.nm (.tup [.os 2 0 r9.1.length, bA r9.2]) [some ⟨.tr (eL r5), 3, 1⟩, some ⟨.tr (eL r7), 38, 4⟩, some ⟨.tr (eL r9.1), 3, 1⟩] rfl rfl ?_
  refine PL.op rfl (Rd.moveU rfl) ?_
  refine PL.op rfl (Rd.extract rfl rfl) ?_
  refine PL.op rfl (Rd.extract rfl rfl) ?_
  refine PL.op rfl (Rd.asnO rfl) ?_
  refine PL.op rfl (Rd.asnT rfl) ?_
  refine PL.nil ?_
  refine thA_n ?_
  refine PC.seq ?_
  obtain ⟨r11, h_12, hh0⟩ := bind_some hh0
  refine PC.region ?_
  refine PL.op rfl (Rd.moveT rfl) ?_
  refine PL.callM false [] (w_L_toIntS N p_aS r11 h_12) rfl Try.call6 rfl ⟨.t _, trivial⟩ rfl trivial (fun h => by cases h) ?_
  refine PL.nm (.os 3 0 r11.length) [some ⟨.tr (eL r5), 3, 1⟩, some ⟨.tr (eL r7), 38, 4⟩, some ⟨.tr (eL r9.1), 3, 1⟩, some ⟨.tr (eL r11), 3, 1⟩] rfl rfl ?_
  refine PL.op rfl (Rd.asnO rfl) ?_
  refine PL.nil ?_
  refine thA_n ?_
  refine PC.seq ?_
  obtain ⟨r13, h_14, hh0⟩ := bind_some hh0
  refine PC.region ?_
  refine PL.op rfl (Rd.moveT rfl) ?_
  refine PL.callM false [] (w_L_toEditS N p_aList r13 h_14) rfl Try.call7 rfl ⟨.t _, trivial⟩ rfl trivial (fun h => by cases h) ?_
  refine PL.nm (.os 4 0 r13.length) [some ⟨.tr (eL r5), 3, 1⟩, some ⟨.tr (eL r7), 38, 4⟩, some ⟨.tr (eL r9.1), 3, 1⟩, some ⟨.tr (eL r11), 3, 1⟩, some ⟨.tr (eL r13), 38, 4⟩] rfl rfl ?_
  refine PL.op rfl (Rd.asnO rfl) ?_
  refine PL.nil ?_
  refine thA_n ?_
  refine PC.seq ?_
  obtain ⟨r15, h_16, hh0⟩ := bind_some hh0
  refine PC.region ?_
  refine PL.op rfl (Rd.moveO rfl) ?_
  refine PL.op rfl (Rd.moveO rfl) ?_
  refine PL.callM true [] (w_I_RunEdits N r11 r13 r15 h_16) rfl Try.call8 rfl ⟨.own rfl (by first | decide | exact List.not_mem_nil) rfl rfl, .own rfl (by first | decide | exact List.not_mem_nil) rfl rfl, trivial⟩ rfl trivial (fun _ => ⟨⟨trivial, trivial, trivial⟩, (flat_cons flat_ow flat_nil)⟩) ?_
  refine PL.nm (.tup [.os 5 0 r15.1.length, bA r15.2]) [some ⟨.tr (eL r5), 3, 1⟩, some ⟨.tr (eL r7), 38, 4⟩, some ⟨.tr (eL r9.1), 3, 1⟩, some ⟨.tr (eL r11), 3, 1⟩, some ⟨.tr (eL r13), 38, 4⟩, some ⟨.tr (eL r15.1), 3, 1⟩] rfl rfl ?_
  refine PL.op rfl (Rd.moveU rfl) ?_
  refine PL.op rfl (Rd.extract rfl rfl) ?_
  refine PL.op rfl (Rd.extract rfl rfl) ?_
  refine PL.op rfl (Rd.asnO rfl) ?_
  refine PL.op rfl (Rd.asnT rfl) ?_
  refine PL.nil ?_
  refine thA_n ?_
  refine PC.seq ?_
  refine PC.seq ?_
  obtain ⟨r17, h_18, hh0⟩ := bind_some hh0
  rcases cond_some hh0 with ⟨h_19, hh0⟩ | ⟨h_19, hh0⟩
  rotate_left
  · refine PC.region ?_
    refine PL.op rfl (Rd.moveO rfl) ?_
    refine PL.op rfl (Rd.moveO rfl) ?_
    refine PL.callM true [] (w_L_eqIntS N r15.1 r9.1 r17 h_18) rfl Try.call9 rfl ⟨.own rfl (by first | decide | exact List.not_mem_nil) rfl rfl, .own rfl (by first | decide | exact List.not_mem_nil) rfl rfl, trivial⟩ rfl trivial (fun _ => ⟨trivial, flat_nil⟩) ?_
    refine PL.op rfl (Rd.unnot rfl) ?_
    refine PL.op rfl (Rd.moveT rfl) ?_
    refine PL.guard_off rfl rfl (not_f h_19) ?_
    refine PL.guard_off rfl rfl (not_f h_19) ?_
    refine PL.guard_off rfl rfl (not_f h_19) ?_
    refine PL.op rfl (Rd.pick_t rfl (not_f h_19)) ?_
    refine PL.nil ?_
    refine thA_n ?_
    refine PC.cond_true rfl rfl ?_
    refine PC.seq ?_
    refine PC.region ?_
    refine PL.op rfl (Rd.asnT rfl) ?_
    refine PL.nil ?_
    refine thA_n ?_
    refine PC.ret ?_
    refine thA_r ?_
    obtain rfl := some_in hh0
    exact FinA.mk (r := bA false) (bl := []) [] (.inl rfl) rfl (rl := [.tmp 4]) (.tmp .nil) rfl rfl rfl (.t _) trivial ⟨rfl, rfl⟩
  refine PC.region ?_
  refine PL.op rfl (Rd.moveO rfl) ?_
  refine PL.op rfl (Rd.moveO rfl) ?_
  refine PL.callM true [] (w_L_eqIntS N r15.1 r9.1 r17 h_18) rfl Try.call9 rfl ⟨.own rfl (by first | decide | exact List.not_mem_nil) rfl rfl, .own rfl (by first | decide | exact List.not_mem_nil) rfl rfl, trivial⟩ rfl trivial (fun _ => ⟨trivial, flat_nil⟩) ?_
  refine PL.op rfl (Rd.unnot rfl) ?_
  refine PL.op rfl (Rd.moveT rfl) ?_
  refine PL.guard_on rfl (not_t h_19) ?_
  refine PL.op rfl (Rd.moveT rfl) ?_
  refine PL.guard_on rfl (not_t h_19) ?_
  refine PL.op rfl (Rd.moveT rfl) ?_
  refine PL.guard_on rfl (not_t h_19) ?_
  refine PL.op rfl (Rd.neqB rfl rfl) ?_
  refine PL.op rfl (Rd.pick_f rfl (not_t h_19)) ?_
  refine PL.nil ?_
  refine thA_n ?_
  rcases cond_some hh0 with ⟨h_20, hh0⟩ | ⟨h_20, hh0⟩
  rotate_left
  · refine PC.cond_true rfl (not_f h_20) ?_
    refine PC.seq ?_
    refine PC.region ?_
    refine PL.op rfl (Rd.asnT rfl) ?_
    refine PL.nil ?_
    refine thA_n ?_
    refine PC.ret ?_
    refine thA_r ?_
    obtain rfl := some_in hh0
    exact FinA.mk (r := bA false) (bl := []) [] (.inl rfl) rfl (rl := [.tmp 4]) (.tmp .nil) rfl rfl rfl (.t _) trivial ⟨rfl, rfl⟩
  refine PC.cond_false rfl (not_t h_20) ?_
  refine PC.skip ?_
  refine thA_n ?_
  refine PC.seq ?_
  refine PC.seq ?_
  obtain ⟨r21, h_22, hh0⟩ := bind_some hh0
  obtain ⟨r23, h_24, hh0⟩ := bind_some hh0
  refine PC.region ?_
  refine PL.op rfl (Rd.moveO rfl) ?_
  refine PL.op rfl (Rd.moveT rfl) ?_
  refine PL.callM false [] (w_L_toIntS N p_aS r21 h_22) rfl Try.call6 rfl ⟨.t _, trivial⟩ rfl trivial (fun h => by cases h) ?_
  refine PL.nm (.os 6 0 r21.length) [some ⟨.tr (eL r5), 3, 1⟩, some ⟨.tr (eL r7), 38, 4⟩, some ⟨.tr (eL r9.1), 3, 1⟩, some ⟨.tr (eL r11), 3, 1⟩, some ⟨.tr (eL r13), 38, 4⟩, some ⟨.tr (eL r15.1), 3, 1⟩, some ⟨.tr (eL r21), 3, 1⟩] rfl rfl ?_
  refine PL.callM true [] (w_L_eqIntS N r11 r21 r23 h_24) rfl Try.call9 rfl ⟨.own rfl (by first | decide | exact List.not_mem_nil) rfl rfl, .own rfl (by first | decide | exact List.not_mem_nil) rfl rfl, trivial⟩ rfl trivial (fun _ => ⟨trivial, flat_nil⟩) ?_
  refine PL.op rfl (Rd.unnot rfl) ?_
  refine PL.nil ?_
  refine thA_n ?_
  rcases cond_some hh0 with ⟨h_25, hh0⟩ | ⟨h_25, hh0⟩
  rotate_left
  · refine PC.cond_true rfl (not_f h_25) ?_
    refine PC.seq ?_
    refine PC.region ?_
    refine PL.op rfl (Rd.asnT rfl) ?_
    refine PL.nil ?_
    refine thA_n ?_
    refine PC.ret ?_
    refine thA_r ?_
    obtain rfl := some_in hh0
    exact FinA.mk (r := bA false) (bl := []) [] (.inl rfl) rfl (rl := [.tmp 4]) (.tmp .nil) rfl rfl rfl (.t _) trivial ⟨rfl, rfl⟩
  refine PC.cond_false rfl (not_t h_25) ?_
  refine PC.skip ?_
  refine thA_n ?_
  refine PC.seq ?_
  refine PC.seq ?_
  obtain ⟨r26, h_27, hh0⟩ := bind_some hh0
  obtain ⟨r28, h_29, hh0⟩ := bind_some hh0
  refine PC.region ?_
  refine PL.op rfl (Rd.moveO rfl) ?_
  refine PL.op rfl (Rd.moveT rfl) ?_
  refine PL.callM false [] (w_L_toEditS N p_aList r26 h_27) rfl Try.call7 rfl ⟨.t _, trivial⟩ rfl trivial (fun h => by cases h) ?_
  refine PL.nm (.os 7 0 r26.length) [some ⟨.tr (eL r5), 3, 1⟩, some ⟨.tr (eL r7), 38, 4⟩, some ⟨.tr (eL r9.1), 3, 1⟩, some ⟨.tr (eL r11), 3, 1⟩, some ⟨.tr (eL r13), 38, 4⟩, some ⟨.tr (eL r15.1), 3, 1⟩, some ⟨.tr (eL r21), 3, 1⟩, some ⟨.tr (eL r26), 38, 4⟩] rfl rfl ?_
  refine PL.callM true [] (w_L_eqEditS N r13 r26 r28 h_29) rfl Try.call10 rfl ⟨.own rfl (by first | decide | exact List.not_mem_nil) rfl rfl, .own rfl (by first | decide | exact List.not_mem_nil) rfl rfl, trivial⟩ rfl trivial (fun _ => ⟨trivial, flat_nil⟩) ?_
  refine PL.op rfl (Rd.unnot rfl) ?_
  refine PL.nil ?_
  refine thA_n ?_
  rcases cond_some hh0 with ⟨h_30, hh0⟩ | ⟨h_30, hh0⟩
  rotate_left
  · refine PC.cond_true rfl (not_f h_30) ?_
    refine PC.seq ?_
    refine PC.region ?_
    refine PL.op rfl (Rd.asnT rfl) ?_
    refine PL.nil ?_
    refine thA_n ?_
    refine PC.ret ?_
    refine thA_r ?_
    obtain rfl := some_in hh0
    exact FinA.mk (r := bA false) (bl := []) [] (.inl rfl) rfl (rl := [.tmp 4]) (.tmp .nil) rfl rfl rfl (.t _) trivial ⟨rfl, rfl⟩
  refine PC.cond_false rfl (not_t h_30) ?_
  refine PC.skip ?_
  refine thA_n ?_
  refine PC.seq ?_
  refine PC.region ?_
  refine PL.op rfl (Rd.asnT rfl) ?_
  refine PL.nil ?_
  refine thA_n ?_
  refine PC.seq ?_
  obtain ⟨r31, h_32, hh0⟩ := bind_some hh0
  refine PC.region ?_
  refine PL.op rfl (Rd.moveO rfl) ?_
  refine PL.op rfl (Rd.moveT rfl) ?_
  refine PL.callM false [3] (w_L_markIntS N r11 (1 : Int) r31 h_32) rfl Try.call11 rfl ⟨.os rfl, .t _, trivial⟩ rfl ⟨⟨_, rfl, rfl, rfl, .tr _⟩, trivial⟩ (fun h => by cases h) ?_
  refine PL.nm (iA r31.1) [some ⟨.tr (eL r5), 3, 1⟩, some ⟨.tr (eL r7), 38, 4⟩, some ⟨.tr (eL r9.1), 3, 1⟩, some ⟨.tr (eL r31.2), 3, 1⟩, some ⟨.tr (eL r13), 38, 4⟩, some ⟨.tr (eL r15.1), 3, 1⟩, some ⟨.tr (eL r21), 3, 1⟩, some ⟨.tr (eL r26), 38, 4⟩] rfl rfl ?_
  refine PL.op rfl (Rd.asnT rfl) ?_
  refine PL.nil ?_
  refine thA_n ?_
  refine PC.seq ?_
  obtain ⟨r33, h_34, hh0⟩ := bind_some hh0
  refine PC.region ?_
  refine PL.op rfl (Rd.moveO rfl) ?_
  refine PL.op rfl (Rd.moveT rfl) ?_
  refine PL.callM false [4] (w_L_markEditS N r13 r31.1 r33 h_34) rfl Try.call12 rfl ⟨.os rfl, .t _, trivial⟩ rfl ⟨⟨_, rfl, rfl, rfl, .tr _⟩, trivial⟩ (fun h => by cases h) ?_
  refine PL.nm (iA r33.1) [some ⟨.tr (eL r5), 3, 1⟩, some ⟨.tr (eL r7), 38, 4⟩, some ⟨.tr (eL r9.1), 3, 1⟩, some ⟨.tr (eL r31.2), 3, 1⟩, some ⟨.tr (eL r33.2), 38, 4⟩, some ⟨.tr (eL r15.1), 3, 1⟩, some ⟨.tr (eL r21), 3, 1⟩, some ⟨.tr (eL r26), 38, 4⟩] rfl rfl ?_
  refine PL.op rfl (Rd.asnT rfl) ?_
  refine PL.nil ?_
  refine thA_n ?_
  refine PC.seq ?_
  refine PC.seq ?_
  rcases cond_some hh0 with ⟨h_35, hh0⟩ | ⟨h_35, hh0⟩
  · refine PC.region ?_
    refine PL.op rfl (Rd.moveT rfl) ?_
    refine PL.op rfl (Rd.lss rfl rfl) ?_
    refine PL.op rfl (Rd.moveT rfl) ?_
    refine PL.guard_off rfl rfl h_35 ?_
    refine PL.guard_off rfl rfl h_35 ?_
    refine PL.guard_off rfl rfl h_35 ?_
    refine PL.guard_off rfl rfl h_35 ?_
    refine PL.op rfl (Rd.pick_t rfl h_35) ?_
    refine PL.op rfl (Rd.moveT rfl) ?_
    refine PL.guard_off rfl rfl rfl ?_
    refine PL.guard_off rfl rfl rfl ?_
    refine PL.guard_off rfl rfl rfl ?_
    refine PL.op rfl (Rd.pick_t rfl rfl) ?_
    refine PL.nil ?_
    refine thA_n ?_
    refine PC.cond_true rfl rfl ?_
    refine PC.seq ?_
    refine PC.region ?_
    refine PL.op rfl (Rd.asnT rfl) ?_
    refine PL.nil ?_
    refine thA_n ?_
    refine PC.ret ?_
    refine thA_r ?_
    obtain rfl := some_in hh0
    exact FinA.mk (r := bA false) (bl := []) [] (.inl rfl) rfl (rl := [.tmp 4]) (.tmp .nil) rfl rfl rfl (.t _) trivial ⟨rfl, rfl⟩
  obtain ⟨r36, h_37, hh0⟩ := bind_some hh0
  rcases cond_some hh0 with ⟨h_38, hh0⟩ | ⟨h_38, hh0⟩
  rotate_left
  · refine PC.region ?_
    refine PL.op rfl (Rd.moveT rfl) ?_
    refine PL.op rfl (Rd.lss rfl rfl) ?_
    refine PL.op rfl (Rd.moveT rfl) ?_
    refine PL.guard_on rfl h_35 ?_
    refine PL.op rfl (Rd.moveO rfl) ?_
    refine PL.guard_on rfl h_35 ?_
    refine PL.op rfl (Rd.moveO rfl) ?_
    refine PL.guard_on rfl h_35 ?_
    refine PL.callM true [] (w_L_eqIntS N r15.1 r9.1 r36 h_37) rfl Try.call9 rfl ⟨.own rfl (by first | decide | exact List.not_mem_nil) rfl rfl, .own rfl (by first | decide | exact List.not_mem_nil) rfl rfl, trivial⟩ rfl trivial (fun _ => ⟨trivial, flat_nil⟩) ?_
    refine PL.guard_on rfl h_35 ?_
    refine PL.op rfl (Rd.unnot rfl) ?_
    refine PL.op rfl (Rd.pick_f rfl h_35) ?_
    refine PL.op rfl (Rd.moveT rfl) ?_
    refine PL.guard_off rfl rfl (not_f h_38) ?_
    refine PL.guard_off rfl rfl (not_f h_38) ?_
    refine PL.guard_off rfl rfl (not_f h_38) ?_
    refine PL.op rfl (Rd.pick_t rfl (not_f h_38)) ?_
    refine PL.nil ?_
    refine thA_n ?_
    refine PC.cond_true rfl rfl ?_
    refine PC.seq ?_
    refine PC.region ?_
    refine PL.op rfl (Rd.asnT rfl) ?_
    refine PL.nil ?_
    refine thA_n ?_
    refine PC.ret ?_
    refine thA_r ?_
    obtain rfl := some_in hh0
    exact FinA.mk (r := bA false) (bl := []) [] (.inl rfl) rfl (rl := [.tmp 4]) (.tmp .nil) rfl rfl rfl (.t _) trivial ⟨rfl, rfl⟩
  refine PC.region ?_
  refine PL.op rfl (Rd.moveT rfl) ?_
  refine PL.op rfl (Rd.lss rfl rfl) ?_
  refine PL.op rfl (Rd.moveT rfl) ?_
  refine PL.guard_on rfl h_35 ?_
  refine PL.op rfl (Rd.moveO rfl) ?_
  refine PL.guard_on rfl h_35 ?_
  refine PL.op rfl (Rd.moveO rfl) ?_
  refine PL.guard_on rfl h_35 ?_
  refine PL.callM true [] (w_L_eqIntS N r15.1 r9.1 r36 h_37) rfl Try.call9 rfl ⟨.own rfl (by first | decide | exact List.not_mem_nil) rfl rfl, .own rfl (by first | decide | exact List.not_mem_nil) rfl rfl, trivial⟩ rfl trivial (fun _ => ⟨trivial, flat_nil⟩) ?_
  refine PL.guard_on rfl h_35 ?_
  refine PL.op rfl (Rd.unnot rfl) ?_
  refine PL.op rfl (Rd.pick_f rfl h_35) ?_
  refine PL.op rfl (Rd.moveT rfl) ?_
  refine PL.guard_on rfl (not_t h_38) ?_
  refine PL.op rfl (Rd.moveT rfl) ?_
  refine PL.guard_on rfl (not_t h_38) ?_
  refine PL.op rfl (Rd.moveT rfl) ?_
  refine PL.guard_on rfl (not_t h_38) ?_
  refine PL.op rfl (Rd.neqB rfl rfl) ?_
  refine PL.op rfl (Rd.pick_f rfl (not_t h_38)) ?_
  refine PL.nil ?_
  refine thA_n ?_
  refine PC.cond_false rfl (not_t h_20) ?_
  refine PC.skip ?_
  refine thA_n ?_
  refine PC.seq ?_
  refine PC.region ?_
  refine PL.op rfl (Rd.asnT rfl) ?_
  refine PL.nil ?_
  refine thA_n ?_
  refine PC.seq ?_
  obtain ⟨r39, h_40, hh0⟩ := bind_some hh0
  refine PC.region ?_
  refine PL.op rfl (Rd.moveO rfl) ?_
  refine PL.op rfl (Rd.moveT rfl) ?_
  refine PL.callM false [5] (w_L_markIntS N r15.1 (1 : Int) r39 h_40) rfl Try.call11 rfl ⟨.os rfl, .t _, trivial⟩ rfl ⟨⟨_, rfl, rfl, rfl, .tr _⟩, trivial⟩ (fun h => by cases h) ?_
  refine PL.nm (iA r39.1) [some ⟨.tr (eL r5), 3, 1⟩, some ⟨.tr (eL r7), 38, 4⟩, some ⟨.tr (eL r9.1), 3, 1⟩, some ⟨.tr (eL r31.2), 3, 1⟩, some ⟨.tr (eL r33.2), 38, 4⟩, some ⟨.tr (eL r39.2), 3, 1⟩, some ⟨.tr (eL r21), 3, 1⟩, some ⟨.tr (eL r26), 38, 4⟩] rfl rfl ?_
  refine PL.op rfl (Rd.asnT rfl) ?_
  refine PL.nil ?_
  refine thA_n ?_
  refine PC.seq ?_
  refine PC.region ?_
  refine PL.op rfl (Rd.asnT rfl) ?_
  refine PL.nil ?_
  refine thA_n ?_
  refine PC.seq ?_
  obtain ⟨r41, h_42, hh0⟩ := bind_some hh0
  refine PC.region ?_
  refine PL.op rfl (Rd.moveO rfl) ?_
  refine PL.op rfl (Rd.moveT rfl) ?_
  refine PL.callM true [] (w_L_heldIntS N r39.2 (1 : Int) r41 h_42) rfl Try.call13 rfl ⟨.own rfl (by first | decide | exact List.not_mem_nil) (by simp only [List.length_set, len_L_markIntS N _ _ _ h_40]) rfl, .t _, trivial⟩ rfl trivial (fun _ => ⟨trivial, flat_nil⟩) ?_
  refine PL.op rfl (Rd.asnT rfl) ?_
  refine PL.nil ?_
  refine thA_n ?_
  refine PC.seq ?_
  refine PC.seq ?_
  refine PC.region ?_
  refine PL.op rfl (Rd.moveT rfl) ?_
  refine PL.op rfl (Rd.lss rfl rfl) ?_
  refine PL.nil ?_
  refine thA_n ?_
  rcases cond_some hh0 with ⟨h_43, hh0⟩ | ⟨h_43, hh0⟩
  · refine PC.cond_true rfl h_43 ?_
    refine PC.seq ?_
    refine PC.region ?_
    refine PL.op rfl (Rd.asnT rfl) ?_
    refine PL.nil ?_
    refine thA_n ?_
    refine PC.ret ?_
    refine thA_r ?_
    obtain rfl := some_in hh0
    exact FinA.mk (r := bA false) (bl := []) [] (.inl rfl) rfl (rl := [.tmp 4]) (.tmp .nil) rfl rfl rfl (.t _) trivial ⟨rfl, rfl⟩
  refine PC.cond_false rfl h_43 ?_
  refine PC.skip ?_
  refine thA_n ?_
  refine PC.seq ?_
  refine PC.seq ?_
  refine PC.region ?_
  refine PL.op rfl (Rd.moveT rfl) ?_
  refine PL.op rfl (Rd.moveT rfl) ?_
  refine PL.op rfl (Rd.neq rfl rfl) ?_
  refine PL.nil ?_
  refine thA_n ?_
  rcases cond_some hh0 with ⟨h_44, hh0⟩ | ⟨h_44, hh0⟩
  rotate_left
  · refine PC.cond_true rfl (not_f h_44) ?_
    refine PC.seq ?_
    refine PC.region ?_
    refine PL.op rfl (Rd.asnT rfl) ?_
    refine PL.nil ?_
    refine thA_n ?_
    refine PC.ret ?_
    refine thA_r ?_
    obtain rfl := some_in hh0
    exact FinA.mk (r := bA false) (bl := []) [] (.inl rfl) rfl (rl := [.tmp 4]) (.tmp .nil) rfl rfl rfl (.t _) trivial ⟨rfl, rfl⟩
  refine PC.cond_false rfl (not_t h_44) ?_
  refine PC.skip ?_
  refine thA_n ?_
  refine PC.seq ?_
  obtain ⟨r45, h_46, hh0⟩ := bind_some hh0
  obtain ⟨r47, h_48, hh0⟩ := bind_some hh0
  obtain ⟨r49, h_50, hh0⟩ := bind_some hh0
  refine PC.region ?_
  refine PL.op rfl (Rd.moveT rfl) ?_
  refine PL.callM false [] (w_L_toIntS N p_aS r45 h_46) rfl Try.call6 rfl ⟨.t _, trivial⟩ rfl trivial (fun h => by cases h) ?_
  refine PL.nm (.os 8 0 r45.length) [some ⟨.tr (eL r5), 3, 1⟩, some ⟨.tr (eL r7), 38, 4⟩, some ⟨.tr (eL r9.1), 3, 1⟩, some ⟨.tr (eL r31.2), 3, 1⟩, some ⟨.tr (eL r33.2), 38, 4⟩, some ⟨.tr (eL r39.2), 3, 1⟩, some ⟨.tr (eL r21), 3, 1⟩, some ⟨.tr (eL r26), 38, 4⟩, some ⟨.tr (eL r45), 3, 1⟩] rfl rfl ?_
  refine PL.op rfl (Rd.moveT rfl) ?_
  refine PL.callM false [] (w_L_toEditS N p_aList r47 h_48) rfl Try.call7 rfl ⟨.t _, trivial⟩ rfl trivial (fun h => by cases h) ?_
  refine PL.nm (.os 9 0 r47.length) [some ⟨.tr (eL r5), 3, 1⟩, some ⟨.tr (eL r7), 38, 4⟩, some ⟨.tr (eL r9.1), 3, 1⟩, some ⟨.tr (eL r31.2), 3, 1⟩, some ⟨.tr (eL r33.2), 38, 4⟩, some ⟨.tr (eL r39.2), 3, 1⟩, some ⟨.tr (eL r21), 3, 1⟩, some ⟨.tr (eL r26), 38, 4⟩, some ⟨.tr (eL r45), 3, 1⟩, some ⟨.tr (eL r47), 38, 4⟩] rfl rfl ?_
  refine PL.callM true [] (w_I_RunEdits N r45 r47 r49 h_50) rfl Try.call8 rfl ⟨.own rfl (by first | decide | exact List.not_mem_nil) rfl rfl, .own rfl (by first | decide | exact List.not_mem_nil) rfl rfl, trivial⟩ rfl trivial (fun _ => ⟨⟨trivial, trivial, trivial⟩, (flat_cons flat_ow flat_nil)⟩) ?_
  refine PL.nm (.tup [.os 10 0 r49.1.length, bA r49.2]) [some ⟨.tr (eL r5), 3, 1⟩, some ⟨.tr (eL r7), 38, 4⟩, some ⟨.tr (eL r9.1), 3, 1⟩, some ⟨.tr (eL r31.2), 3, 1⟩, some ⟨.tr (eL r33.2), 38, 4⟩, some ⟨.tr (eL r39.2), 3, 1⟩, some ⟨.tr (eL r21), 3, 1⟩, some ⟨.tr (eL r26), 38, 4⟩, some ⟨.tr (eL r45), 3, 1⟩, some ⟨.tr (eL r47), 38, 4⟩, some ⟨.tr (eL r49.1), 3, 1⟩] rfl rfl ?_
  refine PL.op rfl (Rd.moveU rfl) ?_
  refine PL.op rfl (Rd.extract rfl rfl) ?_
  refine PL.op rfl (Rd.extract rfl rfl) ?_
  refine PL.op rfl (Rd.asnO rfl) ?_
  refine PL.op rfl (Rd.asnT rfl) ?_
  refine PL.nil ?_
  refine thA_n ?_
  refine PC.seq ?_
  refine PC.seq ?_
  obtain ⟨r51, h_52, hh0⟩ := bind_some hh0
  rcases cond_some hh0 with ⟨h_53, hh0⟩ | ⟨h_53, hh0⟩
  rotate_left
  · refine PC.region ?_
    refine PL.op rfl (Rd.moveO rfl) ?_
    refine PL.op rfl (Rd.moveO rfl) ?_
    refine PL.callM true [] (w_L_eqIntS N r49.1 r9.1 r51 h_52) rfl Try.call9 rfl ⟨.own rfl (by first | decide | exact List.not_mem_nil) rfl rfl, .own rfl (by first | decide | exact List.not_mem_nil) rfl rfl, trivial⟩ rfl trivial (fun _ => ⟨trivial, flat_nil⟩) ?_
    refine PL.op rfl (Rd.unnot rfl) ?_
    refine PL.op rfl (Rd.moveT rfl) ?_
    refine PL.guard_off rfl rfl (not_f h_53) ?_
    refine PL.guard_off rfl rfl (not_f h_53) ?_
    refine PL.guard_off rfl rfl (not_f h_53) ?_
    refine PL.op rfl (Rd.pick_t rfl (not_f h_53)) ?_
    refine PL.nil ?_
    refine thA_n ?_
    refine PC.cond_true rfl rfl ?_
    refine PC.seq ?_
    refine PC.region ?_
    refine PL.op rfl (Rd.asnT rfl) ?_
    refine PL.nil ?_
    refine thA_n ?_
    refine PC.ret ?_
    refine thA_r ?_
    obtain rfl := some_in hh0
    exact FinA.mk (r := bA false) (bl := []) [] (.inl rfl) rfl (rl := [.tmp 4]) (.tmp .nil) rfl rfl rfl (.t _) trivial ⟨rfl, rfl⟩
  refine PC.region ?_
  refine PL.op rfl (Rd.moveO rfl) ?_
  refine PL.op rfl (Rd.moveO rfl) ?_
  refine PL.callM true [] (w_L_eqIntS N r49.1 r9.1 r51 h_52) rfl Try.call9 rfl ⟨.own rfl (by first | decide | exact List.not_mem_nil) rfl rfl, .own rfl (by first | decide | exact List.not_mem_nil) rfl rfl, trivial⟩ rfl trivial (fun _ => ⟨trivial, flat_nil⟩) ?_
  refine PL.op rfl (Rd.unnot rfl) ?_
  refine PL.op rfl (Rd.moveT rfl) ?_
  refine PL.guard_on rfl (not_t h_53) ?_
  refine PL.op rfl (Rd.moveT rfl) ?_
  refine PL.guard_on rfl (not_t h_53) ?_
  refine PL.op rfl (Rd.moveT rfl) ?_
  refine PL.guard_on rfl (not_t h_53) ?_
  refine PL.op rfl (Rd.neqB rfl rfl) ?_
  refine PL.op rfl (Rd.pick_f rfl (not_t h_53)) ?_
  refine PL.nil ?_
  refine thA_n ?_
  rcases cond_some hh0 with ⟨h_54, hh0⟩ | ⟨h_54, hh0⟩
  rotate_left
  · refine PC.cond_true rfl (not_f h_54) ?_
    refine PC.seq ?_
    refine PC.region ?_
    refine PL.op rfl (Rd.asnT rfl) ?_
    refine PL.nil ?_
    refine thA_n ?_
    refine PC.ret ?_
    refine thA_r ?_
    obtain rfl := some_in hh0
    exact FinA.mk (r := bA false) (bl := []) [] (.inl rfl) rfl (rl := [.tmp 4]) (.tmp .nil) rfl rfl rfl (.t _) trivial ⟨rfl, rfl⟩
  refine PC.cond_false rfl (not_t h_54) ?_
  refine PC.skip ?_
  refine thA_n ?_
  refine PC.seq ?_
  refine PC.region ?_
  refine PL.op rfl (Rd.asnT rfl) ?_
  refine PL.nil ?_
  refine thA_n ?_
  refine PC.seq ?_
  obtain ⟨r55, h_56, hh0⟩ := bind_some hh0
  refine PC.region ?_
  refine PL.op rfl (Rd.moveO rfl) ?_
  refine PL.op rfl (Rd.moveT rfl) ?_
  refine PL.callM true [] (w_L_heldIntS N r39.2 (1 : Int) r55 h_56) rfl Try.call13 rfl ⟨.own rfl (by first | decide | exact List.not_mem_nil) (by simp only [List.length_set, len_L_markIntS N _ _ _ h_40]) rfl, .t _, trivial⟩ rfl trivial (fun _ => ⟨trivial, flat_nil⟩) ?_
  refine PL.op rfl (Rd.asnT rfl) ?_
  refine PL.nil ?_
  refine thA_n ?_
  refine PC.seq ?_
  refine PC.seq ?_
  refine PC.region ?_
  refine PL.op rfl (Rd.moveT rfl) ?_
  refine PL.op rfl (Rd.lss rfl rfl) ?_
  refine PL.nil ?_
  refine thA_n ?_
  rcases cond_some hh0 with ⟨h_57, hh0⟩ | ⟨h_57, hh0⟩
  · refine PC.cond_true rfl h_57 ?_
    refine PC.seq ?_
    refine PC.region ?_
    refine PL.op rfl (Rd.asnT rfl) ?_
    refine PL.nil ?_
    refine thA_n ?_
    refine PC.ret ?_
    refine thA_r ?_
    obtain rfl := some_in hh0
    exact FinA.mk (r := bA false) (bl := []) [] (.inl rfl) rfl (rl := [.tmp 4]) (.tmp .nil) rfl rfl rfl (.t _) trivial ⟨rfl, rfl⟩
  refine PC.cond_false rfl h_57 ?_
  refine PC.skip ?_
  refine thA_n ?_
  refine PC.seq ?_
  refine PC.seq ?_
  refine PC.region ?_
  refine PL.op rfl (Rd.moveT rfl) ?_
  refine PL.op rfl (Rd.moveT rfl) ?_
  refine PL.op rfl (Rd.neq rfl rfl) ?_
  refine PL.nil ?_
  refine thA_n ?_
  rcases cond_some hh0 with ⟨h_58, hh0⟩ | ⟨h_58, hh0⟩
  rotate_left
  · refine PC.cond_true rfl (not_f h_58) ?_
    refine PC.seq ?_
    refine PC.region ?_
    refine PL.op rfl (Rd.asnT rfl) ?_
    refine PL.nil ?_
    refine thA_n ?_
    refine PC.ret ?_
    refine thA_r ?_
    obtain rfl := some_in hh0
    exact FinA.mk (r := bA false) (bl := []) [] (.inl rfl) rfl (rl := [.tmp 4]) (.tmp .nil) rfl rfl rfl (.t _) trivial ⟨rfl, rfl⟩
  refine PC.cond_false rfl (not_t h_58) ?_
  refine PC.skip ?_
  refine thA_n ?_
  refine PC.seq ?_
  refine PC.region ?_
  refine PL.op rfl (Rd.asnT rfl) ?_
  refine PL.nil ?_
  refine thA_n ?_
  refine PC.ret ?_
  obtain rfl := some_in hh0
  exact FinA.mk (r := bA true) (bl := []) [] (.inl rfl) rfl (rl := [.tmp 4]) (.tmp .nil) rfl rfl rfl (.t _) trivial ⟨rfl, rfl⟩

end V
end Go.Proofs.Ytaiifcnjmbpbjaa
