/- Usable indexes: an exact law's function. No condition. -/
import Derived.Test.YtlpbgmahegoidaaPlUxX
namespace Go.Proofs.Ytlpbgmahegoidaa
namespace V
open Enc (enc)
set_option linter.unusedVariables false
set_option linter.unusedSimpArgs false
set_option maxHeartbeats 4000000
set_option maxRecDepth 100000
open Go.RowKit
attribute [local irreducible] thA inA FinA eL

def m_L_FnExactUsableIndexes (N : Nat) (p_aList : (List L_Entry)) (p_aTable : ByteArray) (p_aChanges : Bool) : Option (Bool) :=
  cond (decide ((1048576 : Int) < (p_aTable.size : Int)))
    (some true)
    ((m_L_szEntryS N p_aList (1048576 : Int)).bind fun r2 =>
    cond (decide (r2 < (0 : Int)))
      (some true)
      ((m_L_toEntryS N p_aList).bind fun r5 =>
      (m_S_UsableIndexes N r5 p_aTable p_aChanges).bind fun r7 =>
      (m_L_toEntryS N p_aList).bind fun r9 =>
      (m_I_UsableIndexes N r9 p_aTable p_aChanges).bind fun r11 =>
      (m_L_eqStringS N r11 r7).bind fun r13 =>
      cond r13
        ((m_L_toEntryS N p_aList).bind fun r16 =>
        (m_L_eqEntryS N r9 r16).bind fun r18 =>
        cond r18
          ((m_L_markEntryS N r9 (1 : Int)).bind fun r21 =>
          cond (decide (r21.1 < (0 : Int)))
            (some false)
            ((m_L_eqStringS N r11 r7).bind fun r24 =>
            cond r24
              ((m_L_markStringS N r11 (1 : Int)).bind fun r27 =>
              (m_L_heldStringS N r27.2 (1 : Int)).bind fun r29 =>
              cond (decide (r29 < (0 : Int)))
                (some false)
                (cond (decide (r29 = r27.1))
                  ((m_L_toEntryS N p_aList).bind fun r33 =>
                  (m_I_UsableIndexes N r33 p_aTable p_aChanges).bind fun r35 =>
                  (m_L_eqStringS N r35 r7).bind fun r37 =>
                  cond r37
                    ((m_L_heldStringS N r27.2 (1 : Int)).bind fun r40 =>
                    cond (decide (r40 < (0 : Int)))
                      (some false)
                      (cond (decide (r40 = r27.1))
                        (some true)
                        (some false)))
                    (some false))
                  (some false)))
              (some false)))
          (some false))
        (some false)))
theorem w_L_FnExactUsableIndexes (N : Nat) (p_aList : (List L_Entry)) (p_aTable : ByteArray) (p_aChanges : Bool) (r : Bool) (hh0 : m_L_FnExactUsableIndexes N p_aList p_aTable p_aChanges = some r) : FnX Try.prog 3 [] [sL p_aList, sA p_aTable, bA p_aChanges] (RE (bA r) []) := by
  unfold m_L_FnExactUsableIndexes at hh0
  refine FnX.mk Try.func3 rfl rfl ?_
  intro s hs
  refine PC.seq ?_
  refine PC.region ?_
  refine PL.op rfl (Rd.asnT rfl) ?_
  refine PL.nil ?_
  refine thA_n ?_
  refine PC.seq ?_
  refine PC.seq ?_
  refine PC.region ?_
  refine PL.op rfl (Rd.moveT rfl) ?_
  refine PL.op rfl (Rd.lenSt rfl) ?_
  refine PL.op rfl (Rd.gtr rfl rfl) ?_
  refine PL.nil ?_
  refine thA_n ?_
  rcases cond_some hh0 with ⟨h_1, hh0⟩ | ⟨h_1, hh0⟩
  · refine PC.cond_true rfl h_1 ?_
    refine PC.seq ?_
    refine PC.region ?_
    refine PL.op rfl (Rd.asnT rfl) ?_
    refine PL.nil ?_
    refine thA_n ?_
    refine PC.ret ?_
    refine thA_r ?_
    obtain rfl := some_in hh0
    exact FinA.mk (r := bA true) (bl := []) [] (.inl rfl) rfl (rl := [.tmp 6]) (.tmp .nil) rfl rfl rfl (.t _) trivial ⟨rfl, rfl⟩
  refine PC.cond_false rfl h_1 ?_
  refine PC.skip ?_
  refine thA_n ?_
  refine PC.seq ?_
  refine PC.region ?_
  refine PL.op rfl (Rd.asnT rfl) ?_
  refine PL.nil ?_
  refine thA_n ?_
  refine PC.seq ?_
  obtain ⟨r2, h_3, hh0⟩ := bind_some hh0
  refine PC.region ?_
  refine PL.op rfl (Rd.moveT rfl) ?_
  refine PL.op rfl (Rd.moveT rfl) ?_
  refine PL.callM false [] (w_L_szEntryS N p_aList (1048576 : Int) r2 h_3) rfl Try.call6 rfl ⟨.t _, .t _, trivial⟩ rfl trivial (fun h => by cases h) ?_
  refine PL.op rfl (Rd.asnT rfl) ?_
  refine PL.nil ?_
  refine thA_n ?_
  refine PC.seq ?_
  refine PC.seq ?_
  refine PC.region ?_
  refine PL.op rfl (Rd.moveT rfl) ?_
  refine PL.op rfl (Rd.lss rfl rfl) ?_
  refine PL.nil ?_
  refine thA_n ?_
  rcases cond_some hh0 with ⟨h_4, hh0⟩ | ⟨h_4, hh0⟩
  · refine PC.cond_true rfl h_4 ?_
    refine PC.seq ?_
    refine PC.region ?_
    refine PL.op rfl (Rd.asnT rfl) ?_
    refine PL.nil ?_
    refine thA_n ?_
    refine PC.ret ?_
    refine thA_r ?_
    obtain rfl := some_in hh0
    exact FinA.mk (r := bA true) (bl := []) [] (.inl rfl) rfl (rl := [.tmp 6]) (.tmp .nil) rfl rfl rfl (.t _) trivial ⟨rfl, rfl⟩
  refine PC.cond_false rfl h_4 ?_
  refine PC.skip ?_
  refine thA_n ?_
  refine PC.seq ?_
  obtain ⟨r5, h_6, hh0⟩ := bind_some hh0
  obtain ⟨r7, h_8, hh0⟩ := bind_some hh0
  refine PC.region ?_
  refine PL.op rfl (Rd.moveT rfl) ?_
  refine PL.callM false [] (w_L_toEntryS N p_aList r5 h_6) rfl Try.call8 rfl ⟨.t _, trivial⟩ rfl trivial (fun h => by cases h) ?_
  refine PL.nm (.os 0 0 r5.length) [some ⟨.tr (eL r5), 62, 3⟩] rfl rfl ?_
  refine PL.op rfl (Rd.moveT rfl) ?_
  refine PL.op rfl (Rd.moveT rfl) ?_
  refine PL.callM true [] (w_S_UsableIndexes N r5 p_aTable p_aChanges r7 h_8) rfl Try.call7 rfl ⟨.own rfl (by first | decide | exact List.not_mem_nil) rfl rfl, .t _, .t _, trivial⟩ rfl trivial (fun _ => ⟨trivial, (flat_cons flat_ow flat_nil)⟩) ?_
  refine PL.nm (.os 1 0 r7.length) [some ⟨.tr (eL r5), 62, 3⟩, some ⟨.tr (eL r7), 9, 1⟩] rfl rfl ?_
  refine PL.op rfl (Rd.asnO rfl) ?_
  refine PL.nil ?_
  refine thA_n ?_
  refine PC.seq ?_
  obtain ⟨r9, h_10, hh0⟩ := bind_some hh0
  refine PC.region ?_
  refine PL.op rfl (Rd.moveT rfl) ?_
  refine PL.callM false [] (w_L_toEntryS N p_aList r9 h_10) rfl Try.call8 rfl ⟨.t _, trivial⟩ rfl trivial (fun h => by cases h) ?_
  refine PL.nm (.os 2 0 r9.length) [some ⟨.tr (eL r5), 62, 3⟩, some ⟨.tr (eL r7), 9, 1⟩, some ⟨.tr (eL r9), 62, 3⟩] rfl rfl ?_
  refine PL.op rfl (Rd.asnO rfl) ?_
  refine PL.nil ?_
  refine thA_n ?_
  refine PC.seq ?_
  obtain ⟨r11, h_12, hh0⟩ := bind_some hh0
  refine PC.region ?_
  refine PL.op rfl (Rd.moveO rfl) ?_
  refine PL.op rfl (Rd.moveT rfl) ?_
  refine PL.op rfl (Rd.moveT rfl) ?_
  refine PL.callM true [] (w_I_UsableIndexes N r9 p_aTable p_aChanges r11 h_12) rfl Try.call9 rfl ⟨.own rfl (by first | decide | exact List.not_mem_nil) rfl rfl, .t _, .t _, trivial⟩ rfl trivial (fun _ => ⟨trivial, (flat_cons flat_ow flat_nil)⟩) ?_
  refine PL.nm (.os 3 0 r11.length) [some ⟨.tr (eL r5), 62, 3⟩, some ⟨.tr (eL r7), 9, 1⟩, some ⟨.tr (eL r9), 62, 3⟩, some ⟨.tr (eL r11), 9, 1⟩] rfl rfl ?_
  refine PL.op rfl (Rd.asnO rfl) ?_
  refine PL.nil ?_
  refine thA_n ?_
  refine PC.seq ?_
  refine PC.seq ?_
  obtain ⟨r13, h_14, hh0⟩ := bind_some hh0
  refine PC.region ?_
  refine PL.op rfl (Rd.moveO rfl) ?_
  refine PL.op rfl (Rd.moveO rfl) ?_
  refine PL.callM true [] (w_L_eqStringS N r11 r7 r13 h_14) rfl Try.call10 rfl ⟨.own rfl (by first | decide | exact List.not_mem_nil) rfl rfl, .own rfl (by first | decide | exact List.not_mem_nil) rfl rfl, trivial⟩ rfl trivial (fun _ => ⟨trivial, flat_nil⟩) ?_
  refine PL.op rfl (Rd.unnot rfl) ?_
  refine PL.nil ?_
  refine thA_n ?_
  rcases cond_some hh0 with ⟨h_15, hh0⟩ | ⟨h_15, hh0⟩
  rotate_left
  · refine PC.cond_true rfl (not_f h_15) ?_
    refine PC.seq ?_
    refine PC.region ?_
    refine PL.op rfl (Rd.asnT rfl) ?_
    refine PL.nil ?_
    refine thA_n ?_
    refine PC.ret ?_
    refine thA_r ?_
    obtain rfl := some_in hh0
    exact FinA.mk (r := bA false) (bl := []) [] (.inl rfl) rfl (rl := [.tmp 6]) (.tmp .nil) rfl rfl rfl (.t _) trivial ⟨rfl, rfl⟩
  refine PC.cond_false rfl (not_t h_15) ?_
  refine PC.skip ?_
  refine thA_n ?_
  refine PC.seq ?_
  refine PC.seq ?_
  obtain ⟨r16, h_17, hh0⟩ := bind_some hh0
  obtain ⟨r18, h_19, hh0⟩ := bind_some hh0
  refine PC.region ?_
  refine PL.op rfl (Rd.moveO rfl) ?_
  refine PL.op rfl (Rd.moveT rfl) ?_
  refine PL.callM false [] (w_L_toEntryS N p_aList r16 h_17) rfl Try.call8 rfl ⟨.t _, trivial⟩ rfl trivial (fun h => by cases h) ?_
  refine PL.nm (.os 4 0 r16.length) [some ⟨.tr (eL r5), 62, 3⟩, some ⟨.tr (eL r7), 9, 1⟩, some ⟨.tr (eL r9), 62, 3⟩, some ⟨.tr (eL r11), 9, 1⟩, some ⟨.tr (eL r16), 62, 3⟩] rfl rfl ?_
  refine PL.callM true [] (w_L_eqEntryS N r9 r16 r18 h_19) rfl Try.call11 rfl ⟨.own rfl (by first | decide | exact List.not_mem_nil) rfl rfl, .own rfl (by first | decide | exact List.not_mem_nil) rfl rfl, trivial⟩ rfl trivial (fun _ => ⟨trivial, flat_nil⟩) ?_
  refine PL.op rfl (Rd.unnot rfl) ?_
  refine PL.nil ?_
  refine thA_n ?_
  rcases cond_some hh0 with ⟨h_20, hh0⟩ | ⟨h_20, hh0⟩
  rotate_left
  · refine PC.cond_true rfl (not_f h_20) ?_
    refine PC.seq ?_
    refine PC.region ?_
    refine PL.op rfl (Rd.asnT rfl) ?_
    refine PL.nil ?_
    refine thA_n ?_
    refine PC.ret ?_
    refine thA_r ?_
    obtain rfl := some_in hh0
    exact FinA.mk (r := bA false) (bl := []) [] (.inl rfl) rfl (rl := [.tmp 6]) (.tmp .nil) rfl rfl rfl (.t _) trivial ⟨rfl, rfl⟩
  refine PC.cond_false rfl (not_t h_20) ?_
  refine PC.skip ?_
  refine thA_n ?_
  refine PC.seq ?_
  refine PC.region ?_
  refine PL.op rfl (Rd.asnT rfl) ?_
  refine PL.nil ?_
  refine thA_n ?_
  refine PC.seq ?_
  obtain ⟨r21, h_22, hh0⟩ := bind_some hh0
  refine PC.region ?_
  refine PL.op rfl (Rd.moveO rfl) ?_
  refine PL.op rfl (Rd.moveT rfl) ?_
  refine PL.callM false [2] (w_L_markEntryS N r9 (1 : Int) r21 h_22) rfl Try.call12 rfl ⟨.os rfl, .t _, trivial⟩ rfl ⟨⟨_, rfl, rfl, rfl, .tr _⟩, trivial⟩ (fun h => by cases h) ?_
  refine PL.nm (iA r21.1) [some ⟨.tr (eL r5), 62, 3⟩, some ⟨.tr (eL r7), 9, 1⟩, some ⟨.tr (eL r21.2), 62, 3⟩, some ⟨.tr (eL r11), 9, 1⟩, some ⟨.tr (eL r16), 62, 3⟩] rfl rfl ?_
  refine PL.op rfl (Rd.asnT rfl) ?_
  refine PL.nil ?_
  refine thA_n ?_
  refine PC.seq ?_
  refine PC.seq ?_
  rcases cond_some hh0 with ⟨h_23, hh0⟩ | ⟨h_23, hh0⟩
  · refine PC.region ?_
    refine PL.op rfl (Rd.moveT rfl) ?_
    refine PL.op rfl (Rd.lss rfl rfl) ?_
    refine PL.op rfl (Rd.moveT rfl) ?_
    refine PL.guard_off rfl rfl h_23 ?_
    refine PL.guard_off rfl rfl h_23 ?_
    refine PL.guard_off rfl rfl h_23 ?_
    refine PL.guard_off rfl rfl h_23 ?_
    refine PL.op rfl (Rd.pick_t rfl h_23) ?_
    refine PL.nil ?_
    refine thA_n ?_
    refine PC.cond_true rfl rfl ?_
    refine PC.seq ?_
    refine PC.region ?_
    refine PL.op rfl (Rd.asnT rfl) ?_
    refine PL.nil ?_
    refine thA_n ?_
    refine PC.ret ?_
    refine thA_r ?_
    obtain rfl := some_in hh0
    exact FinA.mk (r := bA false) (bl := []) [] (.inl rfl) rfl (rl := [.tmp 6]) (.tmp .nil) rfl rfl rfl (.t _) trivial ⟨rfl, rfl⟩
  obtain ⟨r24, h_25, hh0⟩ := bind_some hh0
  refine PC.region ?_
  refine PL.op rfl (Rd.moveT rfl) ?_
  refine PL.op rfl (Rd.lss rfl rfl) ?_
  refine PL.op rfl (Rd.moveT rfl) ?_
  refine PL.guard_on rfl h_23 ?_
  refine PL.op rfl (Rd.moveO rfl) ?_
  refine PL.guard_on rfl h_23 ?_
  refine PL.op rfl (Rd.moveO rfl) ?_
  refine PL.guard_on rfl h_23 ?_
  refine PL.callM true [] (w_L_eqStringS N r11 r7 r24 h_25) rfl Try.call10 rfl ⟨.own rfl (by first | decide | exact List.not_mem_nil) rfl rfl, .own rfl (by first | decide | exact List.not_mem_nil) rfl rfl, trivial⟩ rfl trivial (fun _ => ⟨trivial, flat_nil⟩) ?_
  refine PL.guard_on rfl h_23 ?_
  refine PL.op rfl (Rd.unnot rfl) ?_
  refine PL.op rfl (Rd.pick_f rfl h_23) ?_
  refine PL.nil ?_
  refine thA_n ?_
  rcases cond_some hh0 with ⟨h_26, hh0⟩ | ⟨h_26, hh0⟩
  rotate_left
  · refine PC.cond_true rfl (not_f h_26) ?_
    refine PC.seq ?_
    refine PC.region ?_
    refine PL.op rfl (Rd.asnT rfl) ?_
    refine PL.nil ?_
    refine thA_n ?_
    refine PC.ret ?_
    refine thA_r ?_
    obtain rfl := some_in hh0
    exact FinA.mk (r := bA false) (bl := []) [] (.inl rfl) rfl (rl := [.tmp 6]) (.tmp .nil) rfl rfl rfl (.t _) trivial ⟨rfl, rfl⟩
  refine PC.cond_false rfl (not_t h_26) ?_
  refine PC.skip ?_
  refine thA_n ?_
  refine PC.seq ?_
  refine PC.region ?_
  refine PL.op rfl (Rd.asnT rfl) ?_
  refine PL.nil ?_
  refine thA_n ?_
  refine PC.seq ?_
  obtain ⟨r27, h_28, hh0⟩ := bind_some hh0
  refine PC.region ?_
  refine PL.op rfl (Rd.moveO rfl) ?_
  refine PL.op rfl (Rd.moveT rfl) ?_
  refine PL.callM false [3] (w_L_markStringS N r11 (1 : Int) r27 h_28) rfl Try.call13 rfl ⟨.os rfl, .t _, trivial⟩ rfl ⟨⟨_, rfl, rfl, rfl, .tr _⟩, trivial⟩ (fun h => by cases h) ?_
  refine PL.nm (iA r27.1) [some ⟨.tr (eL r5), 62, 3⟩, some ⟨.tr (eL r7), 9, 1⟩, some ⟨.tr (eL r21.2), 62, 3⟩, some ⟨.tr (eL r27.2), 9, 1⟩, some ⟨.tr (eL r16), 62, 3⟩] rfl rfl ?_
  refine PL.op rfl (Rd.asnT rfl) ?_
  refine PL.nil ?_
  refine thA_n ?_
  refine PC.seq ?_
  refine PC.region ?_
  refine PL.op rfl (Rd.asnT rfl) ?_
  refine PL.nil ?_
  refine thA_n ?_
  refine PC.seq ?_
  obtain ⟨r29, h_30, hh0⟩ := bind_some hh0
  refine PC.region ?_
  refine PL.op rfl (Rd.moveO rfl) ?_
  refine PL.op rfl (Rd.moveT rfl) ?_
  refine PL.callM true [] (w_L_heldStringS N r27.2 (1 : Int) r29 h_30) rfl Try.call14 rfl ⟨.own rfl (by first | decide | exact List.not_mem_nil) (by simp only [List.length_set, len_L_markStringS N _ _ _ h_28]) rfl, .t _, trivial⟩ rfl trivial (fun _ => ⟨trivial, flat_nil⟩) ?_
  refine PL.op rfl (Rd.asnT rfl) ?_
  refine PL.nil ?_
  refine thA_n ?_
  refine PC.seq ?_
  refine PC.seq ?_
  refine PC.region ?_
  refine PL.op rfl (Rd.moveT rfl) ?_
  refine PL.op rfl (Rd.lss rfl rfl) ?_
  refine PL.nil ?_
  refine thA_n ?_
  rcases cond_some hh0 with ⟨h_31, hh0⟩ | ⟨h_31, hh0⟩
  · refine PC.cond_true rfl h_31 ?_
    refine PC.seq ?_
    refine PC.region ?_
    refine PL.op rfl (Rd.asnT rfl) ?_
    refine PL.nil ?_
    refine thA_n ?_
    refine PC.ret ?_
    refine thA_r ?_
    obtain rfl := some_in hh0
    exact FinA.mk (r := bA false) (bl := []) [] (.inl rfl) rfl (rl := [.tmp 6]) (.tmp .nil) rfl rfl rfl (.t _) trivial ⟨rfl, rfl⟩
  refine PC.cond_false rfl h_31 ?_
  refine PC.skip ?_
  refine thA_n ?_
  refine PC.seq ?_
  refine PC.seq ?_
  refine PC.region ?_
  refine PL.op rfl (Rd.moveT rfl) ?_
  refine PL.op rfl (Rd.moveT rfl) ?_
  refine PL.op rfl (Rd.neq rfl rfl) ?_
  refine PL.nil ?_
  refine thA_n ?_
  rcases cond_some hh0 with ⟨h_32, hh0⟩ | ⟨h_32, hh0⟩
  rotate_left
  · refine PC.cond_true rfl (not_f h_32) ?_
    refine PC.seq ?_
    refine PC.region ?_
    refine PL.op rfl (Rd.asnT rfl) ?_
    refine PL.nil ?_
    refine thA_n ?_
    refine PC.ret ?_
    refine thA_r ?_
    obtain rfl := some_in hh0
    exact FinA.mk (r := bA false) (bl := []) [] (.inl rfl) rfl (rl := [.tmp 6]) (.tmp .nil) rfl rfl rfl (.t _) trivial ⟨rfl, rfl⟩
  refine PC.cond_false rfl (not_t h_32) ?_
  refine PC.skip ?_
  refine thA_n ?_
  refine PC.seq ?_
  obtain ⟨r33, h_34, hh0⟩ := bind_some hh0
  obtain ⟨r35, h_36, hh0⟩ := bind_some hh0
  refine PC.region ?_
  refine PL.op rfl (Rd.moveT rfl) ?_
  refine PL.callM false [] (w_L_toEntryS N p_aList r33 h_34) rfl Try.call8 rfl ⟨.t _, trivial⟩ rfl trivial (fun h => by cases h) ?_
  refine PL.nm (.os 5 0 r33.length) [some ⟨.tr (eL r5), 62, 3⟩, some ⟨.tr (eL r7), 9, 1⟩, some ⟨.tr (eL r21.2), 62, 3⟩, some ⟨.tr (eL r27.2), 9, 1⟩, some ⟨.tr (eL r16), 62, 3⟩, some ⟨.tr (eL r33), 62, 3⟩] rfl rfl ?_
  refine PL.op rfl (Rd.moveT rfl) ?_
  refine PL.op rfl (Rd.moveT rfl) ?_
  refine PL.callM true [] (w_I_UsableIndexes N r33 p_aTable p_aChanges r35 h_36) rfl Try.call9 rfl ⟨.own rfl (by first | decide | exact List.not_mem_nil) rfl rfl, .t _, .t _, trivial⟩ rfl trivial (fun _ => ⟨trivial, (flat_cons flat_ow flat_nil)⟩) ?_
  refine PL.nm (.os 6 0 r35.length) [some ⟨.tr (eL r5), 62, 3⟩, some ⟨.tr (eL r7), 9, 1⟩, some ⟨.tr (eL r21.2), 62, 3⟩, some ⟨.tr (eL r27.2), 9, 1⟩, some ⟨.tr (eL r16), 62, 3⟩, some ⟨.tr (eL r33), 62, 3⟩, some ⟨.tr (eL r35), 9, 1⟩] rfl rfl ?_
  refine PL.op rfl (Rd.asnO rfl) ?_
  refine PL.nil ?_
  refine thA_n ?_
  refine PC.seq ?_
  refine PC.seq ?_
  obtain ⟨r37, h_38, hh0⟩ := bind_some hh0
  refine PC.region ?_
  refine PL.op rfl (Rd.moveO rfl) ?_
  refine PL.op rfl (Rd.moveO rfl) ?_
  refine PL.callM true [] (w_L_eqStringS N r35 r7 r37 h_38) rfl Try.call10 rfl ⟨.own rfl (by first | decide | exact List.not_mem_nil) rfl rfl, .own rfl (by first | decide | exact List.not_mem_nil) rfl rfl, trivial⟩ rfl trivial (fun _ => ⟨trivial, flat_nil⟩) ?_
  refine PL.op rfl (Rd.unnot rfl) ?_
  refine PL.nil ?_
  refine thA_n ?_
  rcases cond_some hh0 with ⟨h_39, hh0⟩ | ⟨h_39, hh0⟩
  rotate_left
  · refine PC.cond_true rfl (not_f h_39) ?_
    refine PC.seq ?_
    refine PC.region ?_
    refine PL.op rfl (Rd.asnT rfl) ?_
    refine PL.nil ?_
    refine thA_n ?_
    refine PC.ret ?_
    refine thA_r ?_
    obtain rfl := some_in hh0
    exact FinA.mk (r := bA false) (bl := []) [] (.inl rfl) rfl (rl := [.tmp 6]) (.tmp .nil) rfl rfl rfl (.t _) trivial ⟨rfl, rfl⟩
  refine PC.cond_false rfl (not_t h_39) ?_
  refine PC.skip ?_
  refine thA_n ?_
  refine PC.seq ?_
  refine PC.region ?_
  refine PL.op rfl (Rd.asnT rfl) ?_
  refine PL.nil ?_
  refine thA_n ?_
  refine PC.seq ?_
  obtain ⟨r40, h_41, hh0⟩ := bind_some hh0
  refine PC.region ?_
  refine PL.op rfl (Rd.moveO rfl) ?_
  refine PL.op rfl (Rd.moveT rfl) ?_
  refine PL.callM true [] (w_L_heldStringS N r27.2 (1 : Int) r40 h_41) rfl Try.call14 rfl ⟨.own rfl (by first | decide | exact List.not_mem_nil) (by simp only [List.length_set, len_L_markStringS N _ _ _ h_28]) rfl, .t _, trivial⟩ rfl trivial (fun _ => ⟨trivial, flat_nil⟩) ?_
  refine PL.op rfl (Rd.asnT rfl) ?_
  refine PL.nil ?_
  refine thA_n ?_
  refine PC.seq ?_
  refine PC.seq ?_
  refine PC.region ?_
  refine PL.op rfl (Rd.moveT rfl) ?_
  refine PL.op rfl (Rd.lss rfl rfl) ?_
  refine PL.nil ?_
  refine thA_n ?_
  rcases cond_some hh0 with ⟨h_42, hh0⟩ | ⟨h_42, hh0⟩
  · refine PC.cond_true rfl h_42 ?_
    refine PC.seq ?_
    refine PC.region ?_
    refine PL.op rfl (Rd.asnT rfl) ?_
    refine PL.nil ?_
    refine thA_n ?_
    refine PC.ret ?_
    refine thA_r ?_
    obtain rfl := some_in hh0
    exact FinA.mk (r := bA false) (bl := []) [] (.inl rfl) rfl (rl := [.tmp 6]) (.tmp .nil) rfl rfl rfl (.t _) trivial ⟨rfl, rfl⟩
  refine PC.cond_false rfl h_42 ?_
  refine PC.skip ?_
  refine thA_n ?_
  refine PC.seq ?_
  refine PC.seq ?_
  refine PC.region ?_
  refine PL.op rfl (Rd.moveT rfl) ?_
  refine PL.op rfl (Rd.moveT rfl) ?_
  refine PL.op rfl (Rd.neq rfl rfl) ?_
  refine PL.nil ?_
  refine thA_n ?_
  rcases cond_some hh0 with ⟨h_43, hh0⟩ | ⟨h_43, hh0⟩
  rotate_left
  · refine PC.cond_true rfl (not_f h_43) ?_
    refine PC.seq ?_
    refine PC.region ?_
    refine PL.op rfl (Rd.asnT rfl) ?_
    refine PL.nil ?_
    refine thA_n ?_
    refine PC.ret ?_
    refine thA_r ?_
    obtain rfl := some_in hh0
    exact FinA.mk (r := bA false) (bl := []) [] (.inl rfl) rfl (rl := [.tmp 6]) (.tmp .nil) rfl rfl rfl (.t _) trivial ⟨rfl, rfl⟩
  refine PC.cond_false rfl (not_t h_43) ?_
  refine PC.skip ?_
  refine thA_n ?_
  refine PC.seq ?_
  refine PC.region ?_
  refine PL.op rfl (Rd.asnT rfl) ?_
  refine PL.nil ?_
  refine thA_n ?_
  refine PC.ret ?_
  obtain rfl := some_in hh0
  exact FinA.mk (r := bA true) (bl := []) [] (.inl rfl) rfl (rl := [.tmp 6]) (.tmp .nil) rfl rfl rfl (.t _) trivial ⟨rfl, rfl⟩

end V
end Go.Proofs.Ytlpbgmahegoidaa
