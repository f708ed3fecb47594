/- Search of pairs: an exact law's function. No condition. -/
import Derived.Test.YtlpbgmahegoidaaPlQrX
namespace Go.Proofs.Ytlpbgmahegoidaa
namespace V
open Enc (enc)
set_option linter.unusedVariables false
set_option linter.unusedSimpArgs false
set_option maxHeartbeats 4000000
set_option maxRecDepth 100000
open Go.RowKit
attribute [local irreducible] thA inA FinA eL

def m_L_FnExactSearchPairs (N : Nat) (p_aList : (List L_Pair)) (p_aLow : L_Value) (p_aHigh : L_Value) : Option (Bool) :=
  (m_L_szPairS N p_aList (1048576 : Int)).bind fun r1 =>
  cond (decide (r1 < (0 : Int)))
    (some true)
    ((m_L_szValue N p_aLow r1).bind fun r4 =>
    cond (decide (r4 < (0 : Int)))
      (some true)
      ((m_L_szValue N p_aHigh r4).bind fun r7 =>
      cond (decide (r7 < (0 : Int)))
        (some true)
        ((m_L_toPairS N p_aList).bind fun r10 =>
        (m_L_toValue N p_aLow).bind fun r12 =>
        (m_L_toValue N p_aHigh).bind fun r14 =>
        (m_S_SearchPairs N r10 r12 r14).bind fun r16 =>
        (m_L_toPairS N p_aList).bind fun r18 =>
        (m_L_toValue N p_aLow).bind fun r20 =>
        (m_L_toValue N p_aHigh).bind fun r22 =>
        (m_I_SearchPairs N r18 r20 r22).bind fun r24 =>
        (m_L_eqIntS N r24 r16).bind fun r26 =>
        cond r26
          ((m_L_toPairS N p_aList).bind fun r29 =>
          (m_L_eqPairS N r18 r29).bind fun r31 =>
          cond r31
            ((m_L_markPairS N r18 (1 : Int)).bind fun r34 =>
            cond (decide (r34.1 < (0 : Int)))
              (some false)
              ((m_L_eqIntS N r24 r16).bind fun r37 =>
              cond r37
                ((m_L_markIntS N r24 (1 : Int)).bind fun r40 =>
                (m_L_heldIntS N r40.2 (1 : Int)).bind fun r42 =>
                cond (decide (r42 < (0 : Int)))
                  (some false)
                  (cond (decide (r42 = r40.1))
                    ((m_L_toPairS N p_aList).bind fun r46 =>
                    (m_L_toValue N p_aLow).bind fun r48 =>
                    (m_L_toValue N p_aHigh).bind fun r50 =>
                    (m_I_SearchPairs N r46 r48 r50).bind fun r52 =>
                    (m_L_eqIntS N r52 r16).bind fun r54 =>
                    cond r54
                      ((m_L_heldIntS N r40.2 (1 : Int)).bind fun r57 =>
                      cond (decide (r57 < (0 : Int)))
                        (some false)
                        (cond (decide (r57 = r40.1))
                          (some true)
                          (some false)))
                      (some false))
                    (some false)))
                (some false)))
            (some false))
          (some false))))
theorem w_L_FnExactSearchPairs (N : Nat) (p_aList : (List L_Pair)) (p_aLow : L_Value) (p_aHigh : L_Value) (r : Bool) (hh0 : m_L_FnExactSearchPairs N p_aList p_aLow p_aHigh = some r) : FnX Try.prog 4 [] [sL p_aList, .agg [iA p_aLow.kind, iA p_aLow.num, sA p_aLow.text], .agg [iA p_aHigh.kind, iA p_aHigh.num, sA p_aHigh.text]] (RE (bA r) []) := by
  unfold m_L_FnExactSearchPairs at hh0
  refine FnX.mk Try.func4 rfl rfl ?_
  intro s hs
  refine PC.seq ?_
  refine PC.region ?_
  refine PL.ef rfl (Ef.box rfl rfl rfl) ?_
  refine PL.nm (.op 0 0) [some ⟨.mx [iA p_aLow.kind, iA p_aLow.num, sA p_aLow.text], 35, 0⟩] rfl rfl ?_
  refine PL.ef rfl (Ef.box rfl rfl rfl) ?_
  refine PL.nm (.op 1 0) [some ⟨.mx [iA p_aLow.kind, iA p_aLow.num, sA p_aLow.text], 35, 0⟩, some ⟨.mx [iA p_aHigh.kind, iA p_aHigh.num, sA p_aHigh.text], 35, 0⟩] rfl rfl ?_
  refine PL.op rfl (Rd.asnT rfl) ?_
  refine PL.nil ?_
  refine thA_n ?_
  refine PC.seq ?_
  refine PC.region ?_
  refine PL.op rfl (Rd.asnT rfl) ?_
  refine PL.nil ?_
  refine thA_n ?_
  refine PC.seq ?_
  obtain ⟨r1, h_2, hh0⟩ := bind_some hh0
  refine PC.region ?_
  refine PL.op rfl (Rd.moveT rfl) ?_
  refine PL.op rfl (Rd.moveT rfl) ?_
  refine PL.callM false [] (w_L_szPairS N p_aList (1048576 : Int) r1 h_2) rfl Try.call15 rfl ⟨.t _, .t _, trivial⟩ rfl trivial (fun h => by cases h) ?_
  refine PL.op rfl (Rd.asnT rfl) ?_
  refine PL.nil ?_
  refine thA_n ?_
  refine PC.seq ?_
  refine PC.seq ?_
  refine PC.region ?_
  refine PL.op rfl (Rd.moveT rfl) ?_
  refine PL.op rfl (Rd.lss rfl rfl) ?_
  refine PL.nil ?_
  refine thA_n ?_
  rcases cond_some hh0 with ⟨h_3, hh0⟩ | ⟨h_3, hh0⟩
  · refine PC.cond_true rfl h_3 ?_
    refine PC.seq ?_
    refine PC.region ?_
    refine PL.op rfl (Rd.asnT rfl) ?_
    refine PL.nil ?_
    refine thA_n ?_
    refine PC.ret ?_
    refine thA_r ?_
    obtain rfl := some_in hh0
    exact FinA.mk (r := bA true) (bl := []) [] (.inl rfl) rfl (rl := [.tmp 6]) (.tmp .nil) rfl rfl rfl (.t _) trivial ⟨rfl, rfl⟩
  refine PC.cond_false rfl h_3 ?_
  refine PC.skip ?_
  refine thA_n ?_
  refine PC.seq ?_
  obtain ⟨r4, h_5, hh0⟩ := bind_some hh0
  refine PC.region ?_
  refine PL.op rfl (Rd.loadBox rfl rfl rfl) ?_
  refine PL.op rfl (Rd.moveT rfl) ?_
  refine PL.callM false [] (w_L_szValue N p_aLow r1 r4 h_5) rfl Try.call16 rfl ⟨.aggL ⟨.t _, .t _, .t _, trivial⟩, .t _, trivial⟩ rfl trivial (fun h => by cases h) ?_
  refine PL.op rfl (Rd.asnT rfl) ?_
  refine PL.nil ?_
  refine thA_n ?_
  refine PC.seq ?_
  refine PC.seq ?_
  refine PC.region ?_
  refine PL.op rfl (Rd.moveT rfl) ?_
  refine PL.op rfl (Rd.lss rfl rfl) ?_
  refine PL.nil ?_
  refine thA_n ?_
  rcases cond_some hh0 with ⟨h_6, hh0⟩ | ⟨h_6, hh0⟩
  · refine PC.cond_true rfl h_6 ?_
    refine PC.seq ?_
    refine PC.region ?_
    refine PL.op rfl (Rd.asnT rfl) ?_
    refine PL.nil ?_
    refine thA_n ?_
    refine PC.ret ?_
    refine thA_r ?_
    obtain rfl := some_in hh0
    exact FinA.mk (r := bA true) (bl := []) [] (.inl rfl) rfl (rl := [.tmp 6]) (.tmp .nil) rfl rfl rfl (.t _) trivial ⟨rfl, rfl⟩
  refine PC.cond_false rfl h_6 ?_
  refine PC.skip ?_
  refine thA_n ?_
  refine PC.seq ?_
  obtain ⟨r7, h_8, hh0⟩ := bind_some hh0
  refine PC.region ?_
  refine PL.op rfl (Rd.loadBox rfl rfl rfl) ?_
  refine PL.op rfl (Rd.moveT rfl) ?_
  refine PL.callM false [] (w_L_szValue N p_aHigh r4 r7 h_8) rfl Try.call16 rfl ⟨.aggL ⟨.t _, .t _, .t _, trivial⟩, .t _, trivial⟩ rfl trivial (fun h => by cases h) ?_
  refine PL.op rfl (Rd.asnT rfl) ?_
  refine PL.nil ?_
  refine thA_n ?_
  refine PC.seq ?_
  refine PC.seq ?_
  refine PC.region ?_
  refine PL.op rfl (Rd.moveT rfl) ?_
  refine PL.op rfl (Rd.lss rfl rfl) ?_
  refine PL.nil ?_
  refine thA_n ?_
  rcases cond_some hh0 with ⟨h_9, hh0⟩ | ⟨h_9, hh0⟩
  · refine PC.cond_true rfl h_9 ?_
    refine PC.seq ?_
    refine PC.region ?_
    refine PL.op rfl (Rd.asnT rfl) ?_
    refine PL.nil ?_
    refine thA_n ?_
    refine PC.ret ?_
    refine thA_r ?_
    obtain rfl := some_in hh0
    exact FinA.mk (r := bA true) (bl := []) [] (.inl rfl) rfl (rl := [.tmp 6]) (.tmp .nil) rfl rfl rfl (.t _) trivial ⟨rfl, rfl⟩
  refine PC.cond_false rfl h_9 ?_
  refine PC.skip ?_
  refine thA_n ?_
  refine PC.seq ?_
  obtain ⟨r10, h_11, hh0⟩ := bind_some hh0
  obtain ⟨r12, h_13, hh0⟩ := bind_some hh0
  obtain ⟨r14, h_15, hh0⟩ := bind_some hh0
  obtain ⟨r16, h_17, hh0⟩ := bind_some hh0
  refine PC.any (id := 11) 8 (.seg [0, 2, 4, 1, 3, 5, 6, 7] .done) [] rfl (by kernel_rfl) rfl ?_
  refine PT.seg ?_
  refine PR.op rfl (Rd.moveT rfl) ?_
  refine PR.op rfl (Rd.loadBox rfl rfl rfl) ?_
  refine PR.op rfl (Rd.loadBox rfl rfl rfl) ?_
  refine PR.callM false [] (w_L_toPairS N p_aList r10 h_11) rfl Try.call18 rfl ⟨.t _, trivial⟩ rfl trivial (fun h => by cases h) rfl ?_
  refine PR.nm (.os 2 0 r10.length) [some ⟨.mx [iA p_aLow.kind, iA p_aLow.num, sA p_aLow.text], 35, 0⟩, some ⟨.mx [iA p_aHigh.kind, iA p_aHigh.num, sA p_aHigh.text], 35, 0⟩, some ⟨.tr (eL r10), 55, 2⟩] rfl rfl ?_
  refine PR.callM false [] (w_L_toValue N p_aLow r12 h_13) rfl Try.call19 rfl ⟨.aggL ⟨.t _, .t _, .t _, trivial⟩, trivial⟩ rfl trivial (fun h => by cases h) rfl ?_
  refine PR.callM false [] (w_L_toValue N p_aHigh r14 h_15) rfl Try.call19 rfl ⟨.aggL ⟨.t _, .t _, .t _, trivial⟩, trivial⟩ rfl trivial (fun h => by cases h) rfl ?_
  refine PR.callM true [] (w_S_SearchPairs N r10 r12 r14 r16 h_17) rfl Try.call17 rfl ⟨.own rfl (by first | decide | exact List.not_mem_nil) rfl rfl, .aggL ⟨.t _, .t _, .t _, trivial⟩, .aggL ⟨.t _, .t _, .t _, trivial⟩, trivial⟩ rfl trivial (fun _ => ⟨trivial, (flat_cons flat_ow flat_nil)⟩) rfl ?_
  refine PR.nm (.os 3 0 r16.length) [some ⟨.mx [iA p_aLow.kind, iA p_aLow.num, sA p_aLow.text], 35, 0⟩, some ⟨.mx [iA p_aHigh.kind, iA p_aHigh.num, sA p_aHigh.text], 35, 0⟩, some ⟨.tr (eL r10), 55, 2⟩, some ⟨.tr (eL r16), 3, 1⟩] rfl rfl ?_
  refine PR.op rfl (Rd.asnO rfl) ?_
  refine PR.nil ?_
  refine PT.done ?_
  refine PL.nil ?_
  refine thA_n ?_
  refine PC.seq ?_
  obtain ⟨r18, h_19, hh0⟩ := bind_some hh0
  refine PC.region ?_
  refine PL.op rfl (Rd.moveT rfl) ?_
  refine PL.callM false [] (w_L_toPairS N p_aList r18 h_19) rfl Try.call18 rfl ⟨.t _, trivial⟩ rfl trivial (fun h => by cases h) ?_
  refine PL.nm (.os 4 0 r18.length) [some ⟨.mx [iA p_aLow.kind, iA p_aLow.num, sA p_aLow.text], 35, 0⟩, some ⟨.mx [iA p_aHigh.kind, iA p_aHigh.num, sA p_aHigh.text], 35, 0⟩, some ⟨.tr (eL r10), 55, 2⟩, some ⟨.tr (eL r16), 3, 1⟩, some ⟨.tr (eL r18), 55, 2⟩] rfl rfl ?_
  refine PL.op rfl (Rd.asnO rfl) ?_
  refine PL.nil ?_
  refine thA_n ?_
  refine PC.seq ?_
  obtain ⟨r20, h_21, hh0⟩ := bind_some hh0
  obtain ⟨r22, h_23, hh0⟩ := bind_some hh0
  obtain ⟨r24, h_25, hh0⟩ := bind_some hh0
  refine PC.any (id := 13) 7 (.seg [0, 1, 3, 2, 4, 5, 6] .done) [] rfl (by kernel_rfl) rfl ?_
  refine PT.seg ?_
  refine PR.op rfl (Rd.moveO rfl) ?_
  refine PR.op rfl (Rd.loadBox rfl rfl rfl) ?_
  refine PR.op rfl (Rd.loadBox rfl rfl rfl) ?_
  refine PR.callM false [] (w_L_toValue N p_aLow r20 h_21) rfl Try.call19 rfl ⟨.aggL ⟨.t _, .t _, .t _, trivial⟩, trivial⟩ rfl trivial (fun h => by cases h) rfl ?_
  refine PR.callM false [] (w_L_toValue N p_aHigh r22 h_23) rfl Try.call19 rfl ⟨.aggL ⟨.t _, .t _, .t _, trivial⟩, trivial⟩ rfl trivial (fun h => by cases h) rfl ?_
  refine PR.callM true [] (w_I_SearchPairs N r18 r20 r22 r24 h_25) rfl Try.call20 rfl ⟨.own rfl (by first | decide | exact List.not_mem_nil) rfl rfl, .aggL ⟨.t _, .t _, .t _, trivial⟩, .aggL ⟨.t _, .t _, .t _, trivial⟩, trivial⟩ rfl trivial (fun _ => ⟨trivial, (flat_cons flat_ow flat_nil)⟩) rfl ?_
  refine PR.nm (.os 5 0 r24.length) [some ⟨.mx [iA p_aLow.kind, iA p_aLow.num, sA p_aLow.text], 35, 0⟩, some ⟨.mx [iA p_aHigh.kind, iA p_aHigh.num, sA p_aHigh.text], 35, 0⟩, some ⟨.tr (eL r10), 55, 2⟩, some ⟨.tr (eL r16), 3, 1⟩, some ⟨.tr (eL r18), 55, 2⟩, some ⟨.tr (eL r24), 3, 1⟩] rfl rfl ?_
  refine PR.op rfl (Rd.asnO rfl) ?_
  refine PR.nil ?_
  refine PT.done ?_
  refine PL.nil ?_
  refine thA_n ?_
  refine PC.seq ?_
  refine PC.seq ?_
  obtain ⟨r26, h_27, hh0⟩ := bind_some hh0
  refine PC.region ?_
  refine PL.op rfl (Rd.moveO rfl) ?_
  refine PL.op rfl (Rd.moveO rfl) ?_
  refine PL.callM true [] (w_L_eqIntS N r24 r16 r26 h_27) rfl Try.call21 rfl ⟨.own rfl (by first | decide | exact List.not_mem_nil) rfl rfl, .own rfl (by first | decide | exact List.not_mem_nil) rfl rfl, trivial⟩ rfl trivial (fun _ => ⟨trivial, flat_nil⟩) ?_
  refine PL.op rfl (Rd.unnot rfl) ?_
  refine PL.nil ?_
  refine thA_n ?_
  rcases cond_some hh0 with ⟨h_28, hh0⟩ | ⟨h_28, hh0⟩
  rotate_left
  · refine PC.cond_true rfl (not_f h_28) ?_
    refine PC.seq ?_
    refine PC.region ?_
    refine PL.op rfl (Rd.asnT rfl) ?_
    refine PL.nil ?_
    refine thA_n ?_
    refine PC.ret ?_
    refine thA_r ?_
    obtain rfl := some_in hh0
    exact FinA.mk (r := bA false) (bl := []) [] (.inl rfl) rfl (rl := [.tmp 6]) (.tmp .nil) rfl rfl rfl (.t _) trivial ⟨rfl, rfl⟩
  refine PC.cond_false rfl (not_t h_28) ?_
  refine PC.skip ?_
  refine thA_n ?_
  refine PC.seq ?_
  refine PC.seq ?_
  obtain ⟨r29, h_30, hh0⟩ := bind_some hh0
  obtain ⟨r31, h_32, hh0⟩ := bind_some hh0
  refine PC.region ?_
  refine PL.op rfl (Rd.moveO rfl) ?_
  refine PL.op rfl (Rd.moveT rfl) ?_
  refine PL.callM false [] (w_L_toPairS N p_aList r29 h_30) rfl Try.call18 rfl ⟨.t _, trivial⟩ rfl trivial (fun h => by cases h) ?_
  refine PL.nm (.os 6 0 r29.length) [some ⟨.mx [iA p_aLow.kind, iA p_aLow.num, sA p_aLow.text], 35, 0⟩, some ⟨.mx [iA p_aHigh.kind, iA p_aHigh.num, sA p_aHigh.text], 35, 0⟩, some ⟨.tr (eL r10), 55, 2⟩, some ⟨.tr (eL r16), 3, 1⟩, some ⟨.tr (eL r18), 55, 2⟩, some ⟨.tr (eL r24), 3, 1⟩, some ⟨.tr (eL r29), 55, 2⟩] rfl rfl ?_
  refine PL.callM true [] (w_L_eqPairS N r18 r29 r31 h_32) rfl Try.call22 rfl ⟨.own rfl (by first | decide | exact List.not_mem_nil) rfl rfl, .own rfl (by first | decide | exact List.not_mem_nil) rfl rfl, trivial⟩ rfl trivial (fun _ => ⟨trivial, flat_nil⟩) ?_
  refine PL.op rfl (Rd.unnot rfl) ?_
  refine PL.nil ?_
  refine thA_n ?_
  rcases cond_some hh0 with ⟨h_33, hh0⟩ | ⟨h_33, hh0⟩
  rotate_left
  · refine PC.cond_true rfl (not_f h_33) ?_
    refine PC.seq ?_
    refine PC.region ?_
    refine PL.op rfl (Rd.asnT rfl) ?_
    refine PL.nil ?_
    refine thA_n ?_
    refine PC.ret ?_
    refine thA_r ?_
    obtain rfl := some_in hh0
    exact FinA.mk (r := bA false) (bl := []) [] (.inl rfl) rfl (rl := [.tmp 6]) (.tmp .nil) rfl rfl rfl (.t _) trivial ⟨rfl, rfl⟩
  refine PC.cond_false rfl (not_t h_33) ?_
  refine PC.skip ?_
  refine thA_n ?_
  refine PC.seq ?_
  refine PC.region ?_
  refine PL.op rfl (Rd.asnT rfl) ?_
  refine PL.nil ?_
  refine thA_n ?_
  refine PC.seq ?_
  obtain ⟨r34, h_35, hh0⟩ := bind_some hh0
  refine PC.region ?_
  refine PL.op rfl (Rd.moveO rfl) ?_
  refine PL.op rfl (Rd.moveT rfl) ?_
  refine PL.callM false [4] (w_L_markPairS N r18 (1 : Int) r34 h_35) rfl Try.call23 rfl ⟨.os rfl, .t _, trivial⟩ rfl ⟨⟨_, rfl, rfl, rfl, .tr _⟩, trivial⟩ (fun h => by cases h) ?_
  refine PL.nm (iA r34.1) [some ⟨.mx [iA p_aLow.kind, iA p_aLow.num, sA p_aLow.text], 35, 0⟩, some ⟨.mx [iA p_aHigh.kind, iA p_aHigh.num, sA p_aHigh.text], 35, 0⟩, some ⟨.tr (eL r10), 55, 2⟩, some ⟨.tr (eL r16), 3, 1⟩, some ⟨.tr (eL r34.2), 55, 2⟩, some ⟨.tr (eL r24), 3, 1⟩, some ⟨.tr (eL r29), 55, 2⟩] rfl rfl ?_
  refine PL.op rfl (Rd.asnT rfl) ?_
  refine PL.nil ?_
  refine thA_n ?_
  refine PC.seq ?_
  refine PC.seq ?_
  rcases cond_some hh0 with ⟨h_36, hh0⟩ | ⟨h_36, hh0⟩
  · refine PC.region ?_
    refine PL.op rfl (Rd.moveT rfl) ?_
    refine PL.op rfl (Rd.lss rfl rfl) ?_
    refine PL.op rfl (Rd.moveT rfl) ?_
    refine PL.guard_off rfl rfl h_36 ?_
    refine PL.guard_off rfl rfl h_36 ?_
    refine PL.guard_off rfl rfl h_36 ?_
    refine PL.guard_off rfl rfl h_36 ?_
    refine PL.op rfl (Rd.pick_t rfl h_36) ?_
    refine PL.nil ?_
    refine thA_n ?_
    refine PC.cond_true rfl rfl ?_
    refine PC.seq ?_
    refine PC.region ?_
    refine PL.op rfl (Rd.asnT rfl) ?_
    refine PL.nil ?_
    refine thA_n ?_
    refine PC.ret ?_
    refine thA_r ?_
    obtain rfl := some_in hh0
    exact FinA.mk (r := bA false) (bl := []) [] (.inl rfl) rfl (rl := [.tmp 6]) (.tmp .nil) rfl rfl rfl (.t _) trivial ⟨rfl, rfl⟩
  obtain ⟨r37, h_38, hh0⟩ := bind_some hh0
  refine PC.region ?_
  refine PL.op rfl (Rd.moveT rfl) ?_
  refine PL.op rfl (Rd.lss rfl rfl) ?_
  refine PL.op rfl (Rd.moveT rfl) ?_
  refine PL.guard_on rfl h_36 ?_
  refine PL.op rfl (Rd.moveO rfl) ?_
  refine PL.guard_on rfl h_36 ?_
  refine PL.op rfl (Rd.moveO rfl) ?_
  refine PL.guard_on rfl h_36 ?_
  refine PL.callM true [] (w_L_eqIntS N r24 r16 r37 h_38) rfl Try.call21 rfl ⟨.own rfl (by first | decide | exact List.not_mem_nil) rfl rfl, .own rfl (by first | decide | exact List.not_mem_nil) rfl rfl, trivial⟩ rfl trivial (fun _ => ⟨trivial, flat_nil⟩) ?_
  refine PL.guard_on rfl h_36 ?_
  refine PL.op rfl (Rd.unnot rfl) ?_
  refine PL.op rfl (Rd.pick_f rfl h_36) ?_
  refine PL.nil ?_
  refine thA_n ?_
  rcases cond_some hh0 with ⟨h_39, hh0⟩ | ⟨h_39, hh0⟩
  rotate_left
  · refine PC.cond_true rfl (not_f h_39) ?_
    refine PC.seq ?_
    refine PC.region ?_
    refine PL.op rfl (Rd.asnT rfl) ?_
    refine PL.nil ?_
    refine thA_n ?_
    refine PC.ret ?_
    refine thA_r ?_
    obtain rfl := some_in hh0
    exact FinA.mk (r := bA false) (bl := []) [] (.inl rfl) rfl (rl := [.tmp 6]) (.tmp .nil) rfl rfl rfl (.t _) trivial ⟨rfl, rfl⟩
  refine PC.cond_false rfl (not_t h_39) ?_
  refine PC.skip ?_
  refine thA_n ?_
  refine PC.seq ?_
  refine PC.region ?_
  refine PL.op rfl (Rd.asnT rfl) ?_
  refine PL.nil ?_
  refine thA_n ?_
  refine PC.seq ?_
  obtain ⟨r40, h_41, hh0⟩ := bind_some hh0
  refine PC.region ?_
  refine PL.op rfl (Rd.moveO rfl) ?_
  refine PL.op rfl (Rd.moveT rfl) ?_
  refine PL.callM false [5] (w_L_markIntS N r24 (1 : Int) r40 h_41) rfl Try.call24 rfl ⟨.os rfl, .t _, trivial⟩ rfl ⟨⟨_, rfl, rfl, rfl, .tr _⟩, trivial⟩ (fun h => by cases h) ?_
  refine PL.nm (iA r40.1) [some ⟨.mx [iA p_aLow.kind, iA p_aLow.num, sA p_aLow.text], 35, 0⟩, some ⟨.mx [iA p_aHigh.kind, iA p_aHigh.num, sA p_aHigh.text], 35, 0⟩, some ⟨.tr (eL r10), 55, 2⟩, some ⟨.tr (eL r16), 3, 1⟩, some ⟨.tr (eL r34.2), 55, 2⟩, some ⟨.tr (eL r40.2), 3, 1⟩, some ⟨.tr (eL r29), 55, 2⟩] rfl rfl ?_
  refine PL.op rfl (Rd.asnT rfl) ?_
  refine PL.nil ?_
  refine thA_n ?_
  refine PC.seq ?_
  refine PC.region ?_
  refine PL.op rfl (Rd.asnT rfl) ?_
  refine PL.nil ?_
  refine thA_n ?_
  refine PC.seq ?_
  obtain ⟨r42, h_43, hh0⟩ := bind_some hh0
  refine PC.region ?_
  refine PL.op rfl (Rd.moveO rfl) ?_
  refine PL.op rfl (Rd.moveT rfl) ?_
  refine PL.callM true [] (w_L_heldIntS N r40.2 (1 : Int) r42 h_43) rfl Try.call25 rfl ⟨.own rfl (by first | decide | exact List.not_mem_nil) (by simp only [List.length_set, len_L_markIntS N _ _ _ h_41]) rfl, .t _, trivial⟩ rfl trivial (fun _ => ⟨trivial, flat_nil⟩) ?_
  refine PL.op rfl (Rd.asnT rfl) ?_
  refine PL.nil ?_
  refine thA_n ?_
  refine PC.seq ?_
  refine PC.seq ?_
  refine PC.region ?_
  refine PL.op rfl (Rd.moveT rfl) ?_
  refine PL.op rfl (Rd.lss rfl rfl) ?_
  refine PL.nil ?_
  refine thA_n ?_
  rcases cond_some hh0 with ⟨h_44, hh0⟩ | ⟨h_44, hh0⟩
  · refine PC.cond_true rfl h_44 ?_
    refine PC.seq ?_
    refine PC.region ?_
    refine PL.op rfl (Rd.asnT rfl) ?_
    refine PL.nil ?_
    refine thA_n ?_
    refine PC.ret ?_
    refine thA_r ?_
    obtain rfl := some_in hh0
    exact FinA.mk (r := bA false) (bl := []) [] (.inl rfl) rfl (rl := [.tmp 6]) (.tmp .nil) rfl rfl rfl (.t _) trivial ⟨rfl, rfl⟩
  refine PC.cond_false rfl h_44 ?_
  refine PC.skip ?_
  refine thA_n ?_
  refine PC.seq ?_
  refine PC.seq ?_
  refine PC.region ?_
  refine PL.op rfl (Rd.moveT rfl) ?_
  refine PL.op rfl (Rd.moveT rfl) ?_
  refine PL.op rfl (Rd.neq rfl rfl) ?_
  refine PL.nil ?_
  refine thA_n ?_
  rcases cond_some hh0 with ⟨h_45, hh0⟩ | ⟨h_45, hh0⟩
  rotate_left
  · refine PC.cond_true rfl (not_f h_45) ?_
    refine PC.seq ?_
    refine PC.region ?_
    refine PL.op rfl (Rd.asnT rfl) ?_
    refine PL.nil ?_
    refine thA_n ?_
    refine PC.ret ?_
    refine thA_r ?_
    obtain rfl := some_in hh0
    exact FinA.mk (r := bA false) (bl := []) [] (.inl rfl) rfl (rl := [.tmp 6]) (.tmp .nil) rfl rfl rfl (.t _) trivial ⟨rfl, rfl⟩
  refine PC.cond_false rfl (not_t h_45) ?_
  refine PC.skip ?_
  refine thA_n ?_
  refine PC.seq ?_
  obtain ⟨r46, h_47, hh0⟩ := bind_some hh0
  obtain ⟨r48, h_49, hh0⟩ := bind_some hh0
  obtain ⟨r50, h_51, hh0⟩ := bind_some hh0
  obtain ⟨r52, h_53, hh0⟩ := bind_some hh0
  refine PC.any (id := 30) 8 (.seg [0, 2, 4, 1, 3, 5, 6, 7] .done) [] rfl (by kernel_rfl) rfl ?_
  refine PT.seg ?_
  refine PR.op rfl (Rd.moveT rfl) ?_
  refine PR.op rfl (Rd.loadBox rfl rfl rfl) ?_
  refine PR.op rfl (Rd.loadBox rfl rfl rfl) ?_
  refine PR.callM false [] (w_L_toPairS N p_aList r46 h_47) rfl Try.call18 rfl ⟨.t _, trivial⟩ rfl trivial (fun h => by cases h) rfl ?_
  refine PR.nm (.os 7 0 r46.length) [some ⟨.mx [iA p_aLow.kind, iA p_aLow.num, sA p_aLow.text], 35, 0⟩, some ⟨.mx [iA p_aHigh.kind, iA p_aHigh.num, sA p_aHigh.text], 35, 0⟩, some ⟨.tr (eL r10), 55, 2⟩, some ⟨.tr (eL r16), 3, 1⟩, some ⟨.tr (eL r34.2), 55, 2⟩, some ⟨.tr (eL r40.2), 3, 1⟩, some ⟨.tr (eL r29), 55, 2⟩, some ⟨.tr (eL r46), 55, 2⟩] rfl rfl ?_
  refine PR.callM false [] (w_L_toValue N p_aLow r48 h_49) rfl Try.call19 rfl ⟨.aggL ⟨.t _, .t _, .t _, trivial⟩, trivial⟩ rfl trivial (fun h => by cases h) rfl ?_
  refine PR.callM false [] (w_L_toValue N p_aHigh r50 h_51) rfl Try.call19 rfl ⟨.aggL ⟨.t _, .t _, .t _, trivial⟩, trivial⟩ rfl trivial (fun h => by cases h) rfl ?_
  refine PR.callM true [] (w_I_SearchPairs N r46 r48 r50 r52 h_53) rfl Try.call20 rfl ⟨.own rfl (by first | decide | exact List.not_mem_nil) rfl rfl, .aggL ⟨.t _, .t _, .t _, trivial⟩, .aggL ⟨.t _, .t _, .t _, trivial⟩, trivial⟩ rfl trivial (fun _ => ⟨trivial, (flat_cons flat_ow flat_nil)⟩) rfl ?_
  refine PR.nm (.os 8 0 r52.length) [some ⟨.mx [iA p_aLow.kind, iA p_aLow.num, sA p_aLow.text], 35, 0⟩, some ⟨.mx [iA p_aHigh.kind, iA p_aHigh.num, sA p_aHigh.text], 35, 0⟩, some ⟨.tr (eL r10), 55, 2⟩, some ⟨.tr (eL r16), 3, 1⟩, some ⟨.tr (eL r34.2), 55, 2⟩, some ⟨.tr (eL r40.2), 3, 1⟩, some ⟨.tr (eL r29), 55, 2⟩, some ⟨.tr (eL r46), 55, 2⟩, some ⟨.tr (eL r52), 3, 1⟩] rfl rfl ?_
  refine PR.op rfl (Rd.asnO rfl) ?_
  refine PR.nil ?_
  refine PT.done ?_
  refine PL.nil ?_
  refine thA_n ?_
  refine PC.seq ?_
  refine PC.seq ?_
  obtain ⟨r54, h_55, hh0⟩ := bind_some hh0
  refine PC.region ?_
  refine PL.op rfl (Rd.moveO rfl) ?_
  refine PL.op rfl (Rd.moveO rfl) ?_
  refine PL.callM true [] (w_L_eqIntS N r52 r16 r54 h_55) rfl Try.call21 rfl ⟨.own rfl (by first | decide | exact List.not_mem_nil) rfl rfl, .own rfl (by first | decide | exact List.not_mem_nil) rfl rfl, trivial⟩ rfl trivial (fun _ => ⟨trivial, flat_nil⟩) ?_
  refine PL.op rfl (Rd.unnot rfl) ?_
  refine PL.nil ?_
  refine thA_n ?_
  rcases cond_some hh0 with ⟨h_56, hh0⟩ | ⟨h_56, hh0⟩
  rotate_left
  · refine PC.cond_true rfl (not_f h_56) ?_
    refine PC.seq ?_
    refine PC.region ?_
    refine PL.op rfl (Rd.asnT rfl) ?_
    refine PL.nil ?_
    refine thA_n ?_
    refine PC.ret ?_
    refine thA_r ?_
    obtain rfl := some_in hh0
    exact FinA.mk (r := bA false) (bl := []) [] (.inl rfl) rfl (rl := [.tmp 6]) (.tmp .nil) rfl rfl rfl (.t _) trivial ⟨rfl, rfl⟩
  refine PC.cond_false rfl (not_t h_56) ?_
  refine PC.skip ?_
  refine thA_n ?_
  refine PC.seq ?_
  refine PC.region ?_
  refine PL.op rfl (Rd.asnT rfl) ?_
  refine PL.nil ?_
  refine thA_n ?_
  refine PC.seq ?_
  obtain ⟨r57, h_58, hh0⟩ := bind_some hh0
  refine PC.region ?_
  refine PL.op rfl (Rd.moveO rfl) ?_
  refine PL.op rfl (Rd.moveT rfl) ?_
  refine PL.callM true [] (w_L_heldIntS N r40.2 (1 : Int) r57 h_58) rfl Try.call25 rfl ⟨.own rfl (by first | decide | exact List.not_mem_nil) (by simp only [List.length_set, len_L_markIntS N _ _ _ h_41]) rfl, .t _, trivial⟩ rfl trivial (fun _ => ⟨trivial, flat_nil⟩) ?_
  refine PL.op rfl (Rd.asnT rfl) ?_
  refine PL.nil ?_
  refine thA_n ?_
  refine PC.seq ?_
  refine PC.seq ?_
  refine PC.region ?_
  refine PL.op rfl (Rd.moveT rfl) ?_
  refine PL.op rfl (Rd.lss rfl rfl) ?_
  refine PL.nil ?_
  refine thA_n ?_
  rcases cond_some hh0 with ⟨h_59, hh0⟩ | ⟨h_59, hh0⟩
  · refine PC.cond_true rfl h_59 ?_
    refine PC.seq ?_
    refine PC.region ?_
    refine PL.op rfl (Rd.asnT rfl) ?_
    refine PL.nil ?_
    refine thA_n ?_
    refine PC.ret ?_
    refine thA_r ?_
    obtain rfl := some_in hh0
    exact FinA.mk (r := bA false) (bl := []) [] (.inl rfl) rfl (rl := [.tmp 6]) (.tmp .nil) rfl rfl rfl (.t _) trivial ⟨rfl, rfl⟩
  refine PC.cond_false rfl h_59 ?_
  refine PC.skip ?_
  refine thA_n ?_
  refine PC.seq ?_
  refine PC.seq ?_
  refine PC.region ?_
  refine PL.op rfl (Rd.moveT rfl) ?_
  refine PL.op rfl (Rd.moveT rfl) ?_
  refine PL.op rfl (Rd.neq rfl rfl) ?_
  refine PL.nil ?_
  refine thA_n ?_
  rcases cond_some hh0 with ⟨h_60, hh0⟩ | ⟨h_60, hh0⟩
  rotate_left
  · refine PC.cond_true rfl (not_f h_60) ?_
    refine PC.seq ?_
    refine PC.region ?_
    refine PL.op rfl (Rd.asnT rfl) ?_
    refine PL.nil ?_
    refine thA_n ?_
    refine PC.ret ?_
    refine thA_r ?_
    obtain rfl := some_in hh0
    exact FinA.mk (r := bA false) (bl := []) [] (.inl rfl) rfl (rl := [.tmp 6]) (.tmp .nil) rfl rfl rfl (.t _) trivial ⟨rfl, rfl⟩
  refine PC.cond_false rfl (not_t h_60) ?_
  refine PC.skip ?_
  refine thA_n ?_
  refine PC.seq ?_
  refine PC.region ?_
  refine PL.op rfl (Rd.asnT rfl) ?_
  refine PL.nil ?_
  refine thA_n ?_
  refine PC.ret ?_
  obtain rfl := some_in hh0
  exact FinA.mk (r := bA true) (bl := []) [] (.inl rfl) rfl (rl := [.tmp 6]) (.tmp .nil) rfl rfl rfl (.t _) trivial ⟨rfl, rfl⟩

end V
end Go.Proofs.Ytlpbgmahegoidaa
