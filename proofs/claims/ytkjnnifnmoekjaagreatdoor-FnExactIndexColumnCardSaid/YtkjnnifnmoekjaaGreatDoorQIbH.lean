/- What the rows need, part 8. No condition. -/
import Derived.Test.YtkjnnifnmoekjaaGreatDoorQIbG
namespace Go.Proofs.YtkjnnifnmoekjaaGreatDoor
namespace V
open Enc (enc)
set_option linter.unusedVariables false
set_option linter.unusedSimpArgs false
set_option maxHeartbeats 4000000
set_option maxRecDepth 100000
open Go.RowKit
attribute [local irreducible] thA inA FinA eL
def m_L_FnExactScanTable (N : Nat) (p_aT : L_Table) (p_aColumn : Int) (p_aLow : L_Value) (p_aHigh : L_Value) : Option (Bool) :=
  (m_L_szTable N p_aT (1048576 : Int)).bind fun r1 =>
  cond (decide (r1 < (0 : Int)))
    (some true)
    ((m_L_szValue N p_aLow r1).bind fun r4 =>
    cond (decide (r4 < (0 : Int)))
      (some true)
      ((m_L_szValue N p_aHigh r4).bind fun r7 =>
      cond (decide (r7 < (0 : Int)))
        (some true)
        ((m_L_toTable N p_aT).bind fun r10 =>
        (m_L_toValue N p_aLow).bind fun r12 =>
        (m_L_toValue N p_aHigh).bind fun r14 =>
        (m_S_ScanTable N r10 p_aColumn r12 r14).bind fun r16 =>
        (m_L_toTable N p_aT).bind fun r18 =>
        (m_L_toValue N p_aLow).bind fun r20 =>
        (m_L_toValue N p_aHigh).bind fun r22 =>
        (m_I_ScanTable N r18 p_aColumn r20 r22).bind fun r24 =>
        (m_L_eqIntS N r24 r16).bind fun r26 =>
        cond r26
          ((m_L_toTable N p_aT).bind fun r29 =>
          (m_L_eqTable N r18 r29).bind fun r31 =>
          cond r31
            ((m_L_markTable N r18 (1 : Int)).bind fun r34 =>
            cond (decide (r34.1 < (0 : Int)))
              (some false)
              ((m_L_eqIntS N r24 r16).bind fun r37 =>
              cond r37
                ((m_L_markIntS N r24 (1 : Int)).bind fun r40 =>
                (m_L_heldIntS N r40.2 (1 : Int)).bind fun r42 =>
                cond (decide (r42 < (0 : Int)))
                  (some false)
                  (cond (decide (r42 = r40.1))
                    ((m_L_toTable N p_aT).bind fun r46 =>
                    (m_L_toValue N p_aLow).bind fun r48 =>
                    (m_L_toValue N p_aHigh).bind fun r50 =>
                    (m_I_ScanTable N r46 p_aColumn r48 r50).bind fun r52 =>
                    (m_L_eqIntS N r52 r16).bind fun r54 =>
                    cond r54
                      ((m_L_heldIntS N r40.2 (1 : Int)).bind fun r57 =>
                      cond (decide (r57 < (0 : Int)))
                        (some false)
                        (cond (decide (r57 = r40.1))
                          (some true)
                          (some false)))
                      (some false))
                    (some false)))
                (some false)))
            (some false))
          (some false))))
theorem w_L_FnExactScanTable (N : Nat) (p_aT : L_Table) (p_aColumn : Int) (p_aLow : L_Value) (p_aHigh : L_Value) (r : Bool) (hh0 : m_L_FnExactScanTable N p_aT p_aColumn p_aLow p_aHigh = some r) : FnX Tryz.prog 3 [] [.agg [sL p_aT.first, sL p_aT.changes, sL p_aT.rows], iA p_aColumn, .agg [iA p_aLow.kind, iA p_aLow.num, sA p_aLow.text], .agg [iA p_aHigh.kind, iA p_aHigh.num, sA p_aHigh.text]] (RE (bA r) []) := by
  unfold m_L_FnExactScanTable at hh0; refine FnX.mk Tryz.func3 rfl rfl ?_; intro s hs; refine PC.seq ?_; refine PC.region ?_; refine PL.ef rfl (Ef.box rfl rfl rfl) ?_; refine PL.nm (.op 0 0) [some ⟨.mx [sL p_aT.first, sL p_aT.changes, sL p_aT.rows], 26, 0⟩] rfl rfl ?_; refine PL.ef rfl (Ef.box rfl rfl rfl) ?_; refine PL.nm (.op 1 0) [some ⟨.mx [sL p_aT.first, sL p_aT.changes, sL p_aT.rows], 26, 0⟩, some ⟨.mx [iA p_aLow.kind, iA p_aLow.num, sA p_aLow.text], 28, 0⟩] rfl rfl ?_; refine PL.ef rfl (Ef.box rfl rfl rfl) ?_; refine PL.nm (.op 2 0) [some ⟨.mx [sL p_aT.first, sL p_aT.changes, sL p_aT.rows], 26, 0⟩, some ⟨.mx [iA p_aLow.kind, iA p_aLow.num, sA p_aLow.text], 28, 0⟩, some ⟨.mx [iA p_aHigh.kind, iA p_aHigh.num, sA p_aHigh.text], 28, 0⟩] rfl rfl ?_; refine PL.op rfl (Rd.asnT rfl) ?_; refine PL.nil ?_; refine thA_n ?_; refine PC.seq ?_; refine PC.region ?_; refine PL.op rfl (Rd.asnT rfl) ?_; refine PL.nil ?_; refine thA_n ?_; refine PC.seq ?_; obtain ⟨r1, h_2, hh0⟩ := bind_some hh0; refine PC.region ?_; refine PL.op rfl (Rd.loadBox rfl rfl rfl) ?_; refine PL.op rfl (Rd.moveT rfl) ?_; refine PL.callM false [] (w_L_szTable N p_aT (1048576 : Int) r1 h_2) rfl Tryz.call7 rfl ⟨.aggL ⟨.t _, .t _, .t _, trivial⟩, .t _, trivial⟩ rfl trivial (fun h => by cases h) ?_; refine PL.op rfl (Rd.asnT rfl) ?_; refine PL.nil ?_; refine thA_n ?_; (iterate 2 refine PC.seq ?_); refine PC.region ?_; refine PL.op rfl (Rd.moveT rfl) ?_; refine PL.op rfl (Rd.lss rfl rfl) ?_; refine PL.nil ?_; refine thA_n ?_; rcases cond_some hh0 with ⟨h_3, hh0⟩ | ⟨h_3, hh0⟩
  · refine PC.cond_true rfl h_3 ?_; refine PC.seq ?_; refine PC.region ?_; refine PL.op rfl (Rd.asnT rfl) ?_; refine PL.nil ?_; refine thA_n ?_; refine PC.ret ?_; refine thA_r ?_; obtain rfl := some_in hh0; exact FinA.mk (r := bA true) (bl := []) [] (.inl rfl) rfl (rl := [.tmp 8]) (.tmp .nil) rfl rfl rfl (.t _) trivial ⟨rfl, rfl⟩
  refine PC.cond_false rfl h_3 ?_; refine PC.skip ?_; refine thA_n ?_; refine PC.seq ?_; obtain ⟨r4, h_5, hh0⟩ := bind_some hh0; refine PC.region ?_; refine PL.op rfl (Rd.loadBox rfl rfl rfl) ?_; refine PL.op rfl (Rd.moveT rfl) ?_; refine PL.callM false [] (w_L_szValue N p_aLow r1 r4 h_5) rfl Tryz.call8 rfl ⟨.aggL ⟨.t _, .t _, .t _, trivial⟩, .t _, trivial⟩ rfl trivial (fun h => by cases h) ?_; refine PL.op rfl (Rd.asnT rfl) ?_; refine PL.nil ?_; refine thA_n ?_; (iterate 2 refine PC.seq ?_); refine PC.region ?_; refine PL.op rfl (Rd.moveT rfl) ?_; refine PL.op rfl (Rd.lss rfl rfl) ?_; refine PL.nil ?_; refine thA_n ?_; rcases cond_some hh0 with ⟨h_6, hh0⟩ | ⟨h_6, hh0⟩
  · refine PC.cond_true rfl h_6 ?_; refine PC.seq ?_; refine PC.region ?_; refine PL.op rfl (Rd.asnT rfl) ?_; refine PL.nil ?_; refine thA_n ?_; refine PC.ret ?_; refine thA_r ?_; obtain rfl := some_in hh0; exact FinA.mk (r := bA true) (bl := []) [] (.inl rfl) rfl (rl := [.tmp 8]) (.tmp .nil) rfl rfl rfl (.t _) trivial ⟨rfl, rfl⟩
  refine PC.cond_false rfl h_6 ?_; refine PC.skip ?_; refine thA_n ?_; refine PC.seq ?_; obtain ⟨r7, h_8, hh0⟩ := bind_some hh0; refine PC.region ?_; refine PL.op rfl (Rd.loadBox rfl rfl rfl) ?_; refine PL.op rfl (Rd.moveT rfl) ?_; refine PL.callM false [] (w_L_szValue N p_aHigh r4 r7 h_8) rfl Tryz.call8 rfl ⟨.aggL ⟨.t _, .t _, .t _, trivial⟩, .t _, trivial⟩ rfl trivial (fun h => by cases h) ?_; refine PL.op rfl (Rd.asnT rfl) ?_; refine PL.nil ?_; refine thA_n ?_; (iterate 2 refine PC.seq ?_); refine PC.region ?_; refine PL.op rfl (Rd.moveT rfl) ?_; refine PL.op rfl (Rd.lss rfl rfl) ?_; refine PL.nil ?_; refine thA_n ?_; rcases cond_some hh0 with ⟨h_9, hh0⟩ | ⟨h_9, hh0⟩
  · refine PC.cond_true rfl h_9 ?_; refine PC.seq ?_; refine PC.region ?_; refine PL.op rfl (Rd.asnT rfl) ?_; refine PL.nil ?_; refine thA_n ?_; refine PC.ret ?_; refine thA_r ?_; obtain rfl := some_in hh0; exact FinA.mk (r := bA true) (bl := []) [] (.inl rfl) rfl (rl := [.tmp 8]) (.tmp .nil) rfl rfl rfl (.t _) trivial ⟨rfl, rfl⟩
  refine PC.cond_false rfl h_9 ?_; refine PC.skip ?_; refine thA_n ?_; refine PC.seq ?_; obtain ⟨r10, h_11, hh0⟩ := bind_some hh0; obtain ⟨r12, h_13, hh0⟩ := bind_some hh0; obtain ⟨r14, h_15, hh0⟩ := bind_some hh0; obtain ⟨r16, h_17, hh0⟩ := bind_some hh0; refine PC.any (id := 11) 9 (.seg [0, 2, 3, 5, 1, 4, 6, 7, 8] .done) [] rfl (by kernel_rfl) rfl ?_; refine PT.seg ?_; refine PR.op rfl (Rd.loadBox rfl rfl rfl) ?_; refine PR.op rfl (Rd.moveT rfl) ?_; (iterate 2 refine PR.op rfl (Rd.loadBox rfl rfl rfl) ?_); refine PR.callM false [] (w_L_toTable N p_aT r10 h_11) rfl Tryz.call10 rfl ⟨.aggL ⟨.t _, .t _, .t _, trivial⟩, trivial⟩ rfl trivial (fun h => by cases h) rfl ?_; refine PR.nm (.agg [.os 3 0 r10.first.length, .os 4 0 r10.changes.length, .os 5 0 r10.rows.length]) [some ⟨.mx [sL p_aT.first, sL p_aT.changes, sL p_aT.rows], 26, 0⟩, some ⟨.mx [iA p_aLow.kind, iA p_aLow.num, sA p_aLow.text], 28, 0⟩, some ⟨.mx [iA p_aHigh.kind, iA p_aHigh.num, sA p_aHigh.text], 28, 0⟩, some ⟨.tr (eL r10.first), 125, 4⟩, some ⟨.tr (eL r10.changes), 128, 6⟩, some ⟨.mx (dL 6 0 r10.rows), 96, 2⟩, some ⟨.fm (fam r10.rows), 39, 3⟩] rfl (by (conv => rhs; rw [show dL 6 0 r10.rows = AV.renL (thet [] 3) (dL 3 0 r10.rows) from (dL_ren (thet [] 3) 3 0 r10.rows).symm]); rfl) ?_; refine PR.callM false [] (w_L_toValue N p_aLow r12 h_13) rfl Tryz.call11 rfl ⟨.aggL ⟨.t _, .t _, .t _, trivial⟩, trivial⟩ rfl trivial (fun h => by cases h) rfl ?_; refine PR.callM false [] (w_L_toValue N p_aHigh r14 h_15) rfl Tryz.call11 rfl ⟨.aggL ⟨.t _, .t _, .t _, trivial⟩, trivial⟩ rfl trivial (fun h => by cases h) rfl ?_; refine PR.callM true [] (w_S_ScanTable N r10 p_aColumn r12 r14 r16 h_17) rfl Tryz.call9 rfl ⟨.aggL ⟨.own rfl (by first | decide | exact List.not_mem_nil) rfl rfl, .own rfl (by first | decide | exact List.not_mem_nil) rfl rfl, (Sb.fzD rfl rfl (by first | decide | exact List.not_mem_nil) (by first | decide | exact List.not_mem_nil) rfl rfl rfl), trivial⟩, .t _, .aggL ⟨.t _, .t _, .t _, trivial⟩, .aggL ⟨.t _, .t _, .t _, trivial⟩, trivial⟩ rfl trivial (fun _ => ⟨trivial, (flat_cons flat_ow flat_nil)⟩) rfl ?_; refine PR.nm (.os 7 0 r16.length) [some ⟨.mx [sL p_aT.first, sL p_aT.changes, sL p_aT.rows], 26, 0⟩, some ⟨.mx [iA p_aLow.kind, iA p_aLow.num, sA p_aLow.text], 28, 0⟩, some ⟨.mx [iA p_aHigh.kind, iA p_aHigh.num, sA p_aHigh.text], 28, 0⟩, some ⟨.tr (eL r10.first), 125, 4⟩, some ⟨.tr (eL r10.changes), 128, 6⟩, some ⟨.mx (dL 6 0 r10.rows), 96, 2⟩, some ⟨.fm (fam r10.rows), 39, 3⟩, some ⟨.tr (eL r16), 3, 1⟩] rfl rfl ?_; refine PR.op rfl (Rd.asnO rfl) ?_; refine PR.nil ?_; refine PT.done ?_; refine PL.nil ?_; refine thA_n ?_; refine PC.seq ?_; obtain ⟨r18, h_19, hh0⟩ := bind_some hh0; refine PC.region ?_; refine PL.op rfl (Rd.loadBox rfl rfl rfl) ?_; refine PL.callM false [] (w_L_toTable N p_aT r18 h_19) rfl Tryz.call10 rfl ⟨.aggL ⟨.t _, .t _, .t _, trivial⟩, trivial⟩ rfl trivial (fun h => by cases h) ?_; refine PL.nm (.agg [.os 8 0 r18.first.length, .os 9 0 r18.changes.length, .os 10 0 r18.rows.length]) [some ⟨.mx [sL p_aT.first, sL p_aT.changes, sL p_aT.rows], 26, 0⟩, some ⟨.mx [iA p_aLow.kind, iA p_aLow.num, sA p_aLow.text], 28, 0⟩, some ⟨.mx [iA p_aHigh.kind, iA p_aHigh.num, sA p_aHigh.text], 28, 0⟩, some ⟨.tr (eL r10.first), 125, 4⟩, some ⟨.tr (eL r10.changes), 128, 6⟩, some ⟨.mx (dL 6 0 r10.rows), 96, 2⟩, some ⟨.fm (fam r10.rows), 39, 3⟩, some ⟨.tr (eL r16), 3, 1⟩, some ⟨.tr (eL r18.first), 125, 4⟩, some ⟨.tr (eL r18.changes), 128, 6⟩, some ⟨.mx (dL 11 0 r18.rows), 96, 2⟩, some ⟨.fm (fam r18.rows), 39, 3⟩] rfl (by (conv => rhs; rw [show dL 11 0 r18.rows = AV.renL (thet [] 8) (dL 3 0 r18.rows) from (dL_ren (thet [] 8) 3 0 r18.rows).symm]); rfl) ?_; refine PL.ef rfl (Ef.alloc rfl rfl) ?_; refine PL.nm (.op 12 0) [some ⟨.mx [sL p_aT.first, sL p_aT.changes, sL p_aT.rows], 26, 0⟩, some ⟨.mx [iA p_aLow.kind, iA p_aLow.num, sA p_aLow.text], 28, 0⟩, some ⟨.mx [iA p_aHigh.kind, iA p_aHigh.num, sA p_aHigh.text], 28, 0⟩, some ⟨.tr (eL r10.first), 125, 4⟩, some ⟨.tr (eL r10.changes), 128, 6⟩, some ⟨.mx (dL 6 0 r10.rows), 96, 2⟩, some ⟨.fm (fam r10.rows), 39, 3⟩, some ⟨.tr (eL r16), 3, 1⟩, some ⟨.tr (eL r18.first), 125, 4⟩, some ⟨.tr (eL r18.changes), 128, 6⟩, some ⟨.mx (dL 11 0 r18.rows), 96, 2⟩, some ⟨.fm (fam r18.rows), 39, 3⟩, some ⟨.mx [.t (.v (.slice none 0 0)), .t (.v (.slice none 0 0)), .t (.v (.slice none 0 0))], 37, 0⟩] rfl rfl ?_; refine PL.store rfl rfl rfl rfl rfl rfl rfl ?_; refine PL.nO [some ⟨.mx [sL p_aT.first, sL p_aT.changes, sL p_aT.rows], 26, 0⟩, some ⟨.mx [iA p_aLow.kind, iA p_aLow.num, sA p_aLow.text], 28, 0⟩, some ⟨.mx [iA p_aHigh.kind, iA p_aHigh.num, sA p_aHigh.text], 28, 0⟩, some ⟨.tr (eL r10.first), 125, 4⟩, some ⟨.tr (eL r10.changes), 128, 6⟩, some ⟨.mx (dL 6 0 r10.rows), 96, 2⟩, some ⟨.fm (fam r10.rows), 39, 3⟩, some ⟨.tr (eL r16), 3, 1⟩, some ⟨.tr (eL r18.first), 125, 4⟩, some ⟨.tr (eL r18.changes), 128, 6⟩, some ⟨.mx (dL 11 0 r18.rows), 96, 2⟩, some ⟨.fm (fam r18.rows), 39, 3⟩, some ⟨.mx [.os 8 0 r18.first.length, .os 9 0 r18.changes.length, .os 10 0 r18.rows.length], 37, 0⟩] rfl ?_; refine PL.nil ?_; refine thA_n ?_; obtain ⟨r20, h_21, hh0⟩ := bind_some hh0; obtain ⟨r22, h_23, hh0⟩ := bind_some hh0; obtain ⟨r24, h_25, hh0⟩ := bind_some hh0; refine PC.cut hs (fun _ : Unit => [(1, iA p_aColumn), (4, .op 0 0), (6, .op 1 0), (7, .op 2 0), (10, .os 3 0 r16.length), (11, .op 4 0), (12, .os 9 0 r24.length)]) (fun _ => [⟨.mx [sL p_aT.first, sL p_aT.changes, sL p_aT.rows], 26, 0⟩, ⟨.mx [iA p_aLow.kind, iA p_aLow.num, sA p_aLow.text], 28, 0⟩, ⟨.mx [iA p_aHigh.kind, iA p_aHigh.num, sA p_aHigh.text], 28, 0⟩, ⟨.tr (eL r16), 3, 1⟩, ⟨.mx [.os 5 0 r18.first.length, .os 6 0 r18.changes.length, .os 7 0 r18.rows.length], 37, 0⟩, ⟨.tr (eL r18.first), 125, 4⟩, ⟨.tr (eL r18.changes), 128, 6⟩, ⟨.mx (dL 8 0 r18.rows), 96, 2⟩, ⟨.fm (fam r18.rows), 39, 3⟩, ⟨.tr (eL r24), 3, 1⟩]) (fun _ => True) ?_ ?_
  · refine PC.any (id := 13) 8 (.seg [1, 2, 4] (.fork (.seg [0, 3, 5, 6, 7] .done) (.seg [3] (.fork (.seg [0, 5, 6, 7] .done) (.seg [5, 0, 6, 7] .done))))) [] rfl (by kernel_rfl) rfl ?_; refine PT.seg ?_; refine PR.op rfl (Rd.moveT rfl) ?_; (iterate 2 refine PR.op rfl (Rd.loadBox rfl rfl rfl) ?_); refine PR.nil ?_; refine PT.fork ?_ ?_
    · refine PT.seg ?_; refine PR.rdE rfl rfl (Rd.loadBox rfl rfl rfl) ?_; refine PR.callM false [] (w_L_toValue N p_aLow r20 h_21) rfl Tryz.call11 rfl ⟨.aggL ⟨.t _, .t _, .t _, trivial⟩, trivial⟩ rfl trivial (fun h => by cases h) rfl ?_; refine PR.callM false [] (w_L_toValue N p_aHigh r22 h_23) rfl Tryz.call11 rfl ⟨.aggL ⟨.t _, .t _, .t _, trivial⟩, trivial⟩ rfl trivial (fun h => by cases h) rfl ?_; refine PR.callM true [] (w_I_ScanTable N r18 p_aColumn r20 r22 r24 h_25) rfl Tryz.call12 rfl ⟨.aggL ⟨.own rfl (by first | decide | exact List.not_mem_nil) rfl rfl, .own rfl (by first | decide | exact List.not_mem_nil) rfl rfl, (Sb.fzD rfl rfl (by first | decide | exact List.not_mem_nil) (by first | decide | exact List.not_mem_nil) rfl rfl rfl), trivial⟩, .t _, .aggL ⟨.t _, .t _, .t _, trivial⟩, .aggL ⟨.t _, .t _, .t _, trivial⟩, trivial⟩ rfl trivial (fun _ => ⟨trivial, (flat_cons flat_ow flat_nil)⟩) rfl ?_; refine PR.nm (.os 13 0 r24.length) [some ⟨.mx [sL p_aT.first, sL p_aT.changes, sL p_aT.rows], 26, 0⟩, some ⟨.mx [iA p_aLow.kind, iA p_aLow.num, sA p_aLow.text], 28, 0⟩, some ⟨.mx [iA p_aHigh.kind, iA p_aHigh.num, sA p_aHigh.text], 28, 0⟩, some ⟨.tr (eL r10.first), 125, 4⟩, some ⟨.tr (eL r10.changes), 128, 6⟩, some ⟨.mx (dL 6 0 r10.rows), 96, 2⟩, some ⟨.fm (fam r10.rows), 39, 3⟩, some ⟨.tr (eL r16), 3, 1⟩, some ⟨.tr (eL r18.first), 125, 4⟩, some ⟨.tr (eL r18.changes), 128, 6⟩, some ⟨.mx (dL 11 0 r18.rows), 96, 2⟩, some ⟨.fm (fam r18.rows), 39, 3⟩, some ⟨.mx [.os 8 0 r18.first.length, .os 9 0 r18.changes.length, .os 10 0 r18.rows.length], 37, 0⟩, some ⟨.tr (eL r24), 3, 1⟩] rfl rfl ?_; refine PR.op rfl (Rd.asnO rfl) ?_; refine PR.nil ?_; refine PT.done ?_; refine PL.nil ?_; refine thA_n ?_; exact ⟨(), trivial, [some 0, some 1, some 2, some 7, some 12, some 8, some 9, some 10, some 11, some 13], ⟨rfl, rfl, ⟨⟨_, rfl, rfl, rfl, .mx ⟨.t _, .t _, .t _, trivial⟩⟩, ⟨_, rfl, rfl, rfl, .mx ⟨.t _, .t _, .t _, trivial⟩⟩, ⟨_, rfl, rfl, rfl, .mx ⟨.t _, .t _, .t _, trivial⟩⟩, ⟨_, rfl, rfl, rfl, .tr _⟩, ⟨_, rfl, rfl, rfl, .mx ⟨.os rfl, .os rfl, .os rfl, trivial⟩⟩, ⟨_, rfl, rfl, rfl, .tr _⟩, ⟨_, rfl, rfl, rfl, .tr _⟩, ⟨_, rfl, rfl, rfl, .mx (sb_dL rfl 0 _)⟩, ⟨_, rfl, rfl, rfl, .fm _⟩, ⟨_, rfl, rfl, rfl, .tr _⟩, trivial⟩, ⟨.t _, .op rfl, .op rfl, .op rfl, .os rfl, .op rfl, .os rfl, trivial⟩⟩⟩
    refine PT.seg ?_; refine PR.callM false [] (w_L_toValue N p_aLow r20 h_21) rfl Tryz.call11 rfl ⟨.aggL ⟨.t _, .t _, .t _, trivial⟩, trivial⟩ rfl trivial (fun h => by cases h) rfl ?_; refine PR.nil ?_; refine PT.fork ?_ ?_
    · refine PT.seg ?_; refine PR.rdE rfl rfl (Rd.loadBox rfl rfl rfl) ?_; refine PR.callM false [] (w_L_toValue N p_aHigh r22 h_23) rfl Tryz.call11 rfl ⟨.aggL ⟨.t _, .t _, .t _, trivial⟩, trivial⟩ rfl trivial (fun h => by cases h) rfl ?_; refine PR.callM true [] (w_I_ScanTable N r18 p_aColumn r20 r22 r24 h_25) rfl Tryz.call12 rfl ⟨.aggL ⟨.own rfl (by first | decide | exact List.not_mem_nil) rfl rfl, .own rfl (by first | decide | exact List.not_mem_nil) rfl rfl, (Sb.fzD rfl rfl (by first | decide | exact List.not_mem_nil) (by first | decide | exact List.not_mem_nil) rfl rfl rfl), trivial⟩, .t _, .aggL ⟨.t _, .t _, .t _, trivial⟩, .aggL ⟨.t _, .t _, .t _, trivial⟩, trivial⟩ rfl trivial (fun _ => ⟨trivial, (flat_cons flat_ow flat_nil)⟩) rfl ?_; refine PR.nm (.os 13 0 r24.length) [some ⟨.mx [sL p_aT.first, sL p_aT.changes, sL p_aT.rows], 26, 0⟩, some ⟨.mx [iA p_aLow.kind, iA p_aLow.num, sA p_aLow.text], 28, 0⟩, some ⟨.mx [iA p_aHigh.kind, iA p_aHigh.num, sA p_aHigh.text], 28, 0⟩, some ⟨.tr (eL r10.first), 125, 4⟩, some ⟨.tr (eL r10.changes), 128, 6⟩, some ⟨.mx (dL 6 0 r10.rows), 96, 2⟩, some ⟨.fm (fam r10.rows), 39, 3⟩, some ⟨.tr (eL r16), 3, 1⟩, some ⟨.tr (eL r18.first), 125, 4⟩, some ⟨.tr (eL r18.changes), 128, 6⟩, some ⟨.mx (dL 11 0 r18.rows), 96, 2⟩, some ⟨.fm (fam r18.rows), 39, 3⟩, some ⟨.mx [.os 8 0 r18.first.length, .os 9 0 r18.changes.length, .os 10 0 r18.rows.length], 37, 0⟩, some ⟨.tr (eL r24), 3, 1⟩] rfl rfl ?_; refine PR.op rfl (Rd.asnO rfl) ?_; refine PR.nil ?_; refine PT.done ?_; refine PL.nil ?_; refine thA_n ?_; exact ⟨(), trivial, [some 0, some 1, some 2, some 7, some 12, some 8, some 9, some 10, some 11, some 13], ⟨rfl, rfl, ⟨⟨_, rfl, rfl, rfl, .mx ⟨.t _, .t _, .t _, trivial⟩⟩, ⟨_, rfl, rfl, rfl, .mx ⟨.t _, .t _, .t _, trivial⟩⟩, ⟨_, rfl, rfl, rfl, .mx ⟨.t _, .t _, .t _, trivial⟩⟩, ⟨_, rfl, rfl, rfl, .tr _⟩, ⟨_, rfl, rfl, rfl, .mx ⟨.os rfl, .os rfl, .os rfl, trivial⟩⟩, ⟨_, rfl, rfl, rfl, .tr _⟩, ⟨_, rfl, rfl, rfl, .tr _⟩, ⟨_, rfl, rfl, rfl, .mx (sb_dL rfl 0 _)⟩, ⟨_, rfl, rfl, rfl, .fm _⟩, ⟨_, rfl, rfl, rfl, .tr _⟩, trivial⟩, ⟨.t _, .op rfl, .op rfl, .op rfl, .os rfl, .op rfl, .os rfl, trivial⟩⟩⟩
    refine PT.seg ?_; refine PR.callM false [] (w_L_toValue N p_aHigh r22 h_23) rfl Tryz.call11 rfl ⟨.aggL ⟨.t _, .t _, .t _, trivial⟩, trivial⟩ rfl trivial (fun h => by cases h) rfl ?_; refine PR.rdE rfl rfl (Rd.loadBox rfl rfl rfl) ?_; refine PR.callM true [] (w_I_ScanTable N r18 p_aColumn r20 r22 r24 h_25) rfl Tryz.call12 rfl ⟨.aggL ⟨.own rfl (by first | decide | exact List.not_mem_nil) rfl rfl, .own rfl (by first | decide | exact List.not_mem_nil) rfl rfl, (Sb.fzD rfl rfl (by first | decide | exact List.not_mem_nil) (by first | decide | exact List.not_mem_nil) rfl rfl rfl), trivial⟩, .t _, .aggL ⟨.t _, .t _, .t _, trivial⟩, .aggL ⟨.t _, .t _, .t _, trivial⟩, trivial⟩ rfl trivial (fun _ => ⟨trivial, (flat_cons flat_ow flat_nil)⟩) rfl ?_; refine PR.nm (.os 13 0 r24.length) [some ⟨.mx [sL p_aT.first, sL p_aT.changes, sL p_aT.rows], 26, 0⟩, some ⟨.mx [iA p_aLow.kind, iA p_aLow.num, sA p_aLow.text], 28, 0⟩, some ⟨.mx [iA p_aHigh.kind, iA p_aHigh.num, sA p_aHigh.text], 28, 0⟩, some ⟨.tr (eL r10.first), 125, 4⟩, some ⟨.tr (eL r10.changes), 128, 6⟩, some ⟨.mx (dL 6 0 r10.rows), 96, 2⟩, some ⟨.fm (fam r10.rows), 39, 3⟩, some ⟨.tr (eL r16), 3, 1⟩, some ⟨.tr (eL r18.first), 125, 4⟩, some ⟨.tr (eL r18.changes), 128, 6⟩, some ⟨.mx (dL 11 0 r18.rows), 96, 2⟩, some ⟨.fm (fam r18.rows), 39, 3⟩, some ⟨.mx [.os 8 0 r18.first.length, .os 9 0 r18.changes.length, .os 10 0 r18.rows.length], 37, 0⟩, some ⟨.tr (eL r24), 3, 1⟩] rfl rfl ?_; refine PR.op rfl (Rd.asnO rfl) ?_; refine PR.nil ?_; refine PT.done ?_; refine PL.nil ?_; refine thA_n ?_; exact ⟨(), trivial, [some 0, some 1, some 2, some 7, some 12, some 8, some 9, some 10, some 11, some 13], ⟨rfl, rfl, ⟨⟨_, rfl, rfl, rfl, .mx ⟨.t _, .t _, .t _, trivial⟩⟩, ⟨_, rfl, rfl, rfl, .mx ⟨.t _, .t _, .t _, trivial⟩⟩, ⟨_, rfl, rfl, rfl, .mx ⟨.t _, .t _, .t _, trivial⟩⟩, ⟨_, rfl, rfl, rfl, .tr _⟩, ⟨_, rfl, rfl, rfl, .mx ⟨.os rfl, .os rfl, .os rfl, trivial⟩⟩, ⟨_, rfl, rfl, rfl, .tr _⟩, ⟨_, rfl, rfl, rfl, .tr _⟩, ⟨_, rfl, rfl, rfl, .mx (sb_dL rfl 0 _)⟩, ⟨_, rfl, rfl, rfl, .fm _⟩, ⟨_, rfl, rfl, rfl, .tr _⟩, trivial⟩, ⟨.t _, .op rfl, .op rfl, .op rfl, .os rfl, .op rfl, .os rfl, trivial⟩⟩⟩
  rintro ⟨⟩ -
  (iterate 2 refine PC.seq ?_); obtain ⟨r26, h_27, hh0⟩ := bind_some hh0; refine PC.region ?_; (iterate 2 refine PL.op rfl (Rd.moveO rfl) ?_); refine PL.callM true [] (w_L_eqIntS N r24 r16 r26 h_27) rfl Tryz.call13 rfl ⟨.own rfl (by first | decide | exact List.not_mem_nil) rfl rfl, .own rfl (by first | decide | exact List.not_mem_nil) rfl rfl, trivial⟩ rfl trivial (fun _ => ⟨trivial, flat_nil⟩) ?_; refine PL.op rfl (Rd.unnot rfl) ?_; refine PL.nil ?_; refine thA_n ?_; rcases cond_some hh0 with ⟨h_28, hh0⟩ | ⟨h_28, hh0⟩; rotate_left
  · refine PC.cond_true rfl (not_f h_28) ?_; refine PC.seq ?_; refine PC.region ?_; refine PL.op rfl (Rd.asnT rfl) ?_; refine PL.nil ?_; refine thA_n ?_; refine PC.ret ?_; refine thA_r ?_; obtain rfl := some_in hh0; exact FinA.mk (r := bA false) (bl := []) [] (.inl rfl) rfl (rl := [.tmp 8]) (.tmp .nil) rfl rfl rfl (.t _) trivial ⟨rfl, rfl⟩
  refine PC.cond_false rfl (not_t h_28) ?_; refine PC.skip ?_; refine thA_n ?_; refine PC.seq ?_; obtain ⟨r29, h_30, hh0⟩ := bind_some hh0; obtain ⟨r31, h_32, hh0⟩ := bind_some hh0; refine PC.cut hs (fun _ : Unit => [(1, iA p_aColumn), (4, .op 0 0), (6, .op 1 0), (7, .op 2 0), (10, .os 3 0 r16.length), (11, .op 4 0), (12, .os 9 0 r24.length), (57, bA (!r31))]) (fun _ => [⟨.mx [sL p_aT.first, sL p_aT.changes, sL p_aT.rows], 26, 0⟩, ⟨.mx [iA p_aLow.kind, iA p_aLow.num, sA p_aLow.text], 28, 0⟩, ⟨.mx [iA p_aHigh.kind, iA p_aHigh.num, sA p_aHigh.text], 28, 0⟩, ⟨.tr (eL r16), 3, 1⟩, ⟨.mx [.os 5 0 r18.first.length, .os 6 0 r18.changes.length, .os 7 0 r18.rows.length], 37, 0⟩, ⟨.tr (eL r18.first), 125, 4⟩, ⟨.tr (eL r18.changes), 128, 6⟩, ⟨.mx (dL 8 0 r18.rows), 96, 2⟩, ⟨.fm (fam r18.rows), 39, 3⟩, ⟨.tr (eL r24), 3, 1⟩]) (fun _ => True) ?_ ?_
  · refine PC.any (id := 16) 5 (.seg [1] (.fork (.seg [0, 2, 3, 4] .done) (.seg [2, 0, 3, 4] .done))) [] rfl (by kernel_rfl) rfl ?_; refine PT.seg ?_; refine PR.op rfl (Rd.loadBox rfl rfl rfl) ?_; refine PR.nil ?_; refine PT.fork ?_ ?_
    · refine PT.seg ?_; refine PR.rdE rfl rfl (Rd.loadBox rfl rfl rfl) ?_; refine PR.callM false [] (w_L_toTable N p_aT r29 h_30) rfl Tryz.call10 rfl ⟨.aggL ⟨.t _, .t _, .t _, trivial⟩, trivial⟩ rfl trivial (fun h => by cases h) rfl ?_; refine PR.nm (.agg [.os 10 0 r29.first.length, .os 11 0 r29.changes.length, .os 12 0 r29.rows.length]) [some ⟨.mx [sL p_aT.first, sL p_aT.changes, sL p_aT.rows], 26, 0⟩, some ⟨.mx [iA p_aLow.kind, iA p_aLow.num, sA p_aLow.text], 28, 0⟩, some ⟨.mx [iA p_aHigh.kind, iA p_aHigh.num, sA p_aHigh.text], 28, 0⟩, some ⟨.tr (eL r16), 3, 1⟩, some ⟨.mx [.os 5 0 r18.first.length, .os 6 0 r18.changes.length, .os 7 0 r18.rows.length], 37, 0⟩, some ⟨.tr (eL r18.first), 125, 4⟩, some ⟨.tr (eL r18.changes), 128, 6⟩, some ⟨.mx (dL 8 0 r18.rows), 96, 2⟩, some ⟨.fm (fam r18.rows), 39, 3⟩, some ⟨.tr (eL r24), 3, 1⟩, some ⟨.tr (eL r29.first), 125, 4⟩, some ⟨.tr (eL r29.changes), 128, 6⟩, some ⟨.mx (dL 13 0 r29.rows), 96, 2⟩, some ⟨.fm (fam r29.rows), 39, 3⟩] rfl (by (conv => rhs; rw [show dL 13 0 r29.rows = AV.renL (thet [] 10) (dL 3 0 r29.rows) from (dL_ren (thet [] 10) 3 0 r29.rows).symm]); rfl) ?_; refine PR.callM true [] (w_L_eqTable N r18 r29 r31 h_32) rfl Tryz.call14 rfl ⟨.aggL ⟨.own rfl (by first | decide | exact List.not_mem_nil) rfl rfl, .own rfl (by first | decide | exact List.not_mem_nil) rfl rfl, (Sb.fzD rfl rfl (by first | decide | exact List.not_mem_nil) (by first | decide | exact List.not_mem_nil) rfl rfl rfl), trivial⟩, .aggL ⟨.own rfl (by first | decide | exact List.not_mem_nil) rfl rfl, .own rfl (by first | decide | exact List.not_mem_nil) rfl rfl, (Sb.fzD rfl rfl (by first | decide | exact List.not_mem_nil) (by first | decide | exact List.not_mem_nil) rfl rfl rfl), trivial⟩, trivial⟩ rfl trivial (fun _ => ⟨trivial, flat_nil⟩) rfl ?_; refine PR.op rfl (Rd.unnot rfl) ?_; refine PR.nil ?_; refine PT.done ?_; refine PL.nil ?_; refine thA_n ?_; exact ⟨(), trivial, [some 0, some 1, some 2, some 3, some 4, some 5, some 6, some 7, some 8, some 9], ⟨rfl, rfl, ⟨⟨_, rfl, rfl, rfl, .mx ⟨.t _, .t _, .t _, trivial⟩⟩, ⟨_, rfl, rfl, rfl, .mx ⟨.t _, .t _, .t _, trivial⟩⟩, ⟨_, rfl, rfl, rfl, .mx ⟨.t _, .t _, .t _, trivial⟩⟩, ⟨_, rfl, rfl, rfl, .tr _⟩, ⟨_, rfl, rfl, rfl, .mx ⟨.os rfl, .os rfl, .os rfl, trivial⟩⟩, ⟨_, rfl, rfl, rfl, .tr _⟩, ⟨_, rfl, rfl, rfl, .tr _⟩, ⟨_, rfl, rfl, rfl, .mx (sb_dL rfl 0 _)⟩, ⟨_, rfl, rfl, rfl, .fm _⟩, ⟨_, rfl, rfl, rfl, .tr _⟩, trivial⟩, ⟨.t _, .op rfl, .op rfl, .op rfl, .os rfl, .op rfl, .os rfl, .t _, trivial⟩⟩⟩
    refine PT.seg ?_; refine PR.callM false [] (w_L_toTable N p_aT r29 h_30) rfl Tryz.call10 rfl ⟨.aggL ⟨.t _, .t _, .t _, trivial⟩, trivial⟩ rfl trivial (fun h => by cases h) rfl ?_; refine PR.nm (.agg [.os 10 0 r29.first.length, .os 11 0 r29.changes.length, .os 12 0 r29.rows.length]) [some ⟨.mx [sL p_aT.first, sL p_aT.changes, sL p_aT.rows], 26, 0⟩, some ⟨.mx [iA p_aLow.kind, iA p_aLow.num, sA p_aLow.text], 28, 0⟩, some ⟨.mx [iA p_aHigh.kind, iA p_aHigh.num, sA p_aHigh.text], 28, 0⟩, some ⟨.tr (eL r16), 3, 1⟩, some ⟨.mx [.os 5 0 r18.first.length, .os 6 0 r18.changes.length, .os 7 0 r18.rows.length], 37, 0⟩, some ⟨.tr (eL r18.first), 125, 4⟩, some ⟨.tr (eL r18.changes), 128, 6⟩, some ⟨.mx (dL 8 0 r18.rows), 96, 2⟩, some ⟨.fm (fam r18.rows), 39, 3⟩, some ⟨.tr (eL r24), 3, 1⟩, some ⟨.tr (eL r29.first), 125, 4⟩, some ⟨.tr (eL r29.changes), 128, 6⟩, some ⟨.mx (dL 13 0 r29.rows), 96, 2⟩, some ⟨.fm (fam r29.rows), 39, 3⟩] rfl (by (conv => rhs; rw [show dL 13 0 r29.rows = AV.renL (thet [] 10) (dL 3 0 r29.rows) from (dL_ren (thet [] 10) 3 0 r29.rows).symm]); rfl) ?_; refine PR.rdE rfl rfl (Rd.loadBox rfl rfl rfl) ?_; refine PR.callM true [] (w_L_eqTable N r18 r29 r31 h_32) rfl Tryz.call14 rfl ⟨.aggL ⟨.own rfl (by first | decide | exact List.not_mem_nil) rfl rfl, .own rfl (by first | decide | exact List.not_mem_nil) rfl rfl, (Sb.fzD rfl rfl (by first | decide | exact List.not_mem_nil) (by first | decide | exact List.not_mem_nil) rfl rfl rfl), trivial⟩, .aggL ⟨.own rfl (by first | decide | exact List.not_mem_nil) rfl rfl, .own rfl (by first | decide | exact List.not_mem_nil) rfl rfl, (Sb.fzD rfl rfl (by first | decide | exact List.not_mem_nil) (by first | decide | exact List.not_mem_nil) rfl rfl rfl), trivial⟩, trivial⟩ rfl trivial (fun _ => ⟨trivial, flat_nil⟩) rfl ?_; refine PR.op rfl (Rd.unnot rfl) ?_; refine PR.nil ?_; refine PT.done ?_; refine PL.nil ?_; refine thA_n ?_; exact ⟨(), trivial, [some 0, some 1, some 2, some 3, some 4, some 5, some 6, some 7, some 8, some 9], ⟨rfl, rfl, ⟨⟨_, rfl, rfl, rfl, .mx ⟨.t _, .t _, .t _, trivial⟩⟩, ⟨_, rfl, rfl, rfl, .mx ⟨.t _, .t _, .t _, trivial⟩⟩, ⟨_, rfl, rfl, rfl, .mx ⟨.t _, .t _, .t _, trivial⟩⟩, ⟨_, rfl, rfl, rfl, .tr _⟩, ⟨_, rfl, rfl, rfl, .mx ⟨.os rfl, .os rfl, .os rfl, trivial⟩⟩, ⟨_, rfl, rfl, rfl, .tr _⟩, ⟨_, rfl, rfl, rfl, .tr _⟩, ⟨_, rfl, rfl, rfl, .mx (sb_dL rfl 0 _)⟩, ⟨_, rfl, rfl, rfl, .fm _⟩, ⟨_, rfl, rfl, rfl, .tr _⟩, trivial⟩, ⟨.t _, .op rfl, .op rfl, .op rfl, .os rfl, .op rfl, .os rfl, .t _, trivial⟩⟩⟩
  rintro ⟨⟩ -
  rcases cond_some hh0 with ⟨h_33, hh0⟩ | ⟨h_33, hh0⟩; rotate_left
  · refine PC.cond_true rfl (not_f h_33) ?_; refine PC.seq ?_; refine PC.region ?_; refine PL.op rfl (Rd.asnT rfl) ?_; refine PL.nil ?_; refine thA_n ?_; refine PC.ret ?_; refine thA_r ?_; obtain rfl := some_in hh0; exact FinA.mk (r := bA false) (bl := []) [] (.inl rfl) rfl (rl := [.tmp 8]) (.tmp .nil) rfl rfl rfl (.t _) trivial ⟨rfl, rfl⟩
  refine PC.cond_false rfl (not_t h_33) ?_; refine PC.skip ?_; refine thA_n ?_; refine PC.seq ?_; refine PC.region ?_; refine PL.op rfl (Rd.asnT rfl) ?_; refine PL.nil ?_; refine thA_n ?_; refine PC.seq ?_; obtain ⟨r34, h_35, hh0⟩ := bind_some hh0; refine PC.region ?_; refine PL.op rfl (Rd.loadBox rfl rfl rfl) ?_; refine PL.op rfl (Rd.moveT rfl) ?_; refine PL.callM false [5, 6, 7, 8] (w_L_markTable N r18 (1 : Int) r34 h_35) rfl Tryz.call15 rfl ⟨.aggL ⟨.os rfl, .os rfl, .os rfl, trivial⟩, .t _, trivial⟩ rfl ⟨⟨_, rfl, rfl, rfl, .tr _⟩, ⟨_, rfl, rfl, rfl, .tr _⟩, ⟨_, rfl, rfl, rfl, .mx (sb_dL rfl 0 _)⟩, ⟨_, rfl, rfl, rfl, .fm _⟩, trivial⟩ (fun h => by cases h) ?_; refine PL.nm (iA r34.1) [some ⟨.mx [sL p_aT.first, sL p_aT.changes, sL p_aT.rows], 26, 0⟩, some ⟨.mx [iA p_aLow.kind, iA p_aLow.num, sA p_aLow.text], 28, 0⟩, some ⟨.mx [iA p_aHigh.kind, iA p_aHigh.num, sA p_aHigh.text], 28, 0⟩, some ⟨.tr (eL r16), 3, 1⟩, some ⟨.mx [.os 5 0 r18.first.length, .os 6 0 r18.changes.length, .os 7 0 r18.rows.length], 37, 0⟩, some ⟨.tr (eL r34.2.1), 125, 4⟩, some ⟨.tr (eL r34.2.2.1), 128, 6⟩, some ⟨.mx (dL 8 0 r34.2.2.2), 96, 2⟩, some ⟨.fm (fam r34.2.2.2), 39, 3⟩, some ⟨.tr (eL r24), 3, 1⟩] rfl (by (conv => rhs; rw [show dL 8 0 r34.2.2.2 = AV.renL (thet [5, 6, 7, 8] 10) (dL 3 0 r34.2.2.2) from (dL_ren (thet [5, 6, 7, 8] 10) 3 0 r34.2.2.2).symm]); rfl) ?_; refine PL.op rfl (Rd.asnT rfl) ?_; refine PL.nil ?_; refine thA_n ?_; (iterate 2 refine PC.seq ?_); rcases cond_some hh0 with ⟨h_36, hh0⟩ | ⟨h_36, hh0⟩
  · refine PC.region ?_; refine PL.op rfl (Rd.moveT rfl) ?_; refine PL.op rfl (Rd.lss rfl rfl) ?_; refine PL.op rfl (Rd.moveT rfl) ?_; (iterate 4 refine PL.guard_off rfl rfl h_36 ?_); refine PL.op rfl (Rd.pick_t rfl h_36) ?_; refine PL.nil ?_; refine thA_n ?_; refine PC.cond_true rfl rfl ?_; refine PC.seq ?_; refine PC.region ?_; refine PL.op rfl (Rd.asnT rfl) ?_; refine PL.nil ?_; refine thA_n ?_; refine PC.ret ?_; refine thA_r ?_; obtain rfl := some_in hh0; exact FinA.mk (r := bA false) (bl := []) [] (.inl rfl) rfl (rl := [.tmp 8]) (.tmp .nil) rfl rfl rfl (.t _) trivial ⟨rfl, rfl⟩
  obtain ⟨r37, h_38, hh0⟩ := bind_some hh0; refine PC.region ?_; refine PL.op rfl (Rd.moveT rfl) ?_; refine PL.op rfl (Rd.lss rfl rfl) ?_; refine PL.op rfl (Rd.moveT rfl) ?_; refine PL.guard_on rfl h_36 ?_; refine PL.op rfl (Rd.moveO rfl) ?_; refine PL.guard_on rfl h_36 ?_; refine PL.op rfl (Rd.moveO rfl) ?_; refine PL.guard_on rfl h_36 ?_; refine PL.callM true [] (w_L_eqIntS N r24 r16 r37 h_38) rfl Tryz.call13 rfl ⟨.own rfl (by first | decide | exact List.not_mem_nil) rfl rfl, .own rfl (by first | decide | exact List.not_mem_nil) rfl rfl, trivial⟩ rfl trivial (fun _ => ⟨trivial, flat_nil⟩) ?_; refine PL.guard_on rfl h_36 ?_; refine PL.op rfl (Rd.unnot rfl) ?_; refine PL.op rfl (Rd.pick_f rfl h_36) ?_; refine PL.nil ?_; refine thA_n ?_; rcases cond_some hh0 with ⟨h_39, hh0⟩ | ⟨h_39, hh0⟩; rotate_left
  · refine PC.cond_true rfl (not_f h_39) ?_; refine PC.seq ?_; refine PC.region ?_; refine PL.op rfl (Rd.asnT rfl) ?_; refine PL.nil ?_; refine thA_n ?_; refine PC.ret ?_; refine thA_r ?_; obtain rfl := some_in hh0; exact FinA.mk (r := bA false) (bl := []) [] (.inl rfl) rfl (rl := [.tmp 8]) (.tmp .nil) rfl rfl rfl (.t _) trivial ⟨rfl, rfl⟩
  refine PC.cond_false rfl (not_t h_39) ?_; refine PC.skip ?_; refine thA_n ?_; refine PC.seq ?_; refine PC.region ?_; refine PL.op rfl (Rd.asnT rfl) ?_; refine PL.nil ?_; refine thA_n ?_; refine PC.seq ?_; obtain ⟨r40, h_41, hh0⟩ := bind_some hh0; refine PC.region ?_; refine PL.op rfl (Rd.moveO rfl) ?_; refine PL.op rfl (Rd.moveT rfl) ?_; refine PL.callM false [9] (w_L_markIntS N r24 (1 : Int) r40 h_41) rfl Tryz.call16 rfl ⟨.os rfl, .t _, trivial⟩ rfl ⟨⟨_, rfl, rfl, rfl, .tr _⟩, trivial⟩ (fun h => by cases h) ?_; refine PL.nm (iA r40.1) [some ⟨.mx [sL p_aT.first, sL p_aT.changes, sL p_aT.rows], 26, 0⟩, some ⟨.mx [iA p_aLow.kind, iA p_aLow.num, sA p_aLow.text], 28, 0⟩, some ⟨.mx [iA p_aHigh.kind, iA p_aHigh.num, sA p_aHigh.text], 28, 0⟩, some ⟨.tr (eL r16), 3, 1⟩, some ⟨.mx [.os 5 0 r18.first.length, .os 6 0 r18.changes.length, .os 7 0 r18.rows.length], 37, 0⟩, some ⟨.tr (eL r34.2.1), 125, 4⟩, some ⟨.tr (eL r34.2.2.1), 128, 6⟩, some ⟨.mx (dL 8 0 r34.2.2.2), 96, 2⟩, some ⟨.fm (fam r34.2.2.2), 39, 3⟩, some ⟨.tr (eL r40.2), 3, 1⟩] rfl rfl ?_; refine PL.op rfl (Rd.asnT rfl) ?_; refine PL.nil ?_; refine thA_n ?_; refine PC.seq ?_; refine PC.region ?_; refine PL.op rfl (Rd.asnT rfl) ?_; refine PL.nil ?_; refine thA_n ?_; refine PC.seq ?_; obtain ⟨r42, h_43, hh0⟩ := bind_some hh0; refine PC.region ?_; refine PL.op rfl (Rd.moveO rfl) ?_; refine PL.op rfl (Rd.moveT rfl) ?_; refine PL.callM true [] (w_L_heldIntS N r40.2 (1 : Int) r42 h_43) rfl Tryz.call17 rfl ⟨.own rfl (by first | decide | exact List.not_mem_nil) (by simp only [List.length_set, len_L_markIntS N _ _ _ h_41]) rfl, .t _, trivial⟩ rfl trivial (fun _ => ⟨trivial, flat_nil⟩) ?_; refine PL.op rfl (Rd.asnT rfl) ?_; refine PL.nil ?_; refine thA_n ?_; (iterate 2 refine PC.seq ?_); refine PC.region ?_; refine PL.op rfl (Rd.moveT rfl) ?_; refine PL.op rfl (Rd.lss rfl rfl) ?_; refine PL.nil ?_; refine thA_n ?_; rcases cond_some hh0 with ⟨h_44, hh0⟩ | ⟨h_44, hh0⟩
  · refine PC.cond_true rfl h_44 ?_; refine PC.seq ?_; refine PC.region ?_; refine PL.op rfl (Rd.asnT rfl) ?_; refine PL.nil ?_; refine thA_n ?_; refine PC.ret ?_; refine thA_r ?_; obtain rfl := some_in hh0; exact FinA.mk (r := bA false) (bl := []) [] (.inl rfl) rfl (rl := [.tmp 8]) (.tmp .nil) rfl rfl rfl (.t _) trivial ⟨rfl, rfl⟩
  refine PC.cond_false rfl h_44 ?_; refine PC.skip ?_; refine thA_n ?_; (iterate 2 refine PC.seq ?_); refine PC.region ?_; (iterate 2 refine PL.op rfl (Rd.moveT rfl) ?_); refine PL.op rfl (Rd.neq rfl rfl) ?_; refine PL.nil ?_; refine thA_n ?_; rcases cond_some hh0 with ⟨h_45, hh0⟩ | ⟨h_45, hh0⟩; rotate_left
  · refine PC.cond_true rfl (not_f h_45) ?_; refine PC.seq ?_; refine PC.region ?_; refine PL.op rfl (Rd.asnT rfl) ?_; refine PL.nil ?_; refine thA_n ?_; refine PC.ret ?_; refine thA_r ?_; obtain rfl := some_in hh0; exact FinA.mk (r := bA false) (bl := []) [] (.inl rfl) rfl (rl := [.tmp 8]) (.tmp .nil) rfl rfl rfl (.t _) trivial ⟨rfl, rfl⟩
  refine PC.cond_false rfl (not_t h_45) ?_; refine PC.skip ?_; refine thA_n ?_; refine PC.seq ?_; obtain ⟨r46, h_47, hh0⟩ := bind_some hh0; obtain ⟨r48, h_49, hh0⟩ := bind_some hh0; obtain ⟨r50, h_51, hh0⟩ := bind_some hh0; obtain ⟨r52, h_53, hh0⟩ := bind_some hh0; refine PC.any (id := 30) 9 (.seg [0, 2, 3, 5, 1, 4, 6, 7, 8] .done) [] rfl (by kernel_rfl) rfl ?_; refine PT.seg ?_; refine PR.op rfl (Rd.loadBox rfl rfl rfl) ?_; refine PR.op rfl (Rd.moveT rfl) ?_; (iterate 2 refine PR.op rfl (Rd.loadBox rfl rfl rfl) ?_); refine PR.callM false [] (w_L_toTable N p_aT r46 h_47) rfl Tryz.call10 rfl ⟨.aggL ⟨.t _, .t _, .t _, trivial⟩, trivial⟩ rfl trivial (fun h => by cases h) rfl ?_; refine PR.nm (.agg [.os 10 0 r46.first.length, .os 11 0 r46.changes.length, .os 12 0 r46.rows.length]) [some ⟨.mx [sL p_aT.first, sL p_aT.changes, sL p_aT.rows], 26, 0⟩, some ⟨.mx [iA p_aLow.kind, iA p_aLow.num, sA p_aLow.text], 28, 0⟩, some ⟨.mx [iA p_aHigh.kind, iA p_aHigh.num, sA p_aHigh.text], 28, 0⟩, some ⟨.tr (eL r16), 3, 1⟩, some ⟨.mx [.os 5 0 r18.first.length, .os 6 0 r18.changes.length, .os 7 0 r18.rows.length], 37, 0⟩, some ⟨.tr (eL r34.2.1), 125, 4⟩, some ⟨.tr (eL r34.2.2.1), 128, 6⟩, some ⟨.mx (dL 8 0 r34.2.2.2), 96, 2⟩, some ⟨.fm (fam r34.2.2.2), 39, 3⟩, some ⟨.tr (eL r40.2), 3, 1⟩, some ⟨.tr (eL r46.first), 125, 4⟩, some ⟨.tr (eL r46.changes), 128, 6⟩, some ⟨.mx (dL 13 0 r46.rows), 96, 2⟩, some ⟨.fm (fam r46.rows), 39, 3⟩] rfl (by (conv => rhs; rw [show dL 13 0 r46.rows = AV.renL (thet [] 10) (dL 3 0 r46.rows) from (dL_ren (thet [] 10) 3 0 r46.rows).symm]); rfl) ?_; refine PR.callM false [] (w_L_toValue N p_aLow r48 h_49) rfl Tryz.call11 rfl ⟨.aggL ⟨.t _, .t _, .t _, trivial⟩, trivial⟩ rfl trivial (fun h => by cases h) rfl ?_; refine PR.callM false [] (w_L_toValue N p_aHigh r50 h_51) rfl Tryz.call11 rfl ⟨.aggL ⟨.t _, .t _, .t _, trivial⟩, trivial⟩ rfl trivial (fun h => by cases h) rfl ?_; refine PR.callM true [] (w_I_ScanTable N r46 p_aColumn r48 r50 r52 h_53) rfl Tryz.call12 rfl ⟨.aggL ⟨.own rfl (by first | decide | exact List.not_mem_nil) rfl rfl, .own rfl (by first | decide | exact List.not_mem_nil) rfl rfl, (Sb.fzD rfl rfl (by first | decide | exact List.not_mem_nil) (by first | decide | exact List.not_mem_nil) rfl rfl rfl), trivial⟩, .t _, .aggL ⟨.t _, .t _, .t _, trivial⟩, .aggL ⟨.t _, .t _, .t _, trivial⟩, trivial⟩ rfl trivial (fun _ => ⟨trivial, (flat_cons flat_ow flat_nil)⟩) rfl ?_; refine PR.nm (.os 14 0 r52.length) [some ⟨.mx [sL p_aT.first, sL p_aT.changes, sL p_aT.rows], 26, 0⟩, some ⟨.mx [iA p_aLow.kind, iA p_aLow.num, sA p_aLow.text], 28, 0⟩, some ⟨.mx [iA p_aHigh.kind, iA p_aHigh.num, sA p_aHigh.text], 28, 0⟩, some ⟨.tr (eL r16), 3, 1⟩, some ⟨.mx [.os 5 0 r18.first.length, .os 6 0 r18.changes.length, .os 7 0 r18.rows.length], 37, 0⟩, some ⟨.tr (eL r34.2.1), 125, 4⟩, some ⟨.tr (eL r34.2.2.1), 128, 6⟩, some ⟨.mx (dL 8 0 r34.2.2.2), 96, 2⟩, some ⟨.fm (fam r34.2.2.2), 39, 3⟩, some ⟨.tr (eL r40.2), 3, 1⟩, some ⟨.tr (eL r46.first), 125, 4⟩, some ⟨.tr (eL r46.changes), 128, 6⟩, some ⟨.mx (dL 13 0 r46.rows), 96, 2⟩, some ⟨.fm (fam r46.rows), 39, 3⟩, some ⟨.tr (eL r52), 3, 1⟩] rfl rfl ?_; refine PR.op rfl (Rd.asnO rfl) ?_; refine PR.nil ?_; refine PT.done ?_; refine PL.nil ?_; refine thA_n ?_; (iterate 2 refine PC.seq ?_); obtain ⟨r54, h_55, hh0⟩ := bind_some hh0; refine PC.region ?_; (iterate 2 refine PL.op rfl (Rd.moveO rfl) ?_); refine PL.callM true [] (w_L_eqIntS N r52 r16 r54 h_55) rfl Tryz.call13 rfl ⟨.own rfl (by first | decide | exact List.not_mem_nil) rfl rfl, .own rfl (by first | decide | exact List.not_mem_nil) rfl rfl, trivial⟩ rfl trivial (fun _ => ⟨trivial, flat_nil⟩) ?_; refine PL.op rfl (Rd.unnot rfl) ?_; refine PL.nil ?_; refine thA_n ?_; rcases cond_some hh0 with ⟨h_56, hh0⟩ | ⟨h_56, hh0⟩; rotate_left
  · refine PC.cond_true rfl (not_f h_56) ?_; refine PC.seq ?_; refine PC.region ?_; refine PL.op rfl (Rd.asnT rfl) ?_; refine PL.nil ?_; refine thA_n ?_; refine PC.ret ?_; refine thA_r ?_; obtain rfl := some_in hh0; exact FinA.mk (r := bA false) (bl := []) [] (.inl rfl) rfl (rl := [.tmp 8]) (.tmp .nil) rfl rfl rfl (.t _) trivial ⟨rfl, rfl⟩
  refine PC.cond_false rfl (not_t h_56) ?_; refine PC.skip ?_; refine thA_n ?_; refine PC.seq ?_; refine PC.region ?_; refine PL.op rfl (Rd.asnT rfl) ?_; refine PL.nil ?_; refine thA_n ?_; refine PC.seq ?_; obtain ⟨r57, h_58, hh0⟩ := bind_some hh0; refine PC.region ?_; refine PL.op rfl (Rd.moveO rfl) ?_; refine PL.op rfl (Rd.moveT rfl) ?_; refine PL.callM true [] (w_L_heldIntS N r40.2 (1 : Int) r57 h_58) rfl Tryz.call17 rfl ⟨.own rfl (by first | decide | exact List.not_mem_nil) (by simp only [List.length_set, len_L_markIntS N _ _ _ h_41]) rfl, .t _, trivial⟩ rfl trivial (fun _ => ⟨trivial, flat_nil⟩) ?_; refine PL.op rfl (Rd.asnT rfl) ?_; refine PL.nil ?_; refine thA_n ?_; (iterate 2 refine PC.seq ?_); refine PC.region ?_; refine PL.op rfl (Rd.moveT rfl) ?_; refine PL.op rfl (Rd.lss rfl rfl) ?_; refine PL.nil ?_; refine thA_n ?_; rcases cond_some hh0 with ⟨h_59, hh0⟩ | ⟨h_59, hh0⟩
  · refine PC.cond_true rfl h_59 ?_; refine PC.seq ?_; refine PC.region ?_; refine PL.op rfl (Rd.asnT rfl) ?_; refine PL.nil ?_; refine thA_n ?_; refine PC.ret ?_; refine thA_r ?_; obtain rfl := some_in hh0; exact FinA.mk (r := bA false) (bl := []) [] (.inl rfl) rfl (rl := [.tmp 8]) (.tmp .nil) rfl rfl rfl (.t _) trivial ⟨rfl, rfl⟩
  refine PC.cond_false rfl h_59 ?_; refine PC.skip ?_; refine thA_n ?_; (iterate 2 refine PC.seq ?_); refine PC.region ?_; (iterate 2 refine PL.op rfl (Rd.moveT rfl) ?_); refine PL.op rfl (Rd.neq rfl rfl) ?_; refine PL.nil ?_; refine thA_n ?_; rcases cond_some hh0 with ⟨h_60, hh0⟩ | ⟨h_60, hh0⟩; rotate_left
  · refine PC.cond_true rfl (not_f h_60) ?_; refine PC.seq ?_; refine PC.region ?_; refine PL.op rfl (Rd.asnT rfl) ?_; refine PL.nil ?_; refine thA_n ?_; refine PC.ret ?_; refine thA_r ?_; obtain rfl := some_in hh0; exact FinA.mk (r := bA false) (bl := []) [] (.inl rfl) rfl (rl := [.tmp 8]) (.tmp .nil) rfl rfl rfl (.t _) trivial ⟨rfl, rfl⟩
  refine PC.cond_false rfl (not_t h_60) ?_; refine PC.skip ?_; refine thA_n ?_; refine PC.seq ?_; refine PC.region ?_; refine PL.op rfl (Rd.asnT rfl) ?_; refine PL.nil ?_; refine thA_n ?_; refine PC.ret ?_; obtain rfl := some_in hh0; exact FinA.mk (r := bA true) (bl := []) [] (.inl rfl) rfl (rl := [.tmp 8]) (.tmp .nil) rfl rfl rfl (.t _) trivial ⟨rfl, rfl⟩
def m_L_FnExactIndexColumn (N : Nat) (p_aT : L_Table) (p_aColumn : Int) : Option (Bool) :=
  (m_L_szTable N p_aT (1048576 : Int)).bind fun r1 =>
  cond (decide (r1 < (0 : Int)))
    (some true)
    ((m_L_toTable N p_aT).bind fun r4 =>
    (m_S_IndexColumn N r4 p_aColumn).bind fun r6 =>
    (m_L_toTable N p_aT).bind fun r8 =>
    (m_I_IndexColumn N r8 p_aColumn).bind fun r10 =>
    (m_L_eqPairS N r10 r6).bind fun r12 =>
    cond r12
      ((m_L_toTable N p_aT).bind fun r15 =>
      (m_L_eqTable N r8 r15).bind fun r17 =>
      cond r17
        ((m_L_markTable N r8 (1 : Int)).bind fun r20 =>
        cond (decide (r20.1 < (0 : Int)))
          (some false)
          ((m_L_eqPairS N r10 r6).bind fun r23 =>
          cond r23
            ((m_L_markPairS N r10 (1 : Int)).bind fun r26 =>
            (m_L_heldPairS N r26.2 (1 : Int)).bind fun r28 =>
            cond (decide (r28 < (0 : Int)))
              (some false)
              (cond (decide (r28 = r26.1))
                ((m_L_toTable N p_aT).bind fun r32 =>
                (m_I_IndexColumn N r32 p_aColumn).bind fun r34 =>
                (m_L_eqPairS N r34 r6).bind fun r36 =>
                cond r36
                  ((m_L_heldPairS N r26.2 (1 : Int)).bind fun r39 =>
                  cond (decide (r39 < (0 : Int)))
                    (some false)
                    (cond (decide (r39 = r26.1))
                      (some true)
                      (some false)))
                  (some false))
                (some false)))
            (some false)))
        (some false))
      (some false))
theorem w_L_FnExactIndexColumn (N : Nat) (p_aT : L_Table) (p_aColumn : Int) (r : Bool) (hh0 : m_L_FnExactIndexColumn N p_aT p_aColumn = some r) : FnX Tryz.prog 5 [] [.agg [sL p_aT.first, sL p_aT.changes, sL p_aT.rows], iA p_aColumn] (RE (bA r) []) := by
  unfold m_L_FnExactIndexColumn at hh0; refine FnX.mk Tryz.func5 rfl rfl ?_; intro s hs; refine PC.seq ?_; refine PC.region ?_; refine PL.ef rfl (Ef.box rfl rfl rfl) ?_; refine PL.nm (.op 0 0) [some ⟨.mx [sL p_aT.first, sL p_aT.changes, sL p_aT.rows], 26, 0⟩] rfl rfl ?_; refine PL.op rfl (Rd.asnT rfl) ?_; refine PL.nil ?_; refine thA_n ?_; refine PC.seq ?_; refine PC.region ?_; refine PL.op rfl (Rd.asnT rfl) ?_; refine PL.nil ?_; refine thA_n ?_; refine PC.seq ?_; obtain ⟨r1, h_2, hh0⟩ := bind_some hh0; refine PC.region ?_; refine PL.op rfl (Rd.loadBox rfl rfl rfl) ?_; refine PL.op rfl (Rd.moveT rfl) ?_; refine PL.callM false [] (w_L_szTable N p_aT (1048576 : Int) r1 h_2) rfl Tryz.call7 rfl ⟨.aggL ⟨.t _, .t _, .t _, trivial⟩, .t _, trivial⟩ rfl trivial (fun h => by cases h) ?_; refine PL.op rfl (Rd.asnT rfl) ?_; refine PL.nil ?_; refine thA_n ?_; (iterate 2 refine PC.seq ?_); refine PC.region ?_; refine PL.op rfl (Rd.moveT rfl) ?_; refine PL.op rfl (Rd.lss rfl rfl) ?_; refine PL.nil ?_; refine thA_n ?_; rcases cond_some hh0 with ⟨h_3, hh0⟩ | ⟨h_3, hh0⟩
  · refine PC.cond_true rfl h_3 ?_; refine PC.seq ?_; refine PC.region ?_; refine PL.op rfl (Rd.asnT rfl) ?_; refine PL.nil ?_; refine thA_n ?_; refine PC.ret ?_; refine thA_r ?_; obtain rfl := some_in hh0; exact FinA.mk (r := bA true) (bl := []) [] (.inl rfl) rfl (rl := [.tmp 4]) (.tmp .nil) rfl rfl rfl (.t _) trivial ⟨rfl, rfl⟩
  refine PC.cond_false rfl h_3 ?_; refine PC.skip ?_; refine thA_n ?_; refine PC.seq ?_; obtain ⟨r4, h_5, hh0⟩ := bind_some hh0; obtain ⟨r6, h_7, hh0⟩ := bind_some hh0; refine PC.region ?_; refine PL.op rfl (Rd.loadBox rfl rfl rfl) ?_; refine PL.callM false [] (w_L_toTable N p_aT r4 h_5) rfl Tryz.call10 rfl ⟨.aggL ⟨.t _, .t _, .t _, trivial⟩, trivial⟩ rfl trivial (fun h => by cases h) ?_; refine PL.nm (.agg [.os 1 0 r4.first.length, .os 2 0 r4.changes.length, .os 3 0 r4.rows.length]) [some ⟨.mx [sL p_aT.first, sL p_aT.changes, sL p_aT.rows], 26, 0⟩, some ⟨.tr (eL r4.first), 125, 4⟩, some ⟨.tr (eL r4.changes), 128, 6⟩, some ⟨.mx (dL 4 0 r4.rows), 96, 2⟩, some ⟨.fm (fam r4.rows), 39, 3⟩] rfl (by (conv => rhs; rw [show dL 4 0 r4.rows = AV.renL (thet [] 1) (dL 3 0 r4.rows) from (dL_ren (thet [] 1) 3 0 r4.rows).symm]); rfl) ?_; refine PL.op rfl (Rd.moveT rfl) ?_; refine PL.callM true [] (w_S_IndexColumn N r4 p_aColumn r6 h_7) rfl Tryz.call21 rfl ⟨.aggL ⟨.own rfl (by first | decide | exact List.not_mem_nil) rfl rfl, .own rfl (by first | decide | exact List.not_mem_nil) rfl rfl, (Sb.fzD rfl rfl (by first | decide | exact List.not_mem_nil) (by first | decide | exact List.not_mem_nil) rfl rfl rfl), trivial⟩, .t _, trivial⟩ rfl trivial (fun _ => ⟨trivial, (flat_cons flat_ow flat_nil)⟩) ?_; refine PL.nm (.os 5 0 r6.length) [some ⟨.mx [sL p_aT.first, sL p_aT.changes, sL p_aT.rows], 26, 0⟩, some ⟨.tr (eL r4.first), 125, 4⟩, some ⟨.tr (eL r4.changes), 128, 6⟩, some ⟨.mx (dL 4 0 r4.rows), 96, 2⟩, some ⟨.fm (fam r4.rows), 39, 3⟩, some ⟨.tr (eL r6), 53, 2⟩] rfl rfl ?_; refine PL.op rfl (Rd.asnO rfl) ?_; refine PL.nil ?_; refine thA_n ?_; refine PC.seq ?_; obtain ⟨r8, h_9, hh0⟩ := bind_some hh0; refine PC.region ?_; refine PL.op rfl (Rd.loadBox rfl rfl rfl) ?_; refine PL.callM false [] (w_L_toTable N p_aT r8 h_9) rfl Tryz.call10 rfl ⟨.aggL ⟨.t _, .t _, .t _, trivial⟩, trivial⟩ rfl trivial (fun h => by cases h) ?_; refine PL.nm (.agg [.os 6 0 r8.first.length, .os 7 0 r8.changes.length, .os 8 0 r8.rows.length]) [some ⟨.mx [sL p_aT.first, sL p_aT.changes, sL p_aT.rows], 26, 0⟩, some ⟨.tr (eL r4.first), 125, 4⟩, some ⟨.tr (eL r4.changes), 128, 6⟩, some ⟨.mx (dL 4 0 r4.rows), 96, 2⟩, some ⟨.fm (fam r4.rows), 39, 3⟩, some ⟨.tr (eL r6), 53, 2⟩, some ⟨.tr (eL r8.first), 125, 4⟩, some ⟨.tr (eL r8.changes), 128, 6⟩, some ⟨.mx (dL 9 0 r8.rows), 96, 2⟩, some ⟨.fm (fam r8.rows), 39, 3⟩] rfl (by (conv => rhs; rw [show dL 9 0 r8.rows = AV.renL (thet [] 6) (dL 3 0 r8.rows) from (dL_ren (thet [] 6) 3 0 r8.rows).symm]); rfl) ?_; refine PL.ef rfl (Ef.alloc rfl rfl) ?_; refine PL.nm (.op 10 0) [some ⟨.mx [sL p_aT.first, sL p_aT.changes, sL p_aT.rows], 26, 0⟩, some ⟨.tr (eL r4.first), 125, 4⟩, some ⟨.tr (eL r4.changes), 128, 6⟩, some ⟨.mx (dL 4 0 r4.rows), 96, 2⟩, some ⟨.fm (fam r4.rows), 39, 3⟩, some ⟨.tr (eL r6), 53, 2⟩, some ⟨.tr (eL r8.first), 125, 4⟩, some ⟨.tr (eL r8.changes), 128, 6⟩, some ⟨.mx (dL 9 0 r8.rows), 96, 2⟩, some ⟨.fm (fam r8.rows), 39, 3⟩, some ⟨.mx [.t (.v (.slice none 0 0)), .t (.v (.slice none 0 0)), .t (.v (.slice none 0 0))], 37, 0⟩] rfl rfl ?_; refine PL.store rfl rfl rfl rfl rfl rfl rfl ?_; refine PL.nO [some ⟨.mx [sL p_aT.first, sL p_aT.changes, sL p_aT.rows], 26, 0⟩, some ⟨.tr (eL r4.first), 125, 4⟩, some ⟨.tr (eL r4.changes), 128, 6⟩, some ⟨.mx (dL 4 0 r4.rows), 96, 2⟩, some ⟨.fm (fam r4.rows), 39, 3⟩, some ⟨.tr (eL r6), 53, 2⟩, some ⟨.tr (eL r8.first), 125, 4⟩, some ⟨.tr (eL r8.changes), 128, 6⟩, some ⟨.mx (dL 9 0 r8.rows), 96, 2⟩, some ⟨.fm (fam r8.rows), 39, 3⟩, some ⟨.mx [.os 6 0 r8.first.length, .os 7 0 r8.changes.length, .os 8 0 r8.rows.length], 37, 0⟩] rfl ?_; refine PL.nil ?_; refine thA_n ?_; refine PC.seq ?_; obtain ⟨r10, h_11, hh0⟩ := bind_some hh0; refine PC.region ?_; refine PL.op rfl (Rd.loadBox rfl rfl rfl) ?_; refine PL.op rfl (Rd.moveT rfl) ?_; refine PL.callM true [] (w_I_IndexColumn N r8 p_aColumn r10 h_11) rfl Tryz.call19 rfl ⟨.aggL ⟨.own rfl (by first | decide | exact List.not_mem_nil) rfl rfl, .own rfl (by first | decide | exact List.not_mem_nil) rfl rfl, (Sb.fzD rfl rfl (by first | decide | exact List.not_mem_nil) (by first | decide | exact List.not_mem_nil) rfl rfl rfl), trivial⟩, .t _, trivial⟩ rfl trivial (fun _ => ⟨trivial, (flat_cons flat_ow flat_nil)⟩) ?_; refine PL.nm (.os 11 0 r10.length) [some ⟨.mx [sL p_aT.first, sL p_aT.changes, sL p_aT.rows], 26, 0⟩, some ⟨.tr (eL r4.first), 125, 4⟩, some ⟨.tr (eL r4.changes), 128, 6⟩, some ⟨.mx (dL 4 0 r4.rows), 96, 2⟩, some ⟨.fm (fam r4.rows), 39, 3⟩, some ⟨.tr (eL r6), 53, 2⟩, some ⟨.tr (eL r8.first), 125, 4⟩, some ⟨.tr (eL r8.changes), 128, 6⟩, some ⟨.mx (dL 9 0 r8.rows), 96, 2⟩, some ⟨.fm (fam r8.rows), 39, 3⟩, some ⟨.mx [.os 6 0 r8.first.length, .os 7 0 r8.changes.length, .os 8 0 r8.rows.length], 37, 0⟩, some ⟨.tr (eL r10), 53, 2⟩] rfl rfl ?_; refine PL.op rfl (Rd.asnO rfl) ?_; refine PL.nil ?_; refine thA_n ?_; (iterate 2 refine PC.seq ?_); obtain ⟨r12, h_13, hh0⟩ := bind_some hh0; refine PC.region ?_; (iterate 2 refine PL.op rfl (Rd.moveO rfl) ?_); refine PL.callM true [] (w_L_eqPairS N r10 r6 r12 h_13) rfl Tryz.call23 rfl ⟨.own rfl (by first | decide | exact List.not_mem_nil) rfl rfl, .own rfl (by first | decide | exact List.not_mem_nil) rfl rfl, trivial⟩ rfl trivial (fun _ => ⟨trivial, flat_nil⟩) ?_; refine PL.op rfl (Rd.unnot rfl) ?_; refine PL.nil ?_; refine thA_n ?_; rcases cond_some hh0 with ⟨h_14, hh0⟩ | ⟨h_14, hh0⟩; rotate_left
  · refine PC.cond_true rfl (not_f h_14) ?_; refine PC.seq ?_; refine PC.region ?_; refine PL.op rfl (Rd.asnT rfl) ?_; refine PL.nil ?_; refine thA_n ?_; refine PC.ret ?_; refine thA_r ?_; obtain rfl := some_in hh0; exact FinA.mk (r := bA false) (bl := []) [] (.inl rfl) rfl (rl := [.tmp 4]) (.tmp .nil) rfl rfl rfl (.t _) trivial ⟨rfl, rfl⟩
  refine PC.cond_false rfl (not_t h_14) ?_; refine PC.skip ?_; refine thA_n ?_; refine PC.seq ?_; obtain ⟨r15, h_16, hh0⟩ := bind_some hh0; obtain ⟨r17, h_18, hh0⟩ := bind_some hh0; refine PC.cut hs (fun _ : Unit => [(1, iA p_aColumn), (2, .op 0 0), (6, .os 1 0 r6.length), (7, .op 2 0), (8, .os 7 0 r10.length), (35, bA (!r17))]) (fun _ => [⟨.mx [sL p_aT.first, sL p_aT.changes, sL p_aT.rows], 26, 0⟩, ⟨.tr (eL r6), 53, 2⟩, ⟨.mx [.os 3 0 r8.first.length, .os 4 0 r8.changes.length, .os 5 0 r8.rows.length], 37, 0⟩, ⟨.tr (eL r8.first), 125, 4⟩, ⟨.tr (eL r8.changes), 128, 6⟩, ⟨.mx (dL 6 0 r8.rows), 96, 2⟩, ⟨.fm (fam r8.rows), 39, 3⟩, ⟨.tr (eL r10), 53, 2⟩]) (fun _ => True) ?_ ?_
  · refine PC.any (id := 10) 5 (.seg [1] (.fork (.seg [0, 2, 3, 4] .done) (.seg [2, 0, 3, 4] .done))) [] rfl (by kernel_rfl) rfl ?_; refine PT.seg ?_; refine PR.op rfl (Rd.loadBox rfl rfl rfl) ?_; refine PR.nil ?_; refine PT.fork ?_ ?_
    · refine PT.seg ?_; refine PR.rdE rfl rfl (Rd.loadBox rfl rfl rfl) ?_; refine PR.callM false [] (w_L_toTable N p_aT r15 h_16) rfl Tryz.call10 rfl ⟨.aggL ⟨.t _, .t _, .t _, trivial⟩, trivial⟩ rfl trivial (fun h => by cases h) rfl ?_; refine PR.nm (.agg [.os 12 0 r15.first.length, .os 13 0 r15.changes.length, .os 14 0 r15.rows.length]) [some ⟨.mx [sL p_aT.first, sL p_aT.changes, sL p_aT.rows], 26, 0⟩, some ⟨.tr (eL r4.first), 125, 4⟩, some ⟨.tr (eL r4.changes), 128, 6⟩, some ⟨.mx (dL 4 0 r4.rows), 96, 2⟩, some ⟨.fm (fam r4.rows), 39, 3⟩, some ⟨.tr (eL r6), 53, 2⟩, some ⟨.tr (eL r8.first), 125, 4⟩, some ⟨.tr (eL r8.changes), 128, 6⟩, some ⟨.mx (dL 9 0 r8.rows), 96, 2⟩, some ⟨.fm (fam r8.rows), 39, 3⟩, some ⟨.mx [.os 6 0 r8.first.length, .os 7 0 r8.changes.length, .os 8 0 r8.rows.length], 37, 0⟩, some ⟨.tr (eL r10), 53, 2⟩, some ⟨.tr (eL r15.first), 125, 4⟩, some ⟨.tr (eL r15.changes), 128, 6⟩, some ⟨.mx (dL 15 0 r15.rows), 96, 2⟩, some ⟨.fm (fam r15.rows), 39, 3⟩] rfl (by (conv => rhs; rw [show dL 15 0 r15.rows = AV.renL (thet [] 12) (dL 3 0 r15.rows) from (dL_ren (thet [] 12) 3 0 r15.rows).symm]); rfl) ?_; refine PR.callM true [] (w_L_eqTable N r8 r15 r17 h_18) rfl Tryz.call14 rfl ⟨.aggL ⟨.own rfl (by first | decide | exact List.not_mem_nil) rfl rfl, .own rfl (by first | decide | exact List.not_mem_nil) rfl rfl, (Sb.fzD rfl rfl (by first | decide | exact List.not_mem_nil) (by first | decide | exact List.not_mem_nil) rfl rfl rfl), trivial⟩, .aggL ⟨.own rfl (by first | decide | exact List.not_mem_nil) rfl rfl, .own rfl (by first | decide | exact List.not_mem_nil) rfl rfl, (Sb.fzD rfl rfl (by first | decide | exact List.not_mem_nil) (by first | decide | exact List.not_mem_nil) rfl rfl rfl), trivial⟩, trivial⟩ rfl trivial (fun _ => ⟨trivial, flat_nil⟩) rfl ?_; refine PR.op rfl (Rd.unnot rfl) ?_; refine PR.nil ?_; refine PT.done ?_; refine PL.nil ?_; refine thA_n ?_; exact ⟨(), trivial, [some 0, some 5, some 10, some 6, some 7, some 8, some 9, some 11], ⟨rfl, rfl, ⟨⟨_, rfl, rfl, rfl, .mx ⟨.t _, .t _, .t _, trivial⟩⟩, ⟨_, rfl, rfl, rfl, .tr _⟩, ⟨_, rfl, rfl, rfl, .mx ⟨.os rfl, .os rfl, .os rfl, trivial⟩⟩, ⟨_, rfl, rfl, rfl, .tr _⟩, ⟨_, rfl, rfl, rfl, .tr _⟩, ⟨_, rfl, rfl, rfl, .mx (sb_dL rfl 0 _)⟩, ⟨_, rfl, rfl, rfl, .fm _⟩, ⟨_, rfl, rfl, rfl, .tr _⟩, trivial⟩, ⟨.t _, .op rfl, .os rfl, .op rfl, .os rfl, .t _, trivial⟩⟩⟩
    refine PT.seg ?_; refine PR.callM false [] (w_L_toTable N p_aT r15 h_16) rfl Tryz.call10 rfl ⟨.aggL ⟨.t _, .t _, .t _, trivial⟩, trivial⟩ rfl trivial (fun h => by cases h) rfl ?_; refine PR.nm (.agg [.os 12 0 r15.first.length, .os 13 0 r15.changes.length, .os 14 0 r15.rows.length]) [some ⟨.mx [sL p_aT.first, sL p_aT.changes, sL p_aT.rows], 26, 0⟩, some ⟨.tr (eL r4.first), 125, 4⟩, some ⟨.tr (eL r4.changes), 128, 6⟩, some ⟨.mx (dL 4 0 r4.rows), 96, 2⟩, some ⟨.fm (fam r4.rows), 39, 3⟩, some ⟨.tr (eL r6), 53, 2⟩, some ⟨.tr (eL r8.first), 125, 4⟩, some ⟨.tr (eL r8.changes), 128, 6⟩, some ⟨.mx (dL 9 0 r8.rows), 96, 2⟩, some ⟨.fm (fam r8.rows), 39, 3⟩, some ⟨.mx [.os 6 0 r8.first.length, .os 7 0 r8.changes.length, .os 8 0 r8.rows.length], 37, 0⟩, some ⟨.tr (eL r10), 53, 2⟩, some ⟨.tr (eL r15.first), 125, 4⟩, some ⟨.tr (eL r15.changes), 128, 6⟩, some ⟨.mx (dL 15 0 r15.rows), 96, 2⟩, some ⟨.fm (fam r15.rows), 39, 3⟩] rfl (by (conv => rhs; rw [show dL 15 0 r15.rows = AV.renL (thet [] 12) (dL 3 0 r15.rows) from (dL_ren (thet [] 12) 3 0 r15.rows).symm]); rfl) ?_; refine PR.rdE rfl rfl (Rd.loadBox rfl rfl rfl) ?_; refine PR.callM true [] (w_L_eqTable N r8 r15 r17 h_18) rfl Tryz.call14 rfl ⟨.aggL ⟨.own rfl (by first | decide | exact List.not_mem_nil) rfl rfl, .own rfl (by first | decide | exact List.not_mem_nil) rfl rfl, (Sb.fzD rfl rfl (by first | decide | exact List.not_mem_nil) (by first | decide | exact List.not_mem_nil) rfl rfl rfl), trivial⟩, .aggL ⟨.own rfl (by first | decide | exact List.not_mem_nil) rfl rfl, .own rfl (by first | decide | exact List.not_mem_nil) rfl rfl, (Sb.fzD rfl rfl (by first | decide | exact List.not_mem_nil) (by first | decide | exact List.not_mem_nil) rfl rfl rfl), trivial⟩, trivial⟩ rfl trivial (fun _ => ⟨trivial, flat_nil⟩) rfl ?_; refine PR.op rfl (Rd.unnot rfl) ?_; refine PR.nil ?_; refine PT.done ?_; refine PL.nil ?_; refine thA_n ?_; exact ⟨(), trivial, [some 0, some 5, some 10, some 6, some 7, some 8, some 9, some 11], ⟨rfl, rfl, ⟨⟨_, rfl, rfl, rfl, .mx ⟨.t _, .t _, .t _, trivial⟩⟩, ⟨_, rfl, rfl, rfl, .tr _⟩, ⟨_, rfl, rfl, rfl, .mx ⟨.os rfl, .os rfl, .os rfl, trivial⟩⟩, ⟨_, rfl, rfl, rfl, .tr _⟩, ⟨_, rfl, rfl, rfl, .tr _⟩, ⟨_, rfl, rfl, rfl, .mx (sb_dL rfl 0 _)⟩, ⟨_, rfl, rfl, rfl, .fm _⟩, ⟨_, rfl, rfl, rfl, .tr _⟩, trivial⟩, ⟨.t _, .op rfl, .os rfl, .op rfl, .os rfl, .t _, trivial⟩⟩⟩
  rintro ⟨⟩ -
  rcases cond_some hh0 with ⟨h_19, hh0⟩ | ⟨h_19, hh0⟩; rotate_left
  · refine PC.cond_true rfl (not_f h_19) ?_; refine PC.seq ?_; refine PC.region ?_; refine PL.op rfl (Rd.asnT rfl) ?_; refine PL.nil ?_; refine thA_n ?_; refine PC.ret ?_; refine thA_r ?_; obtain rfl := some_in hh0; exact FinA.mk (r := bA false) (bl := []) [] (.inl rfl) rfl (rl := [.tmp 4]) (.tmp .nil) rfl rfl rfl (.t _) trivial ⟨rfl, rfl⟩
  refine PC.cond_false rfl (not_t h_19) ?_; refine PC.skip ?_; refine thA_n ?_; refine PC.seq ?_; refine PC.region ?_; refine PL.op rfl (Rd.asnT rfl) ?_; refine PL.nil ?_; refine thA_n ?_; refine PC.seq ?_; obtain ⟨r20, h_21, hh0⟩ := bind_some hh0; refine PC.region ?_; refine PL.op rfl (Rd.loadBox rfl rfl rfl) ?_; refine PL.op rfl (Rd.moveT rfl) ?_; refine PL.callM false [3, 4, 5, 6] (w_L_markTable N r8 (1 : Int) r20 h_21) rfl Tryz.call15 rfl ⟨.aggL ⟨.os rfl, .os rfl, .os rfl, trivial⟩, .t _, trivial⟩ rfl ⟨⟨_, rfl, rfl, rfl, .tr _⟩, ⟨_, rfl, rfl, rfl, .tr _⟩, ⟨_, rfl, rfl, rfl, .mx (sb_dL rfl 0 _)⟩, ⟨_, rfl, rfl, rfl, .fm _⟩, trivial⟩ (fun h => by cases h) ?_; refine PL.nm (iA r20.1) [some ⟨.mx [sL p_aT.first, sL p_aT.changes, sL p_aT.rows], 26, 0⟩, some ⟨.tr (eL r6), 53, 2⟩, some ⟨.mx [.os 3 0 r8.first.length, .os 4 0 r8.changes.length, .os 5 0 r8.rows.length], 37, 0⟩, some ⟨.tr (eL r20.2.1), 125, 4⟩, some ⟨.tr (eL r20.2.2.1), 128, 6⟩, some ⟨.mx (dL 6 0 r20.2.2.2), 96, 2⟩, some ⟨.fm (fam r20.2.2.2), 39, 3⟩, some ⟨.tr (eL r10), 53, 2⟩] rfl (by (conv => rhs; rw [show dL 6 0 r20.2.2.2 = AV.renL (thet [3, 4, 5, 6] 8) (dL 3 0 r20.2.2.2) from (dL_ren (thet [3, 4, 5, 6] 8) 3 0 r20.2.2.2).symm]); rfl) ?_; refine PL.op rfl (Rd.asnT rfl) ?_; refine PL.nil ?_; refine thA_n ?_; (iterate 2 refine PC.seq ?_); rcases cond_some hh0 with ⟨h_22, hh0⟩ | ⟨h_22, hh0⟩
  · refine PC.region ?_; refine PL.op rfl (Rd.moveT rfl) ?_; refine PL.op rfl (Rd.lss rfl rfl) ?_; refine PL.op rfl (Rd.moveT rfl) ?_; (iterate 4 refine PL.guard_off rfl rfl h_22 ?_); refine PL.op rfl (Rd.pick_t rfl h_22) ?_; refine PL.nil ?_; refine thA_n ?_; refine PC.cond_true rfl rfl ?_; refine PC.seq ?_; refine PC.region ?_; refine PL.op rfl (Rd.asnT rfl) ?_; refine PL.nil ?_; refine thA_n ?_; refine PC.ret ?_; refine thA_r ?_; obtain rfl := some_in hh0; exact FinA.mk (r := bA false) (bl := []) [] (.inl rfl) rfl (rl := [.tmp 4]) (.tmp .nil) rfl rfl rfl (.t _) trivial ⟨rfl, rfl⟩
  obtain ⟨r23, h_24, hh0⟩ := bind_some hh0; refine PC.region ?_; refine PL.op rfl (Rd.moveT rfl) ?_; refine PL.op rfl (Rd.lss rfl rfl) ?_; refine PL.op rfl (Rd.moveT rfl) ?_; refine PL.guard_on rfl h_22 ?_; refine PL.op rfl (Rd.moveO rfl) ?_; refine PL.guard_on rfl h_22 ?_; refine PL.op rfl (Rd.moveO rfl) ?_; refine PL.guard_on rfl h_22 ?_; refine PL.callM true [] (w_L_eqPairS N r10 r6 r23 h_24) rfl Tryz.call23 rfl ⟨.own rfl (by first | decide | exact List.not_mem_nil) rfl rfl, .own rfl (by first | decide | exact List.not_mem_nil) rfl rfl, trivial⟩ rfl trivial (fun _ => ⟨trivial, flat_nil⟩) ?_; refine PL.guard_on rfl h_22 ?_; refine PL.op rfl (Rd.unnot rfl) ?_; refine PL.op rfl (Rd.pick_f rfl h_22) ?_; refine PL.nil ?_; refine thA_n ?_; rcases cond_some hh0 with ⟨h_25, hh0⟩ | ⟨h_25, hh0⟩; rotate_left
  · refine PC.cond_true rfl (not_f h_25) ?_; refine PC.seq ?_; refine PC.region ?_; refine PL.op rfl (Rd.asnT rfl) ?_; refine PL.nil ?_; refine thA_n ?_; refine PC.ret ?_; refine thA_r ?_; obtain rfl := some_in hh0; exact FinA.mk (r := bA false) (bl := []) [] (.inl rfl) rfl (rl := [.tmp 4]) (.tmp .nil) rfl rfl rfl (.t _) trivial ⟨rfl, rfl⟩
  refine PC.cond_false rfl (not_t h_25) ?_; refine PC.skip ?_; refine thA_n ?_; refine PC.seq ?_; refine PC.region ?_; refine PL.op rfl (Rd.asnT rfl) ?_; refine PL.nil ?_; refine thA_n ?_; refine PC.seq ?_; obtain ⟨r26, h_27, hh0⟩ := bind_some hh0; refine PC.region ?_; refine PL.op rfl (Rd.moveO rfl) ?_; refine PL.op rfl (Rd.moveT rfl) ?_; refine PL.callM false [7] (w_L_markPairS N r10 (1 : Int) r26 h_27) rfl Tryz.call24 rfl ⟨.os rfl, .t _, trivial⟩ rfl ⟨⟨_, rfl, rfl, rfl, .tr _⟩, trivial⟩ (fun h => by cases h) ?_; refine PL.nm (iA r26.1) [some ⟨.mx [sL p_aT.first, sL p_aT.changes, sL p_aT.rows], 26, 0⟩, some ⟨.tr (eL r6), 53, 2⟩, some ⟨.mx [.os 3 0 r8.first.length, .os 4 0 r8.changes.length, .os 5 0 r8.rows.length], 37, 0⟩, some ⟨.tr (eL r20.2.1), 125, 4⟩, some ⟨.tr (eL r20.2.2.1), 128, 6⟩, some ⟨.mx (dL 6 0 r20.2.2.2), 96, 2⟩, some ⟨.fm (fam r20.2.2.2), 39, 3⟩, some ⟨.tr (eL r26.2), 53, 2⟩] rfl rfl ?_; refine PL.op rfl (Rd.asnT rfl) ?_; refine PL.nil ?_; refine thA_n ?_; refine PC.seq ?_; refine PC.region ?_; refine PL.op rfl (Rd.asnT rfl) ?_; refine PL.nil ?_; refine thA_n ?_; refine PC.seq ?_; obtain ⟨r28, h_29, hh0⟩ := bind_some hh0; refine PC.region ?_; refine PL.op rfl (Rd.moveO rfl) ?_; refine PL.op rfl (Rd.moveT rfl) ?_; refine PL.callM true [] (w_L_heldPairS N r26.2 (1 : Int) r28 h_29) rfl Tryz.call25 rfl ⟨.own rfl (by first | decide | exact List.not_mem_nil) (by simp only [List.length_set, len_L_markPairS N _ _ _ h_27]) rfl, .t _, trivial⟩ rfl trivial (fun _ => ⟨trivial, flat_nil⟩) ?_; refine PL.op rfl (Rd.asnT rfl) ?_; refine PL.nil ?_; refine thA_n ?_; (iterate 2 refine PC.seq ?_); refine PC.region ?_; refine PL.op rfl (Rd.moveT rfl) ?_; refine PL.op rfl (Rd.lss rfl rfl) ?_; refine PL.nil ?_; refine thA_n ?_; rcases cond_some hh0 with ⟨h_30, hh0⟩ | ⟨h_30, hh0⟩
  · refine PC.cond_true rfl h_30 ?_; refine PC.seq ?_; refine PC.region ?_; refine PL.op rfl (Rd.asnT rfl) ?_; refine PL.nil ?_; refine thA_n ?_; refine PC.ret ?_; refine thA_r ?_; obtain rfl := some_in hh0; exact FinA.mk (r := bA false) (bl := []) [] (.inl rfl) rfl (rl := [.tmp 4]) (.tmp .nil) rfl rfl rfl (.t _) trivial ⟨rfl, rfl⟩
  refine PC.cond_false rfl h_30 ?_; refine PC.skip ?_; refine thA_n ?_; (iterate 2 refine PC.seq ?_); refine PC.region ?_; (iterate 2 refine PL.op rfl (Rd.moveT rfl) ?_); refine PL.op rfl (Rd.neq rfl rfl) ?_; refine PL.nil ?_; refine thA_n ?_; rcases cond_some hh0 with ⟨h_31, hh0⟩ | ⟨h_31, hh0⟩; rotate_left
  · refine PC.cond_true rfl (not_f h_31) ?_; refine PC.seq ?_; refine PC.region ?_; refine PL.op rfl (Rd.asnT rfl) ?_; refine PL.nil ?_; refine thA_n ?_; refine PC.ret ?_; refine thA_r ?_; obtain rfl := some_in hh0; exact FinA.mk (r := bA false) (bl := []) [] (.inl rfl) rfl (rl := [.tmp 4]) (.tmp .nil) rfl rfl rfl (.t _) trivial ⟨rfl, rfl⟩
  refine PC.cond_false rfl (not_t h_31) ?_; refine PC.skip ?_; refine thA_n ?_; refine PC.seq ?_; obtain ⟨r32, h_33, hh0⟩ := bind_some hh0; obtain ⟨r34, h_35, hh0⟩ := bind_some hh0; refine PC.region ?_; refine PL.op rfl (Rd.loadBox rfl rfl rfl) ?_; refine PL.callM false [] (w_L_toTable N p_aT r32 h_33) rfl Tryz.call10 rfl ⟨.aggL ⟨.t _, .t _, .t _, trivial⟩, trivial⟩ rfl trivial (fun h => by cases h) ?_; refine PL.nm (.agg [.os 8 0 r32.first.length, .os 9 0 r32.changes.length, .os 10 0 r32.rows.length]) [some ⟨.mx [sL p_aT.first, sL p_aT.changes, sL p_aT.rows], 26, 0⟩, some ⟨.tr (eL r6), 53, 2⟩, some ⟨.mx [.os 3 0 r8.first.length, .os 4 0 r8.changes.length, .os 5 0 r8.rows.length], 37, 0⟩, some ⟨.tr (eL r20.2.1), 125, 4⟩, some ⟨.tr (eL r20.2.2.1), 128, 6⟩, some ⟨.mx (dL 6 0 r20.2.2.2), 96, 2⟩, some ⟨.fm (fam r20.2.2.2), 39, 3⟩, some ⟨.tr (eL r26.2), 53, 2⟩, some ⟨.tr (eL r32.first), 125, 4⟩, some ⟨.tr (eL r32.changes), 128, 6⟩, some ⟨.mx (dL 11 0 r32.rows), 96, 2⟩, some ⟨.fm (fam r32.rows), 39, 3⟩] rfl (by (conv => rhs; rw [show dL 11 0 r32.rows = AV.renL (thet [] 8) (dL 3 0 r32.rows) from (dL_ren (thet [] 8) 3 0 r32.rows).symm]); rfl) ?_; refine PL.op rfl (Rd.moveT rfl) ?_; refine PL.callM true [] (w_I_IndexColumn N r32 p_aColumn r34 h_35) rfl Tryz.call19 rfl ⟨.aggL ⟨.own rfl (by first | decide | exact List.not_mem_nil) rfl rfl, .own rfl (by first | decide | exact List.not_mem_nil) rfl rfl, (Sb.fzD rfl rfl (by first | decide | exact List.not_mem_nil) (by first | decide | exact List.not_mem_nil) rfl rfl rfl), trivial⟩, .t _, trivial⟩ rfl trivial (fun _ => ⟨trivial, (flat_cons flat_ow flat_nil)⟩) ?_; refine PL.nm (.os 12 0 r34.length) [some ⟨.mx [sL p_aT.first, sL p_aT.changes, sL p_aT.rows], 26, 0⟩, some ⟨.tr (eL r6), 53, 2⟩, some ⟨.mx [.os 3 0 r8.first.length, .os 4 0 r8.changes.length, .os 5 0 r8.rows.length], 37, 0⟩, some ⟨.tr (eL r20.2.1), 125, 4⟩, some ⟨.tr (eL r20.2.2.1), 128, 6⟩, some ⟨.mx (dL 6 0 r20.2.2.2), 96, 2⟩, some ⟨.fm (fam r20.2.2.2), 39, 3⟩, some ⟨.tr (eL r26.2), 53, 2⟩, some ⟨.tr (eL r32.first), 125, 4⟩, some ⟨.tr (eL r32.changes), 128, 6⟩, some ⟨.mx (dL 11 0 r32.rows), 96, 2⟩, some ⟨.fm (fam r32.rows), 39, 3⟩, some ⟨.tr (eL r34), 53, 2⟩] rfl rfl ?_; refine PL.op rfl (Rd.asnO rfl) ?_; refine PL.nil ?_; refine thA_n ?_; (iterate 2 refine PC.seq ?_); obtain ⟨r36, h_37, hh0⟩ := bind_some hh0; refine PC.region ?_; (iterate 2 refine PL.op rfl (Rd.moveO rfl) ?_); refine PL.callM true [] (w_L_eqPairS N r34 r6 r36 h_37) rfl Tryz.call23 rfl ⟨.own rfl (by first | decide | exact List.not_mem_nil) rfl rfl, .own rfl (by first | decide | exact List.not_mem_nil) rfl rfl, trivial⟩ rfl trivial (fun _ => ⟨trivial, flat_nil⟩) ?_; refine PL.op rfl (Rd.unnot rfl) ?_; refine PL.nil ?_; refine thA_n ?_; rcases cond_some hh0 with ⟨h_38, hh0⟩ | ⟨h_38, hh0⟩; rotate_left
  · refine PC.cond_true rfl (not_f h_38) ?_; refine PC.seq ?_; refine PC.region ?_; refine PL.op rfl (Rd.asnT rfl) ?_; refine PL.nil ?_; refine thA_n ?_; refine PC.ret ?_; refine thA_r ?_; obtain rfl := some_in hh0; exact FinA.mk (r := bA false) (bl := []) [] (.inl rfl) rfl (rl := [.tmp 4]) (.tmp .nil) rfl rfl rfl (.t _) trivial ⟨rfl, rfl⟩
  refine PC.cond_false rfl (not_t h_38) ?_; refine PC.skip ?_; refine thA_n ?_; refine PC.seq ?_; refine PC.region ?_; refine PL.op rfl (Rd.asnT rfl) ?_; refine PL.nil ?_; refine thA_n ?_; refine PC.seq ?_; obtain ⟨r39, h_40, hh0⟩ := bind_some hh0; refine PC.region ?_; refine PL.op rfl (Rd.moveO rfl) ?_; refine PL.op rfl (Rd.moveT rfl) ?_; refine PL.callM true [] (w_L_heldPairS N r26.2 (1 : Int) r39 h_40) rfl Tryz.call25 rfl ⟨.own rfl (by first | decide | exact List.not_mem_nil) (by simp only [List.length_set, len_L_markPairS N _ _ _ h_27]) rfl, .t _, trivial⟩ rfl trivial (fun _ => ⟨trivial, flat_nil⟩) ?_; refine PL.op rfl (Rd.asnT rfl) ?_; refine PL.nil ?_; refine thA_n ?_; (iterate 2 refine PC.seq ?_); refine PC.region ?_; refine PL.op rfl (Rd.moveT rfl) ?_; refine PL.op rfl (Rd.lss rfl rfl) ?_; refine PL.nil ?_; refine thA_n ?_; rcases cond_some hh0 with ⟨h_41, hh0⟩ | ⟨h_41, hh0⟩
  · refine PC.cond_true rfl h_41 ?_; refine PC.seq ?_; refine PC.region ?_; refine PL.op rfl (Rd.asnT rfl) ?_; refine PL.nil ?_; refine thA_n ?_; refine PC.ret ?_; refine thA_r ?_; obtain rfl := some_in hh0; exact FinA.mk (r := bA false) (bl := []) [] (.inl rfl) rfl (rl := [.tmp 4]) (.tmp .nil) rfl rfl rfl (.t _) trivial ⟨rfl, rfl⟩
  refine PC.cond_false rfl h_41 ?_; refine PC.skip ?_; refine thA_n ?_; (iterate 2 refine PC.seq ?_); refine PC.region ?_; (iterate 2 refine PL.op rfl (Rd.moveT rfl) ?_); refine PL.op rfl (Rd.neq rfl rfl) ?_; refine PL.nil ?_; refine thA_n ?_; rcases cond_some hh0 with ⟨h_42, hh0⟩ | ⟨h_42, hh0⟩; rotate_left
  · refine PC.cond_true rfl (not_f h_42) ?_; refine PC.seq ?_; refine PC.region ?_; refine PL.op rfl (Rd.asnT rfl) ?_; refine PL.nil ?_; refine thA_n ?_; refine PC.ret ?_; refine thA_r ?_; obtain rfl := some_in hh0; exact FinA.mk (r := bA false) (bl := []) [] (.inl rfl) rfl (rl := [.tmp 4]) (.tmp .nil) rfl rfl rfl (.t _) trivial ⟨rfl, rfl⟩
  refine PC.cond_false rfl (not_t h_42) ?_; refine PC.skip ?_; refine thA_n ?_; refine PC.seq ?_; refine PC.region ?_; refine PL.op rfl (Rd.asnT rfl) ?_; refine PL.nil ?_; refine thA_n ?_; refine PC.ret ?_; obtain rfl := some_in hh0; exact FinA.mk (r := bA true) (bl := []) [] (.inl rfl) rfl (rl := [.tmp 4]) (.tmp .nil) rfl rfl rfl (.t _) trivial ⟨rfl, rfl⟩
end V
end Go.Proofs.YtkjnnifnmoekjaaGreatDoor
namespace Go.Proofs.YtkjnnifnmoekjaaGreatDoor
namespace V
open Enc (enc)
set_option linter.unusedVariables false
set_option linter.unusedSimpArgs false
set_option maxHeartbeats 4000000
set_option maxRecDepth 100000
open Go.RowKit
attribute [local irreducible] thA inA FinA eL
open Szd (szd)
open Go.ChangeShapes Go.WideShapes Go.ChangeAt
instance : Opn Tryz.prog Int 3 := Opn.int Tryz.underlying3
instance : Opn Tryz.prog ByteArray 9 := Opn.str Tryz.underlying9
instance : Szd L_Value := ⟨fun x => szd x.kind ∧ szd x.num ∧ szd x.text⟩
instance : Opn Tryz.prog L_Value 28 := ⟨fun {H en W fuel cs x} h => by
  obtain ⟨hl, hf⟩ := opn_fields Tryz.underlying28 h; rw [show Tryz.prog.cellsOf 28 = 3 by kernel_rfl] at hl; obtain ⟨n0, y0, h0⟩ := hf 0 _ rfl
  replace h0 : DataW.trod en Tryz.prog W 0 (fun _ => true) true n0 3 ((cs.drop 0).take (Tryz.prog.cellsOf 3)) = some y0 := h0
  rw [show Tryz.prog.cellsOf 3 = 1 by kernel_rfl] at h0; obtain ⟨a0, g0, s0⟩ := (inferInstance : Opn Tryz.prog Int 3).opn h0; obtain ⟨n1, y1, h1⟩ := hf 1 _ rfl
  replace h1 : DataW.trod en Tryz.prog W 0 (fun _ => true) true n1 3 ((cs.drop 1).take (Tryz.prog.cellsOf 3)) = some y1 := h1
  rw [show Tryz.prog.cellsOf 3 = 1 by kernel_rfl] at h1; obtain ⟨a1, g1, s1⟩ := (inferInstance : Opn Tryz.prog Int 3).opn h1; obtain ⟨n2, y2, h2⟩ := hf 2 _ rfl
  replace h2 : DataW.trod en Tryz.prog W 0 (fun _ => true) true n2 9 ((cs.drop 2).take (Tryz.prog.cellsOf 9)) = some y2 := h2
  rw [show Tryz.prog.cellsOf 9 = 1 by kernel_rfl] at h2; obtain ⟨a2, g2, s2⟩ := (inferInstance : Opn Tryz.prog ByteArray 9).opn h2; refine ⟨⟨a0, a1, a2⟩, ?_, s0, s1, s2⟩; have := TL.step g0 (TL.step g1 (TL.step g2 (TL.fin hl) rfl) rfl) rfl; exact this⟩
instance : Szd L_Column := ⟨fun x => szd x.kind ∧ szd x.default⟩
instance : Opn Tryz.prog L_Column 109 := ⟨fun {H en W fuel cs x} h => by
  obtain ⟨hl, hf⟩ := opn_fields Tryz.underlying109 h; rw [show Tryz.prog.cellsOf 109 = 4 by kernel_rfl] at hl; obtain ⟨n0, y0, h0⟩ := hf 0 _ rfl
  replace h0 : DataW.trod en Tryz.prog W 0 (fun _ => true) true n0 3 ((cs.drop 0).take (Tryz.prog.cellsOf 3)) = some y0 := h0
  rw [show Tryz.prog.cellsOf 3 = 1 by kernel_rfl] at h0; obtain ⟨a0, g0, s0⟩ := (inferInstance : Opn Tryz.prog Int 3).opn h0; obtain ⟨n1, y1, h1⟩ := hf 1 _ rfl
  replace h1 : DataW.trod en Tryz.prog W 0 (fun _ => true) true n1 28 ((cs.drop 1).take (Tryz.prog.cellsOf 28)) = some y1 := h1
  rw [show Tryz.prog.cellsOf 28 = 3 by kernel_rfl] at h1; obtain ⟨a1, g1, s1⟩ := (inferInstance : Opn Tryz.prog L_Value 28).opn h1; refine ⟨⟨a0, a1⟩, ?_, s0, s1⟩; have := TL.step g0 (TL.step g1 (TL.fin hl) rfl) rfl; exact this⟩
instance : Opn Tryz.prog (List L_Column) 22 := Opn.sl Tryz.underlying22 (by kernel_rfl) (by decide)
instance : Szd L_Change := ⟨fun x => szd x.kind ∧ szd x.at_ ∧ szd x.column⟩
instance : Opn Tryz.prog L_Change 112 := ⟨fun {H en W fuel cs x} h => by
  obtain ⟨hl, hf⟩ := opn_fields Tryz.underlying112 h; rw [show Tryz.prog.cellsOf 112 = 6 by kernel_rfl] at hl; obtain ⟨n0, y0, h0⟩ := hf 0 _ rfl
  replace h0 : DataW.trod en Tryz.prog W 0 (fun _ => true) true n0 3 ((cs.drop 0).take (Tryz.prog.cellsOf 3)) = some y0 := h0
  rw [show Tryz.prog.cellsOf 3 = 1 by kernel_rfl] at h0; obtain ⟨a0, g0, s0⟩ := (inferInstance : Opn Tryz.prog Int 3).opn h0; obtain ⟨n1, y1, h1⟩ := hf 1 _ rfl
  replace h1 : DataW.trod en Tryz.prog W 0 (fun _ => true) true n1 3 ((cs.drop 1).take (Tryz.prog.cellsOf 3)) = some y1 := h1
  rw [show Tryz.prog.cellsOf 3 = 1 by kernel_rfl] at h1; obtain ⟨a1, g1, s1⟩ := (inferInstance : Opn Tryz.prog Int 3).opn h1; obtain ⟨n2, y2, h2⟩ := hf 2 _ rfl
  replace h2 : DataW.trod en Tryz.prog W 0 (fun _ => true) true n2 109 ((cs.drop 2).take (Tryz.prog.cellsOf 109)) = some y2 := h2
  rw [show Tryz.prog.cellsOf 109 = 4 by kernel_rfl] at h2; obtain ⟨a2, g2, s2⟩ := (inferInstance : Opn Tryz.prog L_Column 109).opn h2; refine ⟨⟨a0, a1, a2⟩, ?_, s0, s1, s2⟩; have := TL.step g0 (TL.step g1 (TL.step g2 (TL.fin hl) rfl) rfl) rfl; exact this⟩
instance : Opn Tryz.prog (List L_Change) 23 := Opn.sl Tryz.underlying23 (by kernel_rfl) (by decide)
instance : Opn Tryz.prog (List L_Value) 114 := Opn.sl Tryz.underlying114 (by kernel_rfl) (by decide)
instance : Szd L_Tagged := ⟨fun x => szd x.tag ∧ szd x.row⟩
instance : Opn Tryz.prog L_Tagged 116 := ⟨fun {H en W fuel cs x} h => by
  obtain ⟨hl, hf⟩ := opn_fields Tryz.underlying116 h; rw [show Tryz.prog.cellsOf 116 = 2 by kernel_rfl] at hl; obtain ⟨n0, y0, h0⟩ := hf 0 _ rfl
  replace h0 : DataW.trod en Tryz.prog W 0 (fun _ => true) true n0 3 ((cs.drop 0).take (Tryz.prog.cellsOf 3)) = some y0 := h0
  rw [show Tryz.prog.cellsOf 3 = 1 by kernel_rfl] at h0; obtain ⟨a0, g0, s0⟩ := (inferInstance : Opn Tryz.prog Int 3).opn h0; obtain ⟨n1, y1, h1⟩ := hf 1 _ rfl
  replace h1 : DataW.trod en Tryz.prog W 0 (fun _ => true) true n1 114 ((cs.drop 1).take (Tryz.prog.cellsOf 114)) = some y1 := h1
  rw [show Tryz.prog.cellsOf 114 = 1 by kernel_rfl] at h1; obtain ⟨a1, g1, s1⟩ := (inferInstance : Opn Tryz.prog (List L_Value) 114).opn h1; refine ⟨⟨a0, a1⟩, ?_, s0, s1⟩; have := TL.step g0 (TL.step g1 (TL.fin hl) rfl) rfl; exact this⟩
instance : Opn Tryz.prog (List L_Tagged) 24 := Opn.sl Tryz.underlying24 (by kernel_rfl) (by decide)
instance : Szd L_Table := ⟨fun x => szd x.first ∧ szd x.changes ∧ szd x.rows⟩
instance : Opn Tryz.prog L_Table 26 := ⟨fun {H en W fuel cs x} h => by
  obtain ⟨hl, hf⟩ := opn_fields Tryz.underlying26 h; rw [show Tryz.prog.cellsOf 26 = 3 by kernel_rfl] at hl; obtain ⟨n0, y0, h0⟩ := hf 0 _ rfl
  replace h0 : DataW.trod en Tryz.prog W 0 (fun _ => true) true n0 22 ((cs.drop 0).take (Tryz.prog.cellsOf 22)) = some y0 := h0
  rw [show Tryz.prog.cellsOf 22 = 1 by kernel_rfl] at h0; obtain ⟨a0, g0, s0⟩ := (inferInstance : Opn Tryz.prog (List L_Column) 22).opn h0; obtain ⟨n1, y1, h1⟩ := hf 1 _ rfl
  replace h1 : DataW.trod en Tryz.prog W 0 (fun _ => true) true n1 23 ((cs.drop 1).take (Tryz.prog.cellsOf 23)) = some y1 := h1
  rw [show Tryz.prog.cellsOf 23 = 1 by kernel_rfl] at h1; obtain ⟨a1, g1, s1⟩ := (inferInstance : Opn Tryz.prog (List L_Change) 23).opn h1; obtain ⟨n2, y2, h2⟩ := hf 2 _ rfl
  replace h2 : DataW.trod en Tryz.prog W 0 (fun _ => true) true n2 24 ((cs.drop 2).take (Tryz.prog.cellsOf 24)) = some y2 := h2
  rw [show Tryz.prog.cellsOf 24 = 1 by kernel_rfl] at h2; obtain ⟨a2, g2, s2⟩ := (inferInstance : Opn Tryz.prog (List L_Tagged) 24).opn h2; refine ⟨⟨a0, a1, a2⟩, ?_, s0, s1, s2⟩; have := TL.step g0 (TL.step g1 (TL.step g2 (TL.fin hl) rfl) rfl) rfl; exact this⟩
instance : Opn Tryz.prog UInt8 5 := Opn.u8 Tryz.underlying5
instance : Opn Tryz.prog (List UInt8) 46 := Opn.sl Tryz.underlying46 (by kernel_rfl) (by decide)
end V
end Go.Proofs.YtkjnnifnmoekjaaGreatDoor
namespace Go.Proofs.YtkjnnifnmoekjaaGreatDoor
namespace V
set_option linter.unusedVariables false
set_option linter.unusedSimpArgs false
set_option maxHeartbeats 1000000
open Szd (szd)
/-- A budget is used up, element by element. -/
theorem sz_loop {α : Type} {N : Nat} {f : α → Int → Option Int} {P : α → Prop} {a : List α} {left : Int} {body : Int × Int → Option ((Int × Int) ⊕ (Int ⊕ Int))} (hf : ∀ x ∈ a, ∀ l : Int, 0 ≤ l → l ≤ 1048576 → ok (f x l) fun r => r = -1 ∨ (0 ≤ r ∧ r ≤ l ∧ P x)) (h0 : 0 ≤ left) (h1 : left ≤ 1048576) (hN : a.length < N) (hl : a.length ≤ 5000000)
    (hb : ∀ s, body s = cond (decide (s.2 < (a.length : Int))) ((ixI a s.2).bind fun x => (f x s.1).bind fun r => cond (decide (r < (0 : Int))) (some (.inr (.inr (-1 : Int)))) ((chk (s.2 + (1 : Int))).bind fun n => some (.inl (r, n)))) (some (.inr (.inl s.1)))) :
    ok (loopM body N (left, (0 : Int))) fun o => o = .inr (-1) ∨ ∃ r, o = .inl r ∧ 0 ≤ r ∧ r ≤ left ∧ ∀ x ∈ a, P x := by
  refine ok.each a.length (fun i s => s.2 = (i : Int) ∧ 0 ≤ s.1 ∧ s.1 ≤ left ∧ ∀ k (h : k < a.length), k < i → P a[k]) _ ?_ ?_ N 0 _ (Nat.zero_le _) ⟨rfl, h0, Int.le_refl _, fun k h hk => by omega⟩ (by omega)
  · rintro i ⟨s, j⟩ hi ⟨h2, h3, h4, h5⟩
    dsimp only at h2 h3 h4
    subst h2
    rw [hb]
    refine ok.ift (by dsimp only; omega) (ok.eq (ixI_nat hi) (ok.call (hf _ (List.getElem_mem _) s h3 (by omega)) ?_))
    rintro r (rfl | ⟨h6, h7, h8⟩)
    · exact ok.ift (by decide) (ok.some (.inl rfl))
    · refine ok.iff (by omega) (ok.chk (by omega) (ok.some ⟨by simp, h6, by dsimp only; omega, fun k hk hki => ?_⟩))
      rcases Nat.lt_succ_iff_lt_or_eq.1 hki with h | rfl
      · exact h5 k hk h
      · exact h8
  · rintro ⟨s, j⟩ ⟨h2, h3, h4, h5⟩
    dsimp only at h2 h3 h4
    subst h2
    rw [hb]
    refine ok.iff (by dsimp only; omega) (ok.some (.inr ⟨s, rfl, h3, h4, fun x hx => ?_⟩))
    obtain ⟨k, hk, rfl⟩ := List.mem_iff_getElem.1 hx
    exact h5 k hk hk
/-- The same, where each element takes its part of the budget. -/
theorem sz_loopC {α : Type} {N : Nat} {f : α → Int → Option Int} {P : α → Prop} {a : List α} {left : Int} (c : α → Nat) {body : Int × Int → Option ((Int × Int) ⊕ (Int ⊕ Int))} (hf : ∀ x ∈ a, ∀ l : Int, 0 ≤ l → l ≤ 1048576 → ok (f x l) fun r => r = -1 ∨ (0 ≤ r ∧ r ≤ l - (c x : Int) ∧ P x)) (h0 : 0 ≤ left) (h1 : left ≤ 1048576) (hN : a.length < N) (hl : a.length ≤ 5000000)
    (hb : ∀ s, body s = cond (decide (s.2 < (a.length : Int))) ((ixI a s.2).bind fun x => (f x s.1).bind fun r => cond (decide (r < (0 : Int))) (some (.inr (.inr (-1 : Int)))) ((chk (s.2 + (1 : Int))).bind fun n => some (.inl (r, n)))) (some (.inr (.inl s.1)))) :
    ok (loopM body N (left, (0 : Int))) fun o => o = .inr (-1) ∨ ∃ r, o = .inl r ∧ 0 ≤ r ∧ r ≤ left - ((cL c a : Nat) : Int) ∧ ∀ x ∈ a, P x := by
  refine ok.each a.length (fun i s => s.2 = (i : Int) ∧ 0 ≤ s.1 ∧ s.1 ≤ left - ((cL c (a.take i) : Nat) : Int) ∧ ∀ k (h : k < a.length), k < i → P a[k]) _ ?_ ?_ N 0 _ (Nat.zero_le _) ⟨rfl, h0, by simp [cL], fun k h hk => by omega⟩ (by omega)
  · rintro i ⟨s, j⟩ hi ⟨h2, h3, h4, h5⟩
    dsimp only at h2 h3 h4
    subst h2
    rw [hb]
    refine ok.ift (by dsimp only; omega) (ok.eq (ixI_nat hi) (ok.call (hf _ (List.getElem_mem _) s h3 (by omega)) ?_))
    rintro r (rfl | ⟨h6, h7, h8⟩)
    · exact ok.ift (by decide) (ok.some (.inl rfl))
    · refine ok.iff (by omega) (ok.chk (by omega) (ok.some ⟨by simp, h6, by rw [cL_take c hi]; dsimp only; omega, fun k hk hki => ?_⟩))
      rcases Nat.lt_succ_iff_lt_or_eq.1 hki with h | rfl
      · exact h5 k hk h
      · exact h8
  · rintro ⟨s, j⟩ ⟨h2, h3, h4, h5⟩
    dsimp only at h2 h3 h4
    rw [List.take_length] at h4
    subst h2
    rw [hb]
    refine ok.iff (by dsimp only; omega) (ok.some (.inr ⟨s, rfl, h3, h4, fun x hx => ?_⟩))
    obtain ⟨k, hk, rfl⟩ := List.mem_iff_getElem.1 hx
    exact h5 k hk hk
theorem mul_bd {a b c d : Nat} (h : a ≤ c) (h' : b ≤ d) : ((a * b : Nat) : Int) ≤ ((c * d : Nat) : Int) := Int.ofNat_le.2 (Nat.mul_le_mul h h')
theorem mkM_eq {β : Type} {w n : Nat} (z : β) (hw : w ≤ 1000) (hn : n ≤ 4000000) : mkM w z (n : Int) = some (List.replicate n z) := by
  have h1 := mul_bd hw hn
  have h2 : ((1000 * 4000000 : Nat) : Int) = 4000000000 := rfl
  have h3 : ((w * n : Nat) : Int) = (w : Int) * (n : Int) := Int.natCast_mul _ _
  unfold mkM
  rw [if_pos ⟨by omega, by rw [← h3]; omega, by omega⟩]; simp
/-- A list is copied, element by element. -/
theorem to_list {α β : Type} {N w : Nat} (g : α → β) {f : α → Option β} (z : β) {a : List α} (ha : a.length ≤ 4000000) (hw : w ≤ 1000) (hN : a.length < N) (hf : ∀ x ∈ a, f x = some (g x)) {body : Int × List β → Option ((Int × List β) ⊕ List β)}
    (hb : ∀ s, body s = cond (decide (s.1 < (a.length : Int))) ((ixI a s.1).bind fun x => (f x).bind fun r => (ixI s.2 s.1).bind fun _ => (chk (s.1 + (1 : Int))).bind fun n => some (.inl (n, s.2.set s.1.toNat r))) (some (.inr s.2))) :
    ((mkM w z (a.length : Int)).bind fun xs => loopM body N ((0 : Int), xs)) = some (a.map g) := by
  have hm : mkM w z (a.length : Int) = some (List.replicate a.length z) := by
    exact mkM_eq z hw ha
  rw [hm]
  show loopM body N ((0 : Int), _) = _
  refine to_loop a g (List.replicate a.length z) (by simp) hN ?_ ?_
  · intro i hi v hv
    have e1 : body ((i : Int), v) = _ := hb ((i : Int), v)
    rw [e1]
    refine ok.val ?_
    refine ok.ift (by dsimp only; omega) (ok.eq (ixI_nat hi) (ok.eq (hf _ (List.getElem_mem _)) (ok.eq (ixI_nat (show i < v.length by omega)) (ok.chk (by dsimp only; omega) (ok.some ?_)))))
    dsimp only
    rw [Int.toNat_natCast]
  · intro v
    rw [hb, decide_eq_false (by show ¬ (a.length : Int) < _; omega)]; rfl
def tVal (x : L_Value) : I_Value := ⟨x.kind, x.num, x.text⟩
def tCol (x : L_Column) : I_Column := ⟨x.kind, tVal x.default⟩
def tChg (x : L_Change) : I_Change := ⟨x.kind, x.at_, tCol x.column⟩
def tTag (x : L_Tagged) : I_Tagged := ⟨x.tag, x.row.map tVal⟩
def tTab (x : L_Table) : I_Table := ⟨x.first.map tCol, x.changes.map tChg, x.rows.map tTag⟩
/-- A table as the law takes it is not too large. -/
structure bL (t : L_Table) : Prop where
  f : t.first.length ≤ 1048576 ∧ ∀ c ∈ t.first, c.default.text.size ≤ 1048576
  c : t.changes.length ≤ 1048576 ∧ ∀ c ∈ t.changes, c.column.default.text.size ≤ 1048576
  r : t.rows.length ≤ 1048576 ∧ ∀ r ∈ t.rows, r.row.length ≤ 1048576 ∧ ∀ v ∈ r.row, v.text.size ≤ 1048576
  s : cL (fun r : L_Tagged => r.row.length) t.rows ≤ 1048576
theorem bL.bT {t : L_Table} (h : bL t) : bT (tTab t) := by
  refine ⟨⟨by show (t.first.map tCol).length ≤ _; rw [List.length_map]; have := h.f.1; omega, fun c hc => ?_⟩, ⟨by show (t.changes.map tChg).length ≤ _; rw [List.length_map]; have := h.c.1; omega, fun c hc => ?_⟩, by show (t.rows.map tTag).length ≤ _; rw [List.length_map]; have := h.r.1; omega, fun i hi => ?_⟩
  · obtain ⟨x, hx, rfl⟩ := List.mem_map.1 hc
    have := h.f.2 x hx
    show x.default.text.size ≤ _; omega
  · obtain ⟨x, hx, rfl⟩ := List.mem_map.1 hc
    have := h.c.2 x hx
    show x.column.default.text.size ≤ _; omega
  · have hm : (tTab t).rows[i] ∈ t.rows.map tTag := List.getElem_mem _
    obtain ⟨x, hx, e⟩ := List.mem_map.1 hm
    rw [← e]
    have := h.r.2 x hx
    refine ⟨by show (x.row.map tVal).length ≤ _; rw [List.length_map]; omega, fun v hv => ?_⟩
    obtain ⟨y, hy, rfl⟩ := List.mem_map.1 hv
    have := this.2 y hy
    show y.text.size ≤ _; omega
section
variable {N : Nat} (hN : 100000000 ≤ N)
include hN
omit hN in
theorem szVal {x : L_Value} (hs : szd x) {l : Int} (h0 : 0 ≤ l) (h1 : l ≤ 1048576) : ok (m_L_szValue N x l) fun r => r = -1 ∨ (0 ≤ r ∧ r ≤ l ∧ x.text.size ≤ 1048576) := by
  have hs' : x.text.size ≤ 9223372036854775807 := hs.2.2
  unfold m_L_szValue
  exact ok.chk (by omega) (ok.ite (fun h => ok.some (.inl rfl)) fun h => ok.some (.inr ⟨by omega, by omega, by omega⟩))
omit hN in
theorem szCol {x : L_Column} (hs : szd x) {l : Int} (h0 : 0 ≤ l) (h1 : l ≤ 1048576) : ok (m_L_szColumn N x l) fun r => r = -1 ∨ (0 ≤ r ∧ r ≤ l ∧ x.default.text.size ≤ 1048576) := by
  unfold m_L_szColumn
  refine ok.call (szVal hs.2 h0 h1) ?_
  rintro r (rfl | h)
  · exact ok.ift (by decide) (ok.some (.inl rfl))
  · exact ok.iff (by omega) (ok.some (.inr h))
omit hN in
theorem szChg {x : L_Change} (hs : szd x) {l : Int} (h0 : 0 ≤ l) (h1 : l ≤ 1048576) : ok (m_L_szChange N x l) fun r => r = -1 ∨ (0 ≤ r ∧ r ≤ l ∧ x.column.default.text.size ≤ 1048576) := by
  unfold m_L_szChange
  refine ok.call (szCol hs.2.2 h0 h1) ?_
  rintro r (rfl | h)
  · exact ok.ift (by decide) (ok.some (.inl rfl))
  · exact ok.iff (by omega) (ok.some (.inr h))
theorem szCols {a : List L_Column} (hs : szd a) {l : Int} (h0 : 0 ≤ l) (h1 : l ≤ 1048576) : ok (m_L_szColumnS N a l) fun r => r = -1 ∨ (0 ≤ r ∧ r ≤ l ∧ a.length ≤ 1048576 ∧ ∀ x ∈ a, x.default.text.size ≤ 1048576) := by
  have hl : a.length ≤ 9223372036854775807 := hs.1
  unfold m_L_szColumnS
  refine ok.chk (by omega) (ok.ite (fun h => ok.some (.inl rfl)) fun h => ?_)
  refine ok.call (sz_loop (f := m_L_szColumn N) (P := fun x => x.default.text.size ≤ 1048576) (fun x hx l h0 h1 => szCol (hs.2 x hx) h0 h1) (by omega) (by omega) (by omega) (by omega) (fun s => rfl)) ?_
  rintro o (rfl | ⟨r, rfl, h2, h3, h4⟩)
  · exact ok.some (.inl rfl)
  · exact ok.some (.inr ⟨h2, by omega, by omega, h4⟩)
theorem szChgs {a : List L_Change} (hs : szd a) {l : Int} (h0 : 0 ≤ l) (h1 : l ≤ 1048576) : ok (m_L_szChangeS N a l) fun r => r = -1 ∨ (0 ≤ r ∧ r ≤ l ∧ a.length ≤ 1048576 ∧ ∀ x ∈ a, x.column.default.text.size ≤ 1048576) := by
  have hl : a.length ≤ 9223372036854775807 := hs.1
  unfold m_L_szChangeS
  refine ok.chk (by omega) (ok.ite (fun h => ok.some (.inl rfl)) fun h => ?_)
  refine ok.call (sz_loop (f := m_L_szChange N) (P := fun x => x.column.default.text.size ≤ 1048576) (fun x hx l h0 h1 => szChg (hs.2 x hx) h0 h1) (by omega) (by omega) (by omega) (by omega) (fun s => rfl)) ?_
  rintro o (rfl | ⟨r, rfl, h2, h3, h4⟩)
  · exact ok.some (.inl rfl)
  · exact ok.some (.inr ⟨h2, by omega, by omega, h4⟩)
theorem szVals {a : List L_Value} (hs : szd a) {l : Int} (h0 : 0 ≤ l) (h1 : l ≤ 1048576) : ok (m_L_szValueS N a l) fun r => r = -1 ∨ (0 ≤ r ∧ r ≤ l - (a.length : Int) ∧ a.length ≤ 1048576 ∧ ∀ x ∈ a, x.text.size ≤ 1048576) := by
  have hl : a.length ≤ 9223372036854775807 := hs.1
  unfold m_L_szValueS
  refine ok.chk (by omega) (ok.ite (fun h => ok.some (.inl rfl)) fun h => ?_)
  refine ok.call (sz_loop (f := m_L_szValue N) (P := fun x => x.text.size ≤ 1048576) (fun x hx l h0 h1 => szVal (hs.2 x hx) h0 h1) (by omega) (by omega) (by omega) (by omega) (fun s => rfl)) ?_
  rintro o (rfl | ⟨r, rfl, h2, h3, h4⟩)
  · exact ok.some (.inl rfl)
  · exact ok.some (.inr ⟨h2, by omega, by omega, h4⟩)
theorem szTag {x : L_Tagged} (hs : szd x) {l : Int} (h0 : 0 ≤ l) (h1 : l ≤ 1048576) : ok (m_L_szTagged N x l) fun r => r = -1 ∨ (0 ≤ r ∧ r ≤ l - (x.row.length : Int) ∧ x.row.length ≤ 1048576 ∧ ∀ v ∈ x.row, v.text.size ≤ 1048576) := by
  unfold m_L_szTagged
  refine ok.call (szVals hN hs.2 h0 h1) ?_
  rintro r (rfl | h)
  · exact ok.ift (by decide) (ok.some (.inl rfl))
  · exact ok.iff (by omega) (ok.some (.inr h))
theorem szTags {a : List L_Tagged} (hs : szd a) {l : Int} (h0 : 0 ≤ l) (h1 : l ≤ 1048576) : ok (m_L_szTaggedS N a l) fun r => r = -1 ∨ (0 ≤ r ∧ r ≤ l ∧ cL (fun x : L_Tagged => x.row.length) a ≤ 1048576 ∧ a.length ≤ 1048576 ∧ ∀ x ∈ a, x.row.length ≤ 1048576 ∧ ∀ v ∈ x.row, v.text.size ≤ 1048576) := by
  have hl : a.length ≤ 9223372036854775807 := hs.1
  unfold m_L_szTaggedS
  refine ok.chk (by omega) (ok.ite (fun h => ok.some (.inl rfl)) fun h => ?_)
  refine ok.call (sz_loopC (fun x : L_Tagged => x.row.length) (f := m_L_szTagged N) (P := fun x => x.row.length ≤ 1048576 ∧ ∀ v ∈ x.row, v.text.size ≤ 1048576) (fun x hx l h0 h1 => szTag hN (hs.2 x hx) h0 h1) (by omega) (by omega) (by omega) (by omega) (fun s => rfl)) ?_
  rintro o (rfl | ⟨r, rfl, h2, h3, h4⟩)
  · exact ok.some (.inl rfl)
  · exact ok.some (.inr ⟨h2, by omega, by omega, by omega, h4⟩)
theorem szTab {t : L_Table} (hs : szd t) {l : Int} (h0 : 0 ≤ l) (h1 : l ≤ 1048576) : ok (m_L_szTable N t l) fun r => r = -1 ∨ (0 ≤ r ∧ r ≤ l ∧ bL t) := by
  unfold m_L_szTable
  refine ok.call (szCols hN hs.1 h0 h1) ?_
  rintro r (rfl | ⟨h2, h3, h4⟩)
  · exact ok.ift (by decide) (ok.some (.inl rfl))
  refine ok.iff (by omega) (ok.call (szChgs hN hs.2.1 h2 (by omega)) ?_)
  rintro r (rfl | ⟨h5, h6, h7⟩)
  · exact ok.ift (by decide) (ok.some (.inl rfl))
  refine ok.iff (by omega) (ok.call (szTags hN hs.2.2 h5 (by omega)) ?_)
  rintro r (rfl | ⟨h8, h9, h10⟩)
  · exact ok.ift (by decide) (ok.some (.inl rfl))
  · exact ok.iff (by omega) (ok.some (.inr ⟨h8, by omega, ⟨h4, h7, h10.2, h10.1⟩⟩))
omit hN in
theorem tVal_eq (x : L_Value) : m_L_toValue N x = some (tVal x) := rfl
omit hN in
theorem tCol_eq (x : L_Column) : m_L_toColumn N x = some (tCol x) := rfl
omit hN in
theorem tChg_eq (x : L_Change) : m_L_toChange N x = some (tChg x) := rfl
theorem tCols_eq {a : List L_Column} (ha : a.length ≤ 1048576) : m_L_toColumnS N a = some (a.map tCol) := by
  have h := to_list (N := N) (w := 40) tCol (f := m_L_toColumn N) (I_Column.mk (0 : Int) (I_Value.mk (0 : Int) (0 : Int) ByteArray.empty)) (a := a) (by omega) (by omega) (by omega) (fun x _ => tCol_eq x) (body := fun s : Int × (List I_Column) => m_L_toColumnS_b1 N a s.1 s.2) (fun s => rfl)
  unfold m_L_toColumnS
  obtain ⟨xs, e1, e2⟩ := bind_some h
  rw [e1]
  show (loopM _ N _).bind _ = _
  rw [e2]; rfl
theorem tChgs_eq {a : List L_Change} (ha : a.length ≤ 1048576) : m_L_toChangeS N a = some (a.map tChg) := by
  have h := to_list (N := N) (w := 56) tChg (f := m_L_toChange N) (I_Change.mk (0 : Int) (0 : Int) (I_Column.mk (0 : Int) (I_Value.mk (0 : Int) (0 : Int) ByteArray.empty))) (a := a) (by omega) (by omega) (by omega) (fun x _ => tChg_eq x) (body := fun s : Int × (List I_Change) => m_L_toChangeS_b1 N a s.1 s.2) (fun s => rfl)
  unfold m_L_toChangeS
  obtain ⟨xs, e1, e2⟩ := bind_some h
  rw [e1]
  show (loopM _ N _).bind _ = _
  rw [e2]; rfl
theorem tVals_eq {a : List L_Value} (ha : a.length ≤ 1048576) : m_L_toValueS N a = some (a.map tVal) := by
  have h := to_list (N := N) (w := 32) tVal (f := m_L_toValue N) (I_Value.mk (0 : Int) (0 : Int) ByteArray.empty) (a := a) (by omega) (by omega) (by omega) (fun x _ => tVal_eq x) (body := fun s : Int × (List I_Value) => m_L_toValueS_b1 N a s.1 s.2) (fun s => rfl)
  unfold m_L_toValueS
  obtain ⟨xs, e1, e2⟩ := bind_some h
  rw [e1]
  show (loopM _ N _).bind _ = _
  rw [e2]; rfl
theorem tTag_eq {x : L_Tagged} (h : x.row.length ≤ 1048576) : m_L_toTagged N x = some (tTag x) := by
  unfold m_L_toTagged
  rw [tVals_eq hN h]; rfl
theorem tTags_eq {a : List L_Tagged} (ha : a.length ≤ 1048576) (hr : ∀ x ∈ a, x.row.length ≤ 1048576) : m_L_toTaggedS N a = some (a.map tTag) := by
  have h := to_list (N := N) (w := 32) tTag (f := m_L_toTagged N) (I_Tagged.mk (0 : Int) ([] : List I_Value)) (a := a) (by omega) (by omega) (by omega) (fun x hx => tTag_eq hN (hr x hx)) (body := fun s : Int × (List I_Tagged) => m_L_toTaggedS_b1 N a s.1 s.2) (fun s => rfl)
  unfold m_L_toTaggedS
  obtain ⟨xs, e1, e2⟩ := bind_some h
  rw [e1]
  show (loopM _ N _).bind _ = _
  rw [e2]; rfl
theorem tTab_eq {t : L_Table} (h : bL t) : m_L_toTable N t = some (tTab t) := by
  unfold m_L_toTable
  rw [tCols_eq hN h.f.1]
  show (m_L_toChangeS N t.changes).bind _ = _
  rw [tChgs_eq hN h.c.1]
  show (m_L_toTaggedS N t.rows).bind _ = _
  rw [tTags_eq hN h.r.1 fun x hx => (h.r.2 x hx).1]; rfl
omit hN in
theorem xVal (a : I_Value) : m_L_eqValue N a a = some true := by unfold m_L_eqValue; simp
omit hN in
theorem xCol (a : I_Column) : m_L_eqColumn N a a = some true := by
  unfold m_L_eqColumn
  exact ok.val (ok.ift rfl (ok.eq (xVal _) (ok.some rfl)))
omit hN in
theorem xChg (a : I_Change) : m_L_eqChange N a a = some true := by
  unfold m_L_eqChange
  exact ok.val (ok.ift rfl (ok.ift rfl (ok.eq (xCol _) (ok.some rfl))))
theorem xCols {r : List I_Column} (hl : r.length ≤ 5000000) : m_L_eqColumnS N r r = some true := by
  refine ok.val ?_
  unfold m_L_eqColumnS
  refine ok.ift rfl (ok.eq (loop_self (n := r.length) (by omega) (fun i hi => ?_) ?_) (ok.some rfl))
  · show m_L_eqColumnS_b1 N r r (i : Int) = _
    unfold m_L_eqColumnS_b1
    exact ok.val (ok.ift (by omega) (ok.eq (ixI_nat hi) (ok.eq (ixI_nat hi) (ok.eq (xCol _) (ok.bt rfl (ok.chk (by omega) (ok.some rfl)))))))
  · show m_L_eqColumnS_b1 N r r _ = _
    unfold m_L_eqColumnS_b1
    rw [decide_eq_false (by omega)]; rfl
theorem xChgs {r : List I_Change} (hl : r.length ≤ 5000000) : m_L_eqChangeS N r r = some true := by
  refine ok.val ?_
  unfold m_L_eqChangeS
  refine ok.ift rfl (ok.eq (loop_self (n := r.length) (by omega) (fun i hi => ?_) ?_) (ok.some rfl))
  · show m_L_eqChangeS_b1 N r r (i : Int) = _
    unfold m_L_eqChangeS_b1
    exact ok.val (ok.ift (by omega) (ok.eq (ixI_nat hi) (ok.eq (ixI_nat hi) (ok.eq (xChg _) (ok.bt rfl (ok.chk (by omega) (ok.some rfl)))))))
  · show m_L_eqChangeS_b1 N r r _ = _
    unfold m_L_eqChangeS_b1
    rw [decide_eq_false (by omega)]; rfl
theorem xVals {r : List I_Value} (hl : r.length ≤ 5000000) : m_L_eqValueS N r r = some true := by
  refine ok.val ?_
  unfold m_L_eqValueS
  refine ok.ift rfl (ok.eq (loop_self (n := r.length) (by omega) (fun i hi => ?_) ?_) (ok.some rfl))
  · show m_L_eqValueS_b1 N r r (i : Int) = _
    unfold m_L_eqValueS_b1
    exact ok.val (ok.ift (by omega) (ok.eq (ixI_nat hi) (ok.eq (ixI_nat hi) (ok.eq (xVal _) (ok.bt rfl (ok.chk (by omega) (ok.some rfl)))))))
  · show m_L_eqValueS_b1 N r r _ = _
    unfold m_L_eqValueS_b1
    rw [decide_eq_false (by omega)]; rfl
theorem xTags {r : List I_Tagged} (hl : r.length ≤ 5000000) (h : ∀ i (h : i < r.length), bR r[i].row) : m_L_eqTaggedS N r r = some true := by
  refine ok.val ?_
  unfold m_L_eqTaggedS
  refine ok.ift rfl (ok.eq (loop_self (n := r.length) (by omega) (fun i hi => ?_) ?_) (ok.some rfl))
  · show m_L_eqTaggedS_b1 N r r (i : Int) = _
    unfold m_L_eqTaggedS_b1
    have e : m_L_eqTagged N r[i] r[i] = some true := by
      unfold m_L_eqTagged
      exact ok.val (ok.ift rfl (ok.eq (xVals hN (h i hi).1) (ok.some rfl)))
    exact ok.val (ok.ift (by omega) (ok.eq (ixI_nat hi) (ok.eq (ixI_nat hi) (ok.eq e (ok.bt rfl (ok.chk (by omega) (ok.some rfl)))))))
  · show m_L_eqTaggedS_b1 N r r _ = _
    unfold m_L_eqTaggedS_b1
    rw [decide_eq_false (by omega)]; rfl
theorem xTab {t : I_Table} (hb : bT t) : m_L_eqTable N t t = some true := by
  unfold m_L_eqTable
  exact ok.val (ok.eq (xCols hN hb.f.1) (ok.bt rfl (ok.eq (xChgs hN hb.c.1) (ok.bt rfl (ok.eq (xTags hN hb.rl hb.r) (ok.some rfl))))))
end
end V
end Go.Proofs.YtkjnnifnmoekjaaGreatDoor
namespace Go.Proofs.YtkjnnifnmoekjaaGreatDoor
namespace V
set_option linter.unusedVariables false
set_option linter.unusedSimpArgs false
noncomputable def mT (N : Nat) (k : Int) : ByteArray := (m_L_markText N k).getD ByteArray.empty
theorem b2s_one (c : UInt8) : (b2s [c]).size = 1 := rfl
theorem mT_eq {N : Nat} {k : Int} (hN : 100000000 ≤ N) (h0 : 0 ≤ k) (hk : k ≤ 50000000) : m_L_markText N k = some (mT N k) := by
  have h : ok (m_L_markText N k) fun _ => True := by
    unfold m_L_markText
    refine ok.ite (fun _ => ok.some trivial) fun hc => ?_
    refine ok.call (ok.loop (fun s => 0 ≤ s.1 ∧ s.1 ≤ k ∧ (s.2.size : Int) ≤ k - s.1) (fun s => s.1.toNat) (fun e => (e.size : Int) ≤ k) ?_ N _ ⟨by dsimp only; omega, by dsimp only; omega, by dsimp only; show (0 : Int) ≤ _; omega⟩ (by dsimp only; omega)) ?_
    · rintro ⟨j, s⟩ ⟨h1, h2, h3⟩
      dsimp only at h1 h2 h3 ⊢
      unfold m_L_markText_b1
      refine ok.ite (fun hc => ?_) fun hc => ok.some (by dsimp only; omega)
      refine ok.remM (by omega) fun x hx => ok.chk (by omega) ?_
      have hs : (b2s [i2b (48 + x)]).size + s.size ≤ 9223372036854775807 := by rw [b2s_one]; omega
      refine ok.eq (addS_eq hs) (ok.quoM (by omega) fun y hy => ok.some ?_)
      have hsz : ((b2s [i2b (48 + x)] ++ s).size : Int) = 1 + s.size := by rw [ByteArray.size_append, b2s_one]; omega
      have hlt : y < j := by rw [hy.1]; omega
      exact ⟨⟨by dsimp only; omega, by dsimp only; omega, by dsimp only; rw [hsz]; omega⟩, by dsimp only; omega⟩
    · intro e he
      unfold m_L_markText_k1
      have hs : (ByteArray.mk #[109]).size + e.size ≤ 9223372036854775807 := by
        have : (ByteArray.mk #[109]).size = 1 := rfl
        omega
      exact ok.eq (addS_eq hs) (ok.some trivial)
  obtain ⟨r, e, _⟩ := h
  unfold mT; rw [e]; rfl
end V
end Go.Proofs.YtkjnnifnmoekjaaGreatDoor
namespace Go.Proofs.YtkjnnifnmoekjaaGreatDoor
namespace V
set_option linter.unusedVariables false
set_option linter.unusedSimpArgs false
set_option maxRecDepth 100000
set_option maxHeartbeats 1000000
noncomputable def mkVal (N : Nat) (x : I_Value) (k : Int) : I_Value := ⟨k, k + 1, mT N (k + 1 + 1)⟩
noncomputable def mkCol (N : Nat) (x : I_Column) (k : Int) : I_Column := ⟨k, ⟨k + 1, k + 1 + 1, mT N (k + 1 + 1 + 1)⟩⟩
noncomputable def mkChg (N : Nat) (x : I_Change) (k : Int) : I_Change := ⟨k, k + 1, ⟨k + 1 + 1, ⟨k + 1 + 1 + 1, k + 1 + 1 + 1 + 1, mT N (k + 1 + 1 + 1 + 1 + 1)⟩⟩⟩
noncomputable def mkTag (N : Nat) (x : I_Tagged) (k : Int) : I_Tagged := ⟨k, mkL (mkVal N) (fun _ => 3) x.row (k + 1)⟩
def cTag (x : I_Tagged) : Nat := 1 + 3 * x.row.length
section
variable {N : Nat} (hN : 100000000 ≤ N)
include hN
theorem markVal {a : List I_Value} (ha : a.length ≤ 4000000) {k0 : Int} (h0 : 1 ≤ k0 ∧ k0 ≤ 24000000) : m_L_markValueS N a k0 = some (k0 + ((3 * a.length : Nat) : Int), mkL (mkVal N) (fun _ => 3) a k0) := by
  unfold m_L_markValueS
  have hc : ∀ xs : List I_Value, cL (fun _ => 3) xs = 3 * xs.length := cL_const _ (fun _ => rfl)
  rw [mark_loop (mkVal N) (fun _ => 3) a k0 (by omega)]
  · rw [hc]; rfl
  · intro i hi v hv hx
    obtain ⟨hi', hx⟩ := List.getElem?_eq_some_iff.1 hx
    have hb : cL (fun _ => 3) (a.take i) = 3 * i := by rw [hc, List.length_take]; omega
    simp only [hb]
    have hx' : ixI v (i : Int) = some a[i] := by rw [ixI_nat hi', hx]
    show m_L_markValueS_b1 N (k0 + ((3 * i : Nat) : Int)) i v = _
    refine ok.val ?_
    unfold m_L_markValueS_b1
    repeat' (first | (with_reducible refine ok.some ?_) | (with_reducible refine ok.ift (by omega) ?_) | (with_reducible refine ok.eq hx' ?_) | (with_reducible refine ok.eq (mT_eq hN (by omega) (by omega)) ?_) | (with_reducible refine ok.ite (fun hc => ?_) (fun hc => ?_)) | (with_reducible refine ok.cond (fun hc => ?_) (fun hc => ?_)) | (with_reducible refine ok.chk (by omega) ?_) | (with_reducible refine ok.bs ?_) | (with_reducible refine ok.remM (by omega) (fun _ hq => ?_)) | (with_reducible refine ok.quoM (by omega) (fun _ hq => ?_)) | (with_reducible refine ok.ix (by omega) (by omega) (fun q hq he => ?_)))
    simp only [List.set_set, mkVal, Int.toNat_natCast, Int.add_assoc]
    rfl
  · intro k v hv
    unfold m_L_markValueS_b1
    rw [decide_eq_false (by show ¬ (a.length : Int) < (v.length : Int); omega)]; rfl
theorem markCol {a : List I_Column} (ha : a.length ≤ 4000000) {k0 : Int} (h0 : 1 ≤ k0 ∧ k0 ≤ 24000000) : m_L_markColumnS N a k0 = some (k0 + ((4 * a.length : Nat) : Int), mkL (mkCol N) (fun _ => 4) a k0) := by
  unfold m_L_markColumnS
  have hc : ∀ xs : List I_Column, cL (fun _ => 4) xs = 4 * xs.length := cL_const _ (fun _ => rfl)
  rw [mark_loop (mkCol N) (fun _ => 4) a k0 (by omega)]
  · rw [hc]; rfl
  · intro i hi v hv hx
    obtain ⟨hi', hx⟩ := List.getElem?_eq_some_iff.1 hx
    have hb : cL (fun _ => 4) (a.take i) = 4 * i := by rw [hc, List.length_take]; omega
    simp only [hb]
    have hx' : ixI v (i : Int) = some a[i] := by rw [ixI_nat hi', hx]
    show m_L_markColumnS_b1 N (k0 + ((4 * i : Nat) : Int)) i v = _
    refine ok.val ?_
    unfold m_L_markColumnS_b1
    repeat' (first | (with_reducible refine ok.some ?_) | (with_reducible refine ok.ift (by omega) ?_) | (with_reducible refine ok.eq hx' ?_) | (with_reducible refine ok.eq (mT_eq hN (by omega) (by omega)) ?_) | (with_reducible refine ok.ite (fun hc => ?_) (fun hc => ?_)) | (with_reducible refine ok.cond (fun hc => ?_) (fun hc => ?_)) | (with_reducible refine ok.chk (by omega) ?_) | (with_reducible refine ok.bs ?_) | (with_reducible refine ok.remM (by omega) (fun _ hq => ?_)) | (with_reducible refine ok.quoM (by omega) (fun _ hq => ?_)) | (with_reducible refine ok.ix (by omega) (by omega) (fun q hq he => ?_)))
    simp only [List.set_set, mkCol, Int.toNat_natCast, Int.add_assoc]
    rfl
  · intro k v hv
    unfold m_L_markColumnS_b1
    rw [decide_eq_false (by show ¬ (a.length : Int) < (v.length : Int); omega)]; rfl
theorem markChg {a : List I_Change} (ha : a.length ≤ 4000000) {k0 : Int} (h0 : 1 ≤ k0 ∧ k0 ≤ 24000000) : m_L_markChangeS N a k0 = some (k0 + ((6 * a.length : Nat) : Int), mkL (mkChg N) (fun _ => 6) a k0) := by
  unfold m_L_markChangeS
  have hc : ∀ xs : List I_Change, cL (fun _ => 6) xs = 6 * xs.length := cL_const _ (fun _ => rfl)
  rw [mark_loop (mkChg N) (fun _ => 6) a k0 (by omega)]
  · rw [hc]; rfl
  · intro i hi v hv hx
    obtain ⟨hi', hx⟩ := List.getElem?_eq_some_iff.1 hx
    have hb : cL (fun _ => 6) (a.take i) = 6 * i := by rw [hc, List.length_take]; omega
    simp only [hb]
    have hx' : ixI v (i : Int) = some a[i] := by rw [ixI_nat hi', hx]
    show m_L_markChangeS_b1 N (k0 + ((6 * i : Nat) : Int)) i v = _
    refine ok.val ?_
    unfold m_L_markChangeS_b1
    repeat' (first | (with_reducible refine ok.some ?_) | (with_reducible refine ok.ift (by omega) ?_) | (with_reducible refine ok.eq hx' ?_) | (with_reducible refine ok.eq (mT_eq hN (by omega) (by omega)) ?_) | (with_reducible refine ok.ite (fun hc => ?_) (fun hc => ?_)) | (with_reducible refine ok.cond (fun hc => ?_) (fun hc => ?_)) | (with_reducible refine ok.chk (by omega) ?_) | (with_reducible refine ok.bs ?_) | (with_reducible refine ok.remM (by omega) (fun _ hq => ?_)) | (with_reducible refine ok.quoM (by omega) (fun _ hq => ?_)) | (with_reducible refine ok.ix (by omega) (by omega) (fun q hq he => ?_)))
    simp only [List.set_set, mkChg, Int.toNat_natCast, Int.add_assoc]
    rfl
  · intro k v hv
    unfold m_L_markChangeS_b1
    rw [decide_eq_false (by show ¬ (a.length : Int) < (v.length : Int); omega)]; rfl
theorem markTag {a : List I_Tagged} (ha : a.length ≤ 4000000) {k0 : Int} (h0 : 1 ≤ k0 ∧ k0 ≤ 12000000) (hc : cL cTag a ≤ 12000000) : m_L_markTaggedS N a k0 = some (k0 + ((cL cTag a : Nat) : Int), mkL (mkTag N) cTag a k0) := by
  unfold m_L_markTaggedS
  rw [mark_loop (mkTag N) cTag a k0 (by omega)]
  · rfl
  · intro i hi v hv hx
    obtain ⟨hi', hx⟩ := List.getElem?_eq_some_iff.1 hx
    have h1 := cL_take_le cTag a (i + 1)
    rw [cL_take cTag hi] at h1
    generalize hk : cL cTag (a.take i) = c0 at h1 ⊢
    have h2 : cTag a[i] = 1 + 3 * a[i].row.length := rfl
    have hs : a[i].row.length ≤ 4000000 := by omega
    have hx' : ixI v (i : Int) = some a[i] := by rw [ixI_nat hi', hx]
    show m_L_markTaggedS_b1 N (k0 + ((c0 : Nat) : Int)) i v = _
    refine ok.val ?_
    unfold m_L_markTaggedS_b1
    refine ok.ift (by omega) (ok.eq hx' ?_)
    refine ok.chk (by omega) (ok.eq (markVal hN hs (by omega)) ?_)
    refine ok.chk (by omega) (ok.some ?_)
    rw [h2]
    rw [List.set_set, Int.toNat_natCast]
    show Sum.inl (k0 + (c0 : Int) + 1 + ((3 * a[i].row.length : Nat) : Int), (i : Int) + 1, v.set i (mkTag N a[i] (k0 + (c0 : Int)))) = _
    congr 2
    omega
  · intro k v hv
    unfold m_L_markTaggedS_b1
    rw [decide_eq_false (by show ¬ (a.length : Int) < (v.length : Int); omega)]; rfl
/-- A table that the marks can run through. -/
structure MT (t : I_Table) : Prop where
  f : t.first.length ≤ 1048576
  c : t.changes.length ≤ 1048576
  r : t.rows.length ≤ 4000000
  s : cL cTag t.rows ≤ 8000000
def cTab (t : I_Table) : Nat := 4 * t.first.length + 6 * t.changes.length + cL cTag t.rows
noncomputable def mkTab (N : Nat) (t : I_Table) : I_Table := ⟨mkL (mkCol N) (fun _ => 4) t.first 1, mkL (mkChg N) (fun _ => 6) t.changes (1 + ((4 * t.first.length : Nat) : Int)), mkL (mkTag N) cTag t.rows (1 + ((4 * t.first.length : Nat) : Int) + ((6 * t.changes.length : Nat) : Int))⟩
theorem markTab {t : I_Table} (h : MT t) : m_L_markTable N t 1 = some (1 + ((cTab t : Nat) : Int), (mkTab N t).first, (mkTab N t).changes, (mkTab N t).rows) := by
  have h1 := h.f
  have h2 := h.c
  unfold m_L_markTable
  refine ok.val ?_
  refine ok.eq (markCol hN (by omega) (by omega)) (ok.eq (markChg hN (by omega) (by omega)) (ok.eq (markTag hN h.r (by omega) (by have := h.s; omega)) (ok.some ?_)))
  show (_, _) = _
  congr 1
  unfold cTab
  dsimp only
  omega
end
end V
end Go.Proofs.YtkjnnifnmoekjaaGreatDoor
namespace Go.Proofs.YtkjnnifnmoekjaaGreatDoor
namespace V
set_option linter.unusedVariables false
set_option linter.unusedSimpArgs false
set_option maxHeartbeats 1000000
open Szd (szd)
theorem bL.mt {t : L_Table} (h : bL t) : MT (tTab t) := by
  have h1 := h.f.1
  have h2 := h.c.1
  have h3 := h.r.1
  have h4 := h.s
  refine ⟨by show (t.first.map tCol).length ≤ _; simp; omega, by show (t.changes.map tChg).length ≤ _; simp; omega, by show (t.rows.map tTag).length ≤ _; simp; omega, ?_⟩
  have hc : ∀ l : List L_Tagged, cL cTag (l.map tTag) = l.length + 3 * cL (fun r : L_Tagged => r.row.length) l := by
    intro l
    induction l with
    | nil => rfl
    | cons x l ih => simp only [List.map_cons, cL, ih, cTag, tTag, List.length_map, List.length_cons]; omega
  show cL cTag (t.rows.map tTag) ≤ _
  rw [hc]; omega
section
variable {N : Nat} (hN : 100000000 ≤ N)
include hN
end
end V
end Go.Proofs.YtkjnnifnmoekjaaGreatDoor
namespace Go.Proofs.YtkjnnifnmoekjaaGreatDoor
namespace V
set_option linter.unusedVariables false
set_option linter.unusedSimpArgs false
set_option maxRecDepth 100000
set_option maxHeartbeats 1000000
noncomputable def mkPair (N : Nat) (x : I_Pair) (k : Int) : I_Pair := ⟨mT N (k), k + 1⟩
section
variable {N : Nat} (hN : 100000000 ≤ N)
include hN
omit hN in
theorem eqPair_self (a : I_Pair) : m_L_eqPair N a a = some true := by
  unfold m_L_eqPair
  simp
theorem eqPairS_self {a : List I_Pair} (ha : a.length ≤ 5000000) : m_L_eqPairS N a a = some true := by
  unfold m_L_eqPairS
  rw [decide_eq_true rfl, cond_true]
  have h := ok.up (body := fun s : Int => m_L_eqPairS_b1 N a a s) a.length (fun _ => True) (fun o => o = .inl ()) (N := N) (by omega) ?_ ?_
  · obtain ⟨o, e, rfl⟩ := h; rw [e]; rfl
  · intro i hi _
    show ok (m_L_eqPairS_b1 N a a i) _
    unfold m_L_eqPairS_b1
    refine ok.ift (by omega) (ok.eq (ixI_nat hi) (ok.eq (ixI_nat hi) (ok.eq (eqPair_self _) (ok.bt rfl (ok.chk (by omega) (ok.some ⟨rfl, trivial⟩))))))
  · intro _
    show ok (m_L_eqPairS_b1 N a a _) _
    unfold m_L_eqPairS_b1
    exact ok.iff (by omega) (ok.some rfl)
theorem markPairS_eq {a : List I_Pair} (ha : a.length ≤ 5000000) {k0 : Int} (h0 : 1 ≤ k0 ∧ k0 ≤ 10000000) : m_L_markPairS N a k0 = some (k0 + ((2 * a.length : Nat) : Int), mkL (mkPair N) (fun _ => 2) a k0) := by
  unfold m_L_markPairS
  have hc : ∀ xs : List I_Pair, cL (fun _ => 2) xs = 2 * xs.length := cL_const _ (fun _ => rfl)
  rw [mark_loop (mkPair N) (fun _ => 2) a k0 (by omega)]
  · rw [hc]; rfl
  · intro i hi v hv hx
    obtain ⟨hi', hx⟩ := List.getElem?_eq_some_iff.1 hx
    have hb : cL (fun _ => 2) (a.take i) = 2 * i := by rw [hc, List.length_take]; omega
    simp only [hb]
    have hx' : ixI v (i : Int) = some a[i] := by rw [ixI_nat hi', hx]
    show m_L_markPairS_b1 N (k0 + ((2 * i : Nat) : Int)) i v = _
    refine ok.val ?_
    unfold m_L_markPairS_b1
    repeat' (first | (with_reducible refine ok.some ?_) | (with_reducible refine ok.ift (by omega) ?_) | (with_reducible refine ok.eq hx' ?_) | (with_reducible refine ok.eq (mT_eq hN (by omega) (by omega)) ?_) | (with_reducible refine ok.ite (fun hc => ?_) (fun hc => ?_)) | (with_reducible refine ok.cond (fun hc => ?_) (fun hc => ?_)) | (with_reducible refine ok.chk (by omega) ?_) | (with_reducible refine ok.bs ?_) | (with_reducible refine ok.remM (by omega) (fun _ hq => ?_)) | (with_reducible refine ok.quoM (by omega) (fun _ hq => ?_)) | (with_reducible refine ok.ix (by omega) (by omega) (fun q hq he => ?_)))
    simp only [List.set_set, mkPair, Int.toNat_natCast, Int.add_assoc]
    rfl
  · intro k v hv
    unfold m_L_markPairS_b1
    rw [decide_eq_false (by show ¬ (a.length : Int) < (v.length : Int); omega)]; rfl
theorem heldPairS_eq {a : List I_Pair} (ha : a.length ≤ 4000000) {k0 : Int} (h0 : 1 ≤ k0 ∧ k0 ≤ 24000000) : m_L_heldPairS N (mkL (mkPair N) (fun _ => 2) a k0) k0 = some (k0 + ((2 * a.length : Nat) : Int)) := by
  unfold m_L_heldPairS
  have hc : ∀ xs : List I_Pair, cL (fun _ => 2) xs = 2 * xs.length := cL_const _ (fun _ => rfl)
  rw [held_loop (mkPair N) (fun _ => 2) a k0 (by omega)]
  · rw [hc]; rfl
  · intro i hi hx
    obtain ⟨hi', hx⟩ := List.getElem?_eq_some_iff.1 hx
    have hb : cL (fun _ => 2) (a.take i) = 2 * i := by rw [hc, List.length_take]; omega
    rw [hb] at hx
    simp only [hb]
    have hx' : ixI (mkL (mkPair N) (fun _ => 2) a k0) (i : Int) = some (mkPair N a[i] (k0 + ((2 * i : Nat) : Int))) := by rw [ixI_nat hi', hx]
    have hl := mkL_len (mkPair N) (fun _ => 2) a k0
    show m_L_heldPairS_b1 N (mkL (mkPair N) (fun _ => 2) a k0) (k0 + ((2 * i : Nat) : Int)) i = _
    refine ok.val ?_
    unfold m_L_heldPairS_b1
    simp only [mkPair] at hx'
    repeat' (first | (with_reducible refine ok.some ?_) | (with_reducible refine ok.ift rfl ?_) | (with_reducible refine ok.ift (by omega) ?_) | (with_reducible refine ok.eq hx' ?_) | (with_reducible refine ok.eq (mT_eq hN (by omega) (by omega)) ?_) | (with_reducible refine ok.bt (beq_self_eq_true _) ?_) | (with_reducible refine ok.ite (fun hc => ?_) (fun hc => ?_)) | (with_reducible refine ok.cond (fun hc => ?_) (fun hc => ?_)) | (with_reducible refine ok.chk (by omega) ?_) | (with_reducible refine ok.bs ?_) | (with_reducible refine ok.remM (by omega) (fun _ hq => ?_)) | (with_reducible refine ok.quoM (by omega) (fun _ hq => ?_)) | (with_reducible refine ok.ix (by omega) (by omega) (fun q hq he => ?_)))
    simp only [Int.add_assoc]; rfl
  · intro k
    unfold m_L_heldPairS_b1
    have hl := mkL_len (mkPair N) (fun _ => 2) a k0
    rw [decide_eq_false (by show ¬ (a.length : Int) < _; omega)]; rfl
end
def mkInt (x : Int) (k : Int) : Int := k
section
variable {N : Nat} (hN : 100000000 ≤ N)
include hN
theorem eqIntS_self {a : List Int} (ha : a.length ≤ 5000000) : m_L_eqIntS N a a = some true := by
  unfold m_L_eqIntS
  rw [decide_eq_true rfl, cond_true]
  have h := ok.up (body := fun s : Int => m_L_eqIntS_b1 N a a s) a.length (fun _ => True) (fun o => o = .inl ()) (N := N) (by omega) ?_ ?_
  · obtain ⟨o, e, rfl⟩ := h; rw [e]; rfl
  · intro i hi _
    show ok (m_L_eqIntS_b1 N a a i) _
    unfold m_L_eqIntS_b1
    refine ok.ift (by omega) (ok.eq (ixI_nat hi) (ok.eq (ixI_nat hi) (ok.ift rfl (ok.chk (by omega) (ok.some ⟨rfl, trivial⟩)))))
  · intro _
    show ok (m_L_eqIntS_b1 N a a _) _
    unfold m_L_eqIntS_b1
    exact ok.iff (by omega) (ok.some rfl)
theorem markIntS_eq {a : List Int} (ha : a.length ≤ 5000000) {k0 : Int} (h0 : 1 ≤ k0 ∧ k0 ≤ 10000000) : m_L_markIntS N a k0 = some (k0 + ((1 * a.length : Nat) : Int), mkL mkInt (fun _ => 1) a k0) := by
  unfold m_L_markIntS
  have hc : ∀ xs : List Int, cL (fun _ => 1) xs = 1 * xs.length := cL_const _ (fun _ => rfl)
  rw [mark_loop mkInt (fun _ => 1) a k0 (by omega)]
  · rw [hc]; rfl
  · intro i hi v hv hx
    obtain ⟨hi', hx⟩ := List.getElem?_eq_some_iff.1 hx
    have hb : cL (fun _ => 1) (a.take i) = 1 * i := by rw [hc, List.length_take]; omega
    simp only [hb]
    have hx' : ixI v (i : Int) = some a[i] := by rw [ixI_nat hi', hx]
    show m_L_markIntS_b1 N (k0 + ((1 * i : Nat) : Int)) i v = _
    refine ok.val ?_
    unfold m_L_markIntS_b1
    repeat' (first | (with_reducible refine ok.some ?_) | (with_reducible refine ok.ift (by omega) ?_) | (with_reducible refine ok.eq hx' ?_) | (with_reducible refine ok.ite (fun hc => ?_) (fun hc => ?_)) | (with_reducible refine ok.cond (fun hc => ?_) (fun hc => ?_)) | (with_reducible refine ok.chk (by omega) ?_) | (with_reducible refine ok.bs ?_) | (with_reducible refine ok.remM (by omega) (fun _ hq => ?_)) | (with_reducible refine ok.quoM (by omega) (fun _ hq => ?_)) | (with_reducible refine ok.ix (by omega) (by omega) (fun q hq he => ?_)))
    simp only [List.set_set, mkInt, Int.toNat_natCast, Int.add_assoc]
    rfl
  · intro k v hv
    unfold m_L_markIntS_b1
    rw [decide_eq_false (by show ¬ (a.length : Int) < (v.length : Int); omega)]; rfl
theorem heldIntS_eq {a : List Int} (ha : a.length ≤ 5000000) {k0 : Int} (h0 : 1 ≤ k0 ∧ k0 ≤ 10000000) : m_L_heldIntS N (mkL mkInt (fun _ => 1) a k0) k0 = some (k0 + ((1 * a.length : Nat) : Int)) := by
  unfold m_L_heldIntS
  have hc : ∀ xs : List Int, cL (fun _ => 1) xs = 1 * xs.length := cL_const _ (fun _ => rfl)
  rw [held_loop mkInt (fun _ => 1) a k0 (by omega)]
  · rw [hc]; rfl
  · intro i hi hx
    obtain ⟨hi', hx⟩ := List.getElem?_eq_some_iff.1 hx
    have hb : cL (fun _ => 1) (a.take i) = 1 * i := by rw [hc, List.length_take]; omega
    rw [hb] at hx
    simp only [hb]
    have hx' : ixI (mkL mkInt (fun _ => 1) a k0) (i : Int) = some (mkInt a[i] (k0 + ((1 * i : Nat) : Int))) := by rw [ixI_nat hi', hx]
    have hl := mkL_len mkInt (fun _ => 1) a k0
    show m_L_heldIntS_b1 N (mkL mkInt (fun _ => 1) a k0) (k0 + ((1 * i : Nat) : Int)) i = _
    refine ok.val ?_
    unfold m_L_heldIntS_b1
    simp only [mkInt] at hx'
    repeat' (first | (with_reducible refine ok.some ?_) | (with_reducible refine ok.ift rfl ?_) | (with_reducible refine ok.ift (by omega) ?_) | (with_reducible refine ok.eq hx' ?_) | (with_reducible refine ok.ite (fun hc => ?_) (fun hc => ?_)) | (with_reducible refine ok.cond (fun hc => ?_) (fun hc => ?_)) | (with_reducible refine ok.chk (by omega) ?_) | (with_reducible refine ok.bs ?_) | (with_reducible refine ok.remM (by omega) (fun _ hq => ?_)) | (with_reducible refine ok.quoM (by omega) (fun _ hq => ?_)) | (with_reducible refine ok.ix (by omega) (by omega) (fun q hq he => ?_)))
    simp only [Int.add_assoc]; rfl
  · intro k
    unfold m_L_heldIntS_b1
    have hl := mkL_len mkInt (fun _ => 1) a k0
    rw [decide_eq_false (by show ¬ (a.length : Int) < _; omega)]; rfl
end
end V
end Go.Proofs.YtkjnnifnmoekjaaGreatDoor
namespace Go.Proofs.YtkjnnifnmoekjaaGreatDoor
namespace V
set_option linter.unusedVariables false
set_option linter.unusedSimpArgs false
set_option maxHeartbeats 1000000
/-- A number's four bytes. -/
def numB (n : Int) : List UInt8 := [i2b (48 + (n + 999999) / 200000), i2b (32 + (n + 999999) / 4000 % 50), i2b (32 + (n + 999999) / 80 % 50), i2b (32 + (n + 999999) % 80)]
/-- A value's bytes. -/
def keyB (v : I_Value) : List UInt8 := if v.kind = 0 then [97] else if v.kind = 1 then 98 :: numB v.num else 99 :: (bytesL v.text ++ [1])
/-- The key of one value. -/
def keyP (v : I_Value) : ByteArray := b2s (keyB v)
theorem b2s_app (xs ys : List UInt8) : b2s (xs ++ ys) = b2s xs ++ b2s ys := by
  apply ByteArray.ext
  rw [ByteArray.data_append]
  unfold b2s
  simp
theorem b2s_bytes (u : ByteArray) : b2s (bytesL u) = u := by
  apply ByteArray.ext
  unfold b2s bytesL
  simp
section
variable {N : Nat} (hN : 100000000 ≤ N)
include hN
omit hN in
theorem encodeNum_ok {n : Int} (h : -999999 ≤ n ∧ n ≤ 999999) : m_S_encodeNum N n = some (b2s (numB n)) := by
  refine ok.val ?_
  unfold m_S_encodeNum numB
  refine ok.chk (by omega) ?_
  refine ok.eq (quoM_eq (by omega)) (ok.chk (by omega) (ok.eq (quoM_eq (by omega)) (ok.eq (remM_eq (by omega)) (ok.chk (by omega) (ok.eq (quoM_eq (by omega)) (ok.eq (remM_eq (by omega)) (ok.chk (by omega) (ok.eq (remM_eq (by omega)) (ok.chk (by omega) (ok.some rfl)))))))))) 
omit hN in
theorem loopM_1 {S β : Type} {body : S → Option (S ⊕ β)} {s s' : S} {b : β} (hN : 2 ≤ N) (h1 : body s = some (.inl s')) (h2 : body s' = some (.inr b)) : loopM body N s = some b := by
  obtain ⟨M, rfl⟩ : ∃ M, N = M + 2 := ⟨N - 2, by omega⟩
  unfold loopM
  rw [h1]
  show loopM body (M + 1) s' = _
  unfold loopM
  rw [h2]
theorem keyS {v : I_Value} (h : vV v) : m_S_encodeKey N [v] = some (keyP v) := by
  have h0 : ixI [v] (0 : Int) = some v := rfl
  have e0 : ByteArray.empty.size = 0 := rfl
  have e1 : (ByteArray.mk #[97]).size = 1 := rfl
  have e2 : (ByteArray.mk #[98]).size = 1 := rfl
  have e3 : (ByteArray.mk #[99]).size = 1 := rfl
  have e4 : (ByteArray.mk #[1]).size = 1 := rfl
  have hb : m_S_encodeKey_b1 N [v] ByteArray.empty 0 = some (.inl (keyP v, 1)) := by
    refine ok.val ?_
    unfold m_S_encodeKey_b1
    refine ok.ift (by simp) (ok.eq h0 ?_)
    unfold keyP keyB
    rcases h with ⟨k, n, t⟩ | ⟨k, n1, n2, t⟩ | ⟨k, n, t⟩
    · refine ok.ift k (ok.eq (addS_eq (by omega)) (ok.chk (by omega) (ok.some ?_)))
      rw [if_pos k]; rfl
    · have hl : (b2s (numB v.num)).size = 4 := rfl
      refine ok.iff (by omega) (ok.ift k (ok.eq (addS_eq (by omega)) (ok.eq h0 (ok.eq (encodeNum_ok ⟨n1, n2⟩) (ok.eq (addS_eq ?_) (ok.chk (by omega) (ok.some ?_)))))))
      · rw [ByteArray.size_append]; omega
      · have : b2s (98 :: numB v.num) = b2s ([98] ++ numB v.num) := rfl
        rw [if_neg (by omega), if_pos k, this, b2s_app]
        have : ByteArray.empty ++ ByteArray.mk #[98] = b2s [98] := rfl
        rw [this]; rfl
    · have hs := t.1
      refine ok.iff (by omega) (ok.iff (by omega) (ok.ift k (ok.eq (addS_eq (by omega)) (ok.eq h0 (ok.eq (addS_eq ?_) (ok.eq (addS_eq ?_) (ok.chk (by omega) (ok.some ?_))))))))
      · rw [ByteArray.size_append]; omega
      · rw [ByteArray.size_append, ByteArray.size_append]; omega
      · have : b2s (99 :: (bytesL v.text ++ [1])) = b2s ([99] ++ bytesL v.text ++ [1]) := rfl
        rw [if_neg (by omega), if_neg (by omega), this, b2s_app, b2s_app, b2s_bytes]
        have : ByteArray.empty ++ ByteArray.mk #[99] = b2s [99] := rfl
        rw [this]; rfl
  have he : m_S_encodeKey_b1 N [v] (keyP v) 1 = some (.inr (keyP v)) := by
    unfold m_S_encodeKey_b1
    rw [decide_eq_false (by simp)]; rfl
  unfold m_S_encodeKey
  rw [loopM_1 (by omega) hb he]; rfl
theorem keyI {v : I_Value} (h : vV v) (hbd : v.text.size ≤ 5000000) : m_I_EncodeKey N [v] = some (keyP v) := by
  have h0 : ixI [v] (0 : Int) = some v := rfl
  have hrow : m_I_validRow N [v] = some true := by
    have hb : m_I_validRow_b1 N [v] 0 = some (.inl 1) := by
      refine ok.val ?_
      unfold m_I_validRow_b1
      exact ok.ift (by simp) (ok.eq h0 (ok.eq (vVI hN hbd) (ok.ift h (ok.chk (by decide) (ok.some rfl)))))
    have he : m_I_validRow_b1 N [v] 1 = some (.inr (.inl ())) := rfl
    unfold m_I_validRow
    rw [decide_eq_false (by simp), cond_false, loopM_1 (by omega) hb he]; rfl
  have hb : m_I_EncodeKey_b1 N [v] 0 [] = some (.inl (1, keyB v)) := by
    refine ok.val ?_
    unfold m_I_EncodeKey_b1
    refine ok.ift (by simp) (ok.eq h0 ?_)
    unfold keyB numB
    rcases h with ⟨k, n, t⟩ | ⟨k, n1, n2, t⟩ | ⟨k, n, t⟩
    · refine ok.ift k (ok.app (by decide) (ok.chk (by decide) (ok.some ?_)))
      rw [if_pos k]; rfl
    · refine ok.iff (by omega) (ok.ift k (ok.chk (by omega) ?_))
      refine ok.eq (quoM_eq (by omega)) (ok.chk (by omega) (ok.eq (quoM_eq (by omega)) (ok.eq (remM_eq (by omega)) (ok.chk (by omega) (ok.eq (quoM_eq (by omega)) (ok.eq (remM_eq (by omega)) (ok.chk (by omega) (ok.eq (remM_eq (by omega)) (ok.chk (by omega) (ok.app ⟨by simp, by simp⟩ (ok.chk (by decide) (ok.some ?_))))))))))))
      rw [if_neg (by omega), if_pos k]; rfl
    · have hs := t.1
      have hl := bytesL_len v.text
      refine ok.iff (by omega) (ok.iff (by omega) (ok.app ⟨by simp, by simp⟩ (ok.app ⟨?_, ?_⟩ (ok.app ⟨?_, ?_⟩ (ok.chk (by decide) (ok.some ?_))))))
      · simp only [List.nil_append, List.length_cons, List.length_nil, hl]; omega
      · simp only [List.nil_append, List.length_cons, List.length_nil, hl]; omega
      · simp only [List.nil_append, List.length_append, List.length_cons, List.length_nil, hl]; omega
      · simp only [List.nil_append, List.length_append, List.length_cons, List.length_nil, hl]; omega
      · rw [if_neg (by omega), if_neg (by omega)]; rfl
  have he : m_I_EncodeKey_b1 N [v] 1 (keyB v) = some (.inr (keyB v)) := by
    unfold m_I_EncodeKey_b1
    rw [decide_eq_false (by simp)]; rfl
  unfold m_I_EncodeKey
  rw [hrow]
  show (loopM _ N _).bind _ = _
  rw [loopM_1 (s' := ((1 : Int), keyB v)) (by omega) hb he]; rfl
end
end V
end Go.Proofs.YtkjnnifnmoekjaaGreatDoor
namespace Go.Proofs.YtkjnnifnmoekjaaGreatDoor
namespace V
set_option linter.unusedVariables false
set_option linter.unusedSimpArgs false
set_option maxHeartbeats 1000000
theorem bl_asym {x y : List UInt8} (h : Op.bytesLess x y = true) : Op.bytesLess y x = false := by
  have := bl_total x y
  rw [h, Bool.true_or] at this
  simpa using this.symm
section
variable {α : Type} {lt : α → α → Bool}
/-- x goes ahead of the last ones that are greater. -/
def insR (lt : α → α → Bool) (x : α) (l : List α) : List α := (l.reverse.dropWhile (lt x)).reverse ++ x :: (l.reverse.takeWhile (lt x)).reverse
theorem insR_t {x q : α} {l : List α} (h : lt x q = true) : insR lt x (l ++ [q]) = insR lt x l ++ [q] := by
  simp [insR, List.takeWhile_cons, List.dropWhile_cons, h]
theorem insR_f {x q : α} {l : List α} (h : lt x q = false) : insR lt x (l ++ [q]) = l ++ [q] ++ [x] := by
  simp [insR, List.takeWhile_cons, List.dropWhile_cons, h]
theorem insR_perm (x : α) (l : List α) : (insR lt x l).Perm (x :: l) := by
  have h : (l.reverse.dropWhile (lt x)).reverse ++ (l.reverse.takeWhile (lt x)).reverse = l := by
    rw [← List.reverse_append, List.takeWhile_append_dropWhile, List.reverse_reverse]
  have h2 : (insR lt x l).Perm (x :: ((l.reverse.dropWhile (lt x)).reverse ++ (l.reverse.takeWhile (lt x)).reverse)) := List.perm_middle
  rwa [h] at h2
theorem snoc_cases (l : List α) : l = [] ∨ ∃ A q, l = A ++ [q] := by
  rcases h : l.reverse with _ | ⟨q, A⟩
  · exact .inl (by simpa using h)
  · exact .inr ⟨A.reverse, q, by rw [← List.reverse_reverse l, h]; simp⟩
/-- All put in, one after the other. -/
def insA (lt : α → α → Bool) (l : List α) : List α := l.foldl (fun S p => insR lt p S) []
theorem insA_snoc (l : List α) (x : α) : insA lt (l ++ [x]) = insR lt x (insA lt l) := by simp [insA]
theorem insA_take {l : List α} {i : Nat} (h : i < l.length) : insA lt (l.take (i + 1)) = insR lt l[i] (insA lt (l.take i)) := by
  rw [take_succ1 h, insA_snoc]
theorem insA_perm : ∀ (n : Nat) (l : List α), l.length = n → (insA lt l).Perm l
  | 0, l, h => by
    obtain rfl := List.eq_nil_of_length_eq_zero h
    exact .refl _
  | n + 1, l, h => by
    rcases snoc_cases l with rfl | ⟨A, q, rfl⟩
    · simp at h
    rw [insA_snoc]
    refine (insR_perm q _).trans (((insA_perm n A (by simpa using h)).cons q).trans ?_)
    exact List.perm_append_singleton q A |>.symm
theorem insA_len (l : List α) : (insA lt l).length = l.length := (insA_perm _ l rfl).length_eq
/-- The loop that lets one sink in. -/
theorem insR_loop {x : α} {body : Int × List α → Option ((Int × List α) ⊕ List α)} {G : α → Prop} {m : Nat}
    (h1 : ∀ A q C, (A ++ q :: x :: C).length = m → G q → lt x q = true → body (((A.length + 1 : Nat) : Int), A ++ q :: x :: C) = some (.inl ((A.length : Int), A ++ x :: q :: C)))
    (h2 : ∀ A q C, (A ++ q :: x :: C).length = m → G q → lt x q = false → body (((A.length + 1 : Nat) : Int), A ++ q :: x :: C) = some (.inr (A ++ q :: x :: C)))
    (h3 : ∀ C, (x :: C).length = m → body (0, x :: C) = some (.inr (x :: C))) :
    ∀ (n N : Nat) (A C : List α), A.length = n → (A ++ x :: C).length = m → n < N → (∀ q ∈ A, G q) → loopM body N ((A.length : Int), A ++ x :: C) = some (insR lt x A ++ C)
  | n, 0, A, C, _, _, h, _ => by omega
  | 0, N + 1, A, C, hA, hm, _, _ => by
    obtain rfl := List.eq_nil_of_length_eq_zero hA
    unfold loopM
    have e : body ((([] : List α).length : Int), [] ++ x :: C) = some (.inr (x :: C)) := h3 C hm
    rw [e]; rfl
  | n + 1, N + 1, A, C, hA, hm, hN, hG => by
    rcases snoc_cases A with rfl | ⟨B, q, rfl⟩
    · simp at hA
    have hB : B.length = n := by simpa using hA
    have hm' : (B ++ q :: x :: C).length = m := by rw [← hm]; simp
    have hq := hG q (by simp)
    have e0 : B ++ [q] ++ x :: C = B ++ q :: x :: C := by simp
    have e1 : (((B ++ [q]).length : Nat) : Int) = ((B.length + 1 : Nat) : Int) := by simp
    unfold loopM
    rw [e0, e1]
    cases hl : lt x q with
    | true =>
      rw [h1 B q C hm' hq hl]
      show loopM body N ((B.length : Int), B ++ x :: q :: C) = _
      rw [insR_loop h1 h2 h3 n N B (q :: C) hB (by rw [← hm']; simp) (by omega) (fun a ha => hG a (by simp [ha])), insR_t hl]
      simp
    | false =>
      rw [h2 B q C hm' hq hl, insR_f hl]
      simp
end
/-- What the functions do where they change places. -/
theorem swap_set {α : Type} (A C : List α) (q x : α) : ((A ++ q :: x :: C).set (A.length + 1) q).set A.length x = A ++ x :: q :: C := by
  rw [List.set_append_right _ _ (by omega), List.set_append_right _ _ (by simp)]
  simp
theorem at_0 {α : Type} (A C : List α) (q : α) : ixI (A ++ q :: C) ((A.length : Nat) : Int) = some q := by
  rw [ixI_nat (by simp)]; simp
theorem at_1 {α : Type} (A C : List α) (q x : α) : ixI (A ++ q :: x :: C) ((A.length + 1 : Nat) : Int) = some x := by
  rw [ixI_nat (by simp)]; simp
end V
end Go.Proofs.YtkjnnifnmoekjaaGreatDoor
namespace Go.Proofs.YtkjnnifnmoekjaaGreatDoor
namespace V
set_option linter.unusedVariables false
set_option linter.unusedSimpArgs false
end V
end Go.Proofs.YtkjnnifnmoekjaaGreatDoor
namespace Go.Proofs.YtkjnnifnmoekjaaGreatDoor
namespace V
set_option linter.unusedVariables false
set_option linter.unusedSimpArgs false
set_option maxHeartbeats 1000000
/-- A value that is not too large. -/
def bV (v : I_Value) : Prop := (-1000000000 ≤ v.num ∧ v.num ≤ 1000000000) ∧ v.text.size ≤ 5000000
def bFm (f : List I_Column) (n : Nat) : Prop := f.length ≤ n ∧ ∀ c ∈ f, bV c.default
section
variable {N : Nat} (hN : 100000000 ≤ N)
include hN
end
end V
end Go.Proofs.YtkjnnifnmoekjaaGreatDoor
namespace Go.Proofs.YtkjnnifnmoekjaaGreatDoor
namespace V
set_option linter.unusedVariables false
set_option linter.unusedSimpArgs false
set_option maxHeartbeats 1000000
def rOk (l : List I_Tagged) (n : Nat) : Prop := l.length ≤ n ∧ ∀ r ∈ l, r.row.length ≤ 6 ∧ ∀ v ∈ r.row, bV v
/-- A table that is drawn is small. -/
def dT (t : I_Table) : Prop := bFm t.first 6 ∧ (t.changes.length ≤ 9 ∧ ∀ c ∈ t.changes, bV c.column.default) ∧ rOk t.rows 11
section
variable {N : Nat} (hN : 100000000 ≤ N)
include hN
end
end V
end Go.Proofs.YtkjnnifnmoekjaaGreatDoor
namespace Go.Proofs.YtkjnnifnmoekjaaGreatDoor
namespace V
set_option linter.unusedVariables false
set_option linter.unusedSimpArgs false
set_option maxHeartbeats 1000000
def l01 (b : Bool) : Int := bif b then 1 else 0
def ltB (a b : ByteArray) : Bool := Op.bytesLess a.toList b.toList
theorem ltB_asym {a b : ByteArray} (h : ltB a b = true) : ltB b a = false := by
  have := bl_total a.toList b.toList
  unfold ltB at *
  rw [h, Bool.true_or] at this
  simpa using this.symm
theorem ltB_self (a : ByteArray) : ltB a a = false := by
  cases h : ltB a a
  · rfl
  · have := ltB_asym h; rw [h] at this; cases this
/-- Two values compared. -/
def sc (a b : I_Value) : Int := bif decide (a.kind = b.kind) then (bif decide (a.num = b.num) then l01 (ltB b.text a.text) - l01 (ltB a.text b.text) else l01 (decide (b.num < a.num)) - l01 (decide (a.num < b.num))) else l01 (decide (b.kind < a.kind)) - l01 (decide (a.kind < b.kind))
theorem sc_anti (a b : I_Value) : sc a b = - sc b a := by
  unfold sc
  by_cases h : a.kind = b.kind
  · by_cases h2 : a.num = b.num
    · simp only [h, h2, decide_true, cond_true]; omega
    · have h2' : ¬ b.num = a.num := fun e => h2 e.symm
      simp only [h, h2, h2', decide_true, cond_true, decide_false, cond_false]; omega
  · have h' : ¬ b.kind = a.kind := fun e => h e.symm
    simp only [h, h', decide_false, cond_false]; omega
theorem l01_bd (b : Bool) : 0 ≤ l01 b ∧ l01 b ≤ 1 := by cases b <;> decide
theorem l01_cmp {a b : Bool} (h : a = true → b = false) : (bif a then (-1 : Int) else bif b then 1 else 0) = l01 b - l01 a := by
  cases a
  · cases b <;> rfl
  · rw [h rfl]; rfl
/-- The value of a row in a column of the last format. -/
def cv (t : I_Table) (c : Nat) (r : I_Tagged) : I_Value := ((adv t r)[c]?).getD ⟨0, 0, ByteArray.empty⟩
theorem cv_get {t : I_Table} (h : tV t) {i c : Nat} (hi : i < t.rows.length) (hc : c < (fL t).length) : ∃ h : c < (adv t t.rows[i]).length, cv t c t.rows[i] = (adv t t.rows[i])[c] ∧ vV (cv t c t.rows[i]) := by
  have hf := adv_fit h (h.2.2 i hi)
  have hl : c < (adv t t.rows[i]).length := by rw [hf.1]; exact hc
  have e : cv t c t.rows[i] = (adv t t.rows[i])[c] := by unfold cv; rw [List.getElem?_eq_getElem hl]; rfl
  exact ⟨hl, e, e ▸ (hf.2 c hl hc).1⟩
/-- There is such a column. -/
def hasC (t : I_Table) (c : Int) : Prop := tV t ∧ 0 ≤ c ∧ c < (fL t).length
noncomputable instance (t : I_Table) (c : Int) : Decidable (hasC t c) := Classical.propDecidable _
def btw (t : I_Table) (c : Nat) (lo hi : I_Value) (i : Nat) : Bool := match t.rows[i]? with
  | some r => decide (sc lo (cv t c r) ≤ 0) && decide (sc (cv t c r) hi ≤ 0)
  | none => false
def okSc (t : I_Table) (c : Int) (lo hi : I_Value) : Prop := hasC t c ∧ vV lo ∧ vV hi
noncomputable instance (t : I_Table) (c : Int) (lo hi : I_Value) : Decidable (okSc t c lo hi) := Classical.propDecidable _
def found (t : I_Table) (c : Nat) (lo hi : I_Value) (n : Nat) : List Int := ((List.range n).filter (btw t c lo hi)).map Int.ofNat
theorem found_len (t : I_Table) (c : Nat) (lo hi : I_Value) (n : Nat) : (found t c lo hi n).length ≤ n := by
  unfold found; rw [List.length_map]
  have := List.length_filter_le (btw t c lo hi) (List.range n)
  rw [List.length_range] at this; exact this
theorem found_succ (t : I_Table) (c : Nat) (lo hi : I_Value) (n : Nat) : found t c lo hi (n + 1) = found t c lo hi n ++ (if btw t c lo hi n = true then [(n : Int)] else []) := by
  unfold found
  rw [List.range_succ, List.filter_append, List.map_append]
  by_cases h : btw t c lo hi n = true <;> simp [h]
theorem btw_at {t : I_Table} {c : Nat} {lo hi : I_Value} {i : Nat} (h : i < t.rows.length) : btw t c lo hi i = (decide (sc lo (cv t c t.rows[i]) ≤ 0) && decide (sc (cv t c t.rows[i]) hi ≤ 0)) := by
  unfold btw; rw [List.getElem?_eq_getElem h]
noncomputable def scanP (t : I_Table) (c : Int) (lo hi : I_Value) : List Int := if okSc t c lo hi then found t c.toNat lo hi t.rows.length else []
section
variable {N : Nat} (hN : 100000000 ≤ N)
include hN
omit hN in
theorem cmpII (a b : Int) : m_cmp_Compare_int_ N a b = some (l01 (decide (b < a)) - l01 (decide (a < b))) := by
  have e : m_cmp_Compare_int_ N a b = some (bif decide (a < b) then (-1 : Int) else bif decide (b < a) then 1 else 0) := by
    unfold m_cmp_Compare_int_ m_cmp_isNaN_int_
    simp only [decide_true, Bool.not_true, Option.bind_some, cond_false]
    cases decide (a < b) <;> cases decide (b < a) <;> rfl
  rw [e, l01_cmp fun h => decide_eq_false (by have := of_decide_eq_true h; omega)]
omit hN in
theorem cmpSS (a b : ByteArray) : m_cmp_Compare_string_ N a b = some (l01 (ltB b a) - l01 (ltB a b)) := by
  have e : m_cmp_Compare_string_ N a b = some (bif ltB a b then (-1 : Int) else bif ltB b a then 1 else 0) := by
    unfold m_cmp_Compare_string_ m_cmp_isNaN_string_ ltB
    simp only [beq_self_eq_true, Bool.not_true, Option.bind_some, cond_false]
    cases Op.bytesLess a.toList b.toList <;> cases Op.bytesLess b.toList a.toList <;> rfl
  rw [e, l01_cmp fun h => ltB_asym h]
omit hN in
theorem compI {v w : I_Value} (hv : vV v) (hw : vV w) : m_I_Value_compare N v w = some (sc v w) := by
  unfold m_I_Value_compare sc
  by_cases k : v.kind = w.kind
  · rw [decide_eq_true k, cond_true, cond_true]
    by_cases k1 : v.kind = 1
    · have t1 : v.text = ByteArray.empty := by rcases hv with h | h | h; omega; exact h.2.2.2; omega
      have t2 : w.text = ByteArray.empty := by rcases hw with h | h | h; omega; exact h.2.2.2; omega
      rw [decide_eq_true k1, cond_true, cmpII]
      by_cases n : v.num = w.num
      · rw [decide_eq_true n, cond_true, t1, t2, ltB_self, n]
        have : ¬ w.num < w.num := by omega
        rw [decide_eq_false this]; rfl
      · rw [decide_eq_false n, cond_false]; rfl
    · have n1 : v.num = w.num := by rcases hv with h | h | h <;> rcases hw with g | g | g <;> omega
      rw [decide_eq_false k1, cond_false, decide_eq_true n1, cond_true, cmpSS]; rfl
  · rw [decide_eq_false k, cond_false, cond_false, cmpII]; rfl
omit hN in
theorem toI (b : Bool) : m_S_toInt N b = some (l01 b) := by cases b <;> rfl
omit hN in
theorem compS (v w : I_Value) : m_S_compare N v w = some (sc v w) := by
  refine ok.val ?_
  unfold m_S_compare sc
  have hb := fun b => l01_bd b
  refine ok.ite (fun k => ?_) fun k => ?_
  · rw [decide_eq_true k, cond_true]
    refine ok.ite (fun n => ?_) fun n => ?_
    · rw [decide_eq_true n, cond_true]
      refine ok.eq (toI _) (ok.eq (toI _) (ok.chk ?_ (ok.some rfl)))
      have h1 := hb (Op.bytesLess w.text.toList v.text.toList)
      have h2 := hb (Op.bytesLess v.text.toList w.text.toList)
      omega
    · rw [decide_eq_false n, cond_false]
      refine ok.eq (toI _) (ok.eq (toI _) (ok.chk ?_ (ok.some rfl)))
      have h1 := hb (decide (w.num < v.num))
      have h2 := hb (decide (v.num < w.num))
      omega
  · rw [decide_eq_false k, cond_false]
    refine ok.eq (toI _) (ok.eq (toI _) (ok.chk ?_ (ok.some rfl)))
    have h1 := hb (decide (w.kind < v.kind))
    have h2 := hb (decide (v.kind < w.kind))
    omega
theorem colI {t : I_Table} (hb : bT t) (c : Int) : m_I_columnOf N t c = some (if hasC t c then (t.rows.map (cv t c.toNat), true) else ([], false)) := by
  have hrl := hb.rl
  refine ok.val ?_
  unfold m_I_columnOf
  refine ok.eq (lastI hN hb) ?_
  by_cases hv : tV t
  · rw [if_pos hv]
    refine ok.bt rfl (ok.ite (fun h => ok.some ?_) fun h => ok.ite (fun h2 => ok.some ?_) fun h2 => ok.eq (rowsI hN hb) ?_)
    · rw [if_neg fun e : hasC t c => by have := e.2.1; omega]
    · dsimp only at h2
      rw [if_neg fun e : hasC t c => by have := e.2.2; omega]
    · dsimp only at h2
      have hh : hasC t c := ⟨hv, by omega, by omega⟩
      rw [if_pos hh]
      have e0 : tR t = t.rows.map (adv t) := by unfold tR; rw [if_pos hv]
      rw [e0]
      refine ok.call (P := fun o => o = t.rows.map (cv t c.toNat)) (ok.each t.rows.length (fun i s => s = ((i : Int), (t.rows.take i).map (cv t c.toNat))) _ ?_ ?_ N 0 _ (Nat.zero_le _) rfl (by omega)) ?_
      · rintro i s hi rfl
        show ok (m_I_columnOf_b1 N c _ (i : Int) _) _
        unfold m_I_columnOf_b1
        obtain ⟨h3, h4, _⟩ := cv_get hv (c := c.toNat) hi (by omega)
        have e1 : ixI (t.rows.map (adv t)) (i : Int) = some (adv t t.rows[i]) := by rw [ixI_nat (by simpa using hi)]; simp
        refine ok.ift (by simpa using hi) (ok.eq e1 (ok.eq (ixI_eq (n := c.toNat) (by omega) h3) (ok.app (by simp; omega) (ok.chk (by omega) (ok.some ?_)))))
        rw [map_take _ hi, h4]; simp
      · rintro s rfl
        show ok (m_I_columnOf_b1 N c _ _ _) _
        unfold m_I_columnOf_b1
        refine ok.iff (by simp) (ok.some ?_)
        rw [List.take_length]
      · rintro o rfl
        exact ok.some rfl
  · rw [if_neg hv, if_neg fun e : hasC t c => hv e.1]
    exact ok.bf rfl (ok.some rfl)
theorem scanI {t : I_Table} (hb : bT t) (c : Int) {lo hi : I_Value} (hlo : lo.text.size ≤ 5000000) (hhi : hi.text.size ≤ 5000000) : m_I_ScanTable N t c lo hi = some (scanP t c lo hi) := by
  have hrl := hb.rl
  refine ok.val ?_
  unfold m_I_ScanTable scanP
  refine ok.eq (colI hN hb c) ?_
  by_cases hc : hasC t c
  · rw [if_pos hc]
    refine ok.bt rfl (ok.eq (vVI hN hlo) (ok.ite (fun h1 => ok.eq (vVI hN hhi) (ok.ite (fun h2 => ?_) fun h2 => ok.some ?_)) fun h1 => ok.some ?_))
    · rw [if_pos (show okSc t c lo hi from ⟨hc, h1, h2⟩)]
      refine ok.call (P := fun o => o = found t c.toNat lo hi t.rows.length) (ok.each t.rows.length (fun i s => s = ((i : Int), found t c.toNat lo hi i)) _ ?_ ?_ N 0 _ (Nat.zero_le _) rfl (by omega)) ?_
      · rintro i s hi' rfl
        show ok (m_I_ScanTable_b1 N lo hi _ (i : Int) _) _
        unfold m_I_ScanTable_b1
        have hl := found_len t c.toNat lo hi i
        obtain ⟨_, _, h5⟩ := cv_get hc.1 (c := c.toNat) hi' (by have := hc.2.2; have := hc.2.1; omega)
        have e1 : ixI (t.rows.map (cv t c.toNat)) (i : Int) = some (cv t c.toNat t.rows[i]) := by rw [ixI_nat (by simpa using hi')]; simp
        have ha := sc_anti (cv t c.toNat t.rows[i]) lo
        have hbt := btw_at (t := t) (c := c.toNat) (lo := lo) (hi := hi) hi'
        rw [found_succ]
        refine ok.ift (by simpa using hi') (ok.eq e1 (ok.eq (compI h5 h1) (ok.ite (fun h6 => ok.eq (compI h5 h2) (ok.ite (fun h7 => ok.app (by dsimp only; simp only [List.length_singleton]; omega) (ok.chk (by omega) (ok.some ?_))) fun h7 => ok.chk (by omega) (ok.some ?_))) fun h6 => ok.chk (by omega) (ok.some ?_))))
        · rw [if_pos (by rw [hbt, decide_eq_true (by omega), decide_eq_true h7]; rfl)]; simp
        · rw [if_neg (by rw [hbt, decide_eq_false h7]; simp)]; simp
        · rw [if_neg (by rw [hbt, decide_eq_false (by omega)]; simp)]; simp
      · rintro s rfl
        show ok (m_I_ScanTable_b1 N lo hi _ _ _) _
        unfold m_I_ScanTable_b1
        exact ok.iff (by simp) (ok.some rfl)
      · rintro o rfl
        exact ok.some rfl
    · rw [if_neg fun e : okSc t c lo hi => h2 e.2.2]
    · rw [if_neg fun e : okSc t c lo hi => h1 e.2.1]
  · rw [if_neg hc, if_neg fun e : okSc t c lo hi => hc e.1]
    exact ok.bf rfl (ok.some rfl)
theorem scanS {t : I_Table} (hb : bT t) (c : Int) {lo hi : I_Value} (hlo : lo.text.size ≤ 5000000) (hhi : hi.text.size ≤ 5000000) : m_S_ScanTable N t c lo hi = some (scanP t c lo hi) := by
  have hrl := hb.rl
  refine ok.val ?_
  unfold m_S_ScanTable scanP
  refine ok.eq (validTS hN hb) (ok.ite (fun hv => ?_) fun hv => ok.some (by rw [if_neg fun e : okSc t c lo hi => hv e.1.1]))
  have hw : m_S_width N t = some ((fL t).length : Int) := by
    refine ok.val ?_
    unfold m_S_width
    refine ok.eq (formatsS hN hb.f.1 (vF_bN hv.1.1) hb.c) ?_
    rw [if_pos hv.1.2.2]
    exact ok.eq (chs_ix rfl (Nat.le_refl _)) (ok.some rfl)
  have hfl := (fL_v hv).1
  refine ok.eq hw (ok.chk (by omega) (ok.eq (inRange_eq N _ _ _) (ok.ite (fun hr => ok.eq (vVS hN hlo) (ok.ite (fun h1 => ok.eq (vVS hN hhi) (ok.ite (fun h2 => ok.eq (latestS hN hv) ?_) fun h2 => ok.some ?_)) fun h1 => ok.some ?_)) fun hr => ok.some ?_)))
  · have hc : hasC t c := ⟨hv, hr.1, by omega⟩
    rw [if_pos (show okSc t c lo hi from ⟨hc, h1, h2⟩)]
    refine ok.call (P := fun o => o = found t c.toNat lo hi t.rows.length) (ok.each t.rows.length (fun i s => s = ((i : Int), found t c.toNat lo hi i)) _ ?_ ?_ N 0 _ (Nat.zero_le _) rfl (by omega)) ?_
    · rintro i s hi' rfl
      show ok (m_S_ScanTable_b1 N c lo hi _ (i : Int) _) _
      unfold m_S_ScanTable_b1
      have hl := found_len t c.toNat lo hi i
      obtain ⟨h3, h4, h5⟩ := cv_get hc.1 (c := c.toNat) hi' (by omega)
      have e1 : ixI (t.rows.map (adv t)) (i : Int) = some (adv t t.rows[i]) := by rw [ixI_nat (by simpa using hi')]; simp
      have e2 : ixI (adv t t.rows[i]) c = some (cv t c.toNat t.rows[i]) := by rw [ixI_eq (n := c.toNat) (by omega) h3, h4]
      have hbt := btw_at (t := t) (c := c.toNat) (lo := lo) (hi := hi) hi'
      rw [found_succ]
      refine ok.ift (by simpa using hi') (ok.eq e1 (ok.eq e2 (ok.eq (compS _ _) (ok.ite (fun h6 => ok.eq e2 (ok.eq (compS _ _) (ok.ite (fun h7 => ok.app (by dsimp only; simp only [List.length_singleton]; omega) (ok.chk (by omega) (ok.some ?_))) fun h7 => ok.chk (by omega) (ok.some ?_)))) fun h6 => ok.chk (by omega) (ok.some ?_)))))
      · rw [if_pos (by rw [hbt, decide_eq_true h6, decide_eq_true h7]; rfl)]; simp
      · rw [if_neg (by rw [hbt, decide_eq_false h7]; simp)]; simp
      · rw [if_neg (by rw [hbt, decide_eq_false h6]; simp)]; simp
    · rintro s rfl
      show ok (m_S_ScanTable_b1 N c lo hi _ _ _) _
      unfold m_S_ScanTable_b1
      exact ok.iff (by simp) (ok.some rfl)
    · rintro o rfl
      exact ok.some rfl
  · rw [if_neg fun e : okSc t c lo hi => h2 e.2.2]
  · rw [if_neg fun e : okSc t c lo hi => h1 e.2.1]
  · rw [if_neg fun e : okSc t c lo hi => hr ⟨e.1.2.1, by have := e.1.2.2; omega⟩]
omit hN in
theorem scan_len (t : I_Table) (c : Int) (lo hi : I_Value) : (scanP t c lo hi).length ≤ 10 := by
  unfold scanP
  split
  · rename_i h
    have := found_len t c.toNat lo hi t.rows.length
    have := h.1.1.2.1
    omega
  · exact Nat.zero_le _
end
end V
end Go.Proofs.YtkjnnifnmoekjaaGreatDoor
namespace Go.Proofs.YtkjnnifnmoekjaaGreatDoor
namespace V
set_option linter.unusedVariables false
set_option linter.unusedSimpArgs false
set_option maxHeartbeats 1000000
/-- The values of a column. -/
def cvs (t : I_Table) (c : Nat) : List I_Value := t.rows.map (cv t c)
/-- A key and its row. -/
def prOf (vs : List I_Value) (i : Nat) : I_Pair := ⟨keyP ((vs[i]?).getD ⟨0, 0, ByteArray.empty⟩), i⟩
def prs (vs : List I_Value) (n : Nat) : List I_Pair := (List.range n).map (prOf vs)
theorem prs_len (vs : List I_Value) (n : Nat) : (prs vs n).length = n := by unfold prs; simp
theorem prs_succ (vs : List I_Value) (n : Nat) : prs vs (n + 1) = prs vs n ++ [prOf vs n] := by unfold prs; rw [List.range_succ, List.map_append]; rfl
theorem prs_row (vs : List I_Value) (n : Nat) : (prs vs n).Pairwise fun a b => a.row < b.row := by
  unfold prs
  rw [List.pairwise_map]
  exact List.pairwise_lt_range.imp fun {a b} h => by show ((a : Nat) : Int) < ((b : Nat) : Int); omega
def ltK (p q : I_Pair) : Bool := ltB p.key q.key
theorem ltK_asym (a b : I_Pair) (h : ltK a b = true) : ltK b a = false := bl_asym h
/-- The pairs of a column in the order of their keys. -/
noncomputable def indexP (t : I_Table) (c : Int) : List I_Pair := if hasC t c then insA ltK (prs (cvs t c.toNat) t.rows.length) else []
theorem indexP_len (t : I_Table) (c : Int) : (indexP t c).length ≤ 10 := by
  unfold indexP
  split
  · rename_i h
    rw [insA_len, prs_len]; exact h.1.2.1
  · exact Nat.zero_le _
theorem l01_lt' {a b : Bool} (h : b = true → a = false) : decide (l01 a - l01 b < 0) = b := by
  cases b
  · cases a <;> rfl
  · rw [h rfl]; rfl
/-- One value's pair. -/
theorem prOf_at {t : I_Table} {c i : Nat} (hi : i < t.rows.length) : prOf (cvs t c) i = ⟨keyP (cv t c t.rows[i]), i⟩ := by
  unfold prOf cvs
  rw [List.getElem?_map, List.getElem?_eq_getElem hi]; rfl
section
variable {N : Nat} (hN : 100000000 ≤ N)
include hN
theorem or2 (x y : Int) : m_cmp_Or_int_ N [x, y] = some (if x = 0 then y else x) := by
  obtain ⟨M, rfl⟩ : ∃ M, N = M + 3 := ⟨N - 3, by omega⟩
  refine ok.val ?_
  unfold m_cmp_Or_int_
  have b0 : m_cmp_Or_int__b1 (M + 3) [x, y] 0 = if x = 0 then some (.inl 1) else some (.inr (.inr x)) := by
    unfold m_cmp_Or_int__b1
    by_cases h : x = 0
    · subst h; rfl
    · rw [if_neg h]
      show (_root_.cond (decide (x = 0)) _ _ : Option _) = _
      rw [decide_eq_false h]; rfl
  have b1 : m_cmp_Or_int__b1 (M + 3) [x, y] 1 = if y = 0 then some (.inl 2) else some (.inr (.inr y)) := by
    unfold m_cmp_Or_int__b1
    by_cases h : y = 0
    · subst h; rfl
    · rw [if_neg h]
      show (_root_.cond (decide (y = 0)) _ _ : Option _) = _
      rw [decide_eq_false h]; rfl
  have b2 : m_cmp_Or_int__b1 (M + 3) [x, y] 2 = some (.inr (.inl ())) := rfl
  unfold loopM
  rw [b0]
  by_cases h : x = 0
  · rw [if_pos h, if_pos h]
    show ok ((loopM (fun s : Int => m_cmp_Or_int__b1 (M + 3) [x, y] s) (M + 2) 1).bind _) _
    unfold loopM
    rw [b1]
    by_cases h2 : y = 0
    · rw [if_pos h2]
      show ok ((loopM (fun s : Int => m_cmp_Or_int__b1 (M + 3) [x, y] s) (M + 1) 2).bind _) _
      unfold loopM
      rw [b2]
      exact ok.some h2.symm
    · rw [if_neg h2]
      exact ok.some rfl
  · rw [if_neg h, if_neg h]
    exact ok.some rfl
/-- The comparison that the program sorts by. -/
theorem cmpP (a b : I_Pair) : m_I_IndexColumn_1 N a b = some (if l01 (ltK b a) - l01 (ltK a b) = 0 then l01 (decide (b.row < a.row)) - l01 (decide (a.row < b.row)) else l01 (ltK b a) - l01 (ltK a b)) := by
  unfold m_I_IndexColumn_1 m_I_CompareKeys
  rw [cmpSS, cmpII]
  simp only [Option.bind_some]
  rw [or2 hN]; rfl
theorem cmpP_lt {a b : I_Pair} (h : b.row < a.row) : ok (m_I_IndexColumn_1 N a b) fun r => decide (r < 0) = ltK a b := by
  rw [cmpP hN]
  refine ok.some ?_
  split
  · rename_i h0
    have h1 : ltK a b = false := by
      cases h1 : ltK a b
      · rfl
      · rw [h1, ltK_asym a b h1] at h0; revert h0; decide
    rw [h1, decide_eq_true h, decide_eq_false (show ¬ a.row < b.row by omega)]; rfl
  · exact l01_lt' fun h => ltK_asym a b h
theorem ins_round {P : List I_Pair} (hl : P.length ≤ 12) {x : I_Pair} {A C : List I_Pair} (hm : (A ++ x :: C).length = P.length) (hr : ∀ q ∈ A, q.row < x.row) :
    loopM (β := (List I_Pair)) (fun s : Int × (List I_Pair) => m_slices_insertionSortCmpFunc_I_Pair__b3 N (fun a0 a1 => m_I_IndexColumn_1 N a0 a1) 0 s.1 s.2) N ((A.length : Int), A ++ x :: C) = some (insR ltK x A ++ C) := by
  have hAl : A.length < P.length := by rw [← hm]; simp
  refine insR_loop (G := fun q => q.row < x.row) (m := P.length) ?_ ?_ ?_ A.length N A C rfl hm (by omega) hr
  · intro B q D hB hq hlt
    have hb : B.length + 1 < P.length := by rw [← hB]; simp
    have e : ((B.length + 1 : Nat) : Int) - 1 = (B.length : Int) := by omega
    show m_slices_insertionSortCmpFunc_I_Pair__b3 N _ 0 ((B.length + 1 : Nat) : Int) (B ++ q :: x :: D) = _
    unfold m_slices_insertionSortCmpFunc_I_Pair__b3
    refine ok.val (ok.ift (by omega) (ok.eq (at_1 B D q x) (ok.chk (by omega) ?_)))
    rw [e]
    refine ok.eq (at_0 B (x :: D) q) (ok.call (cmpP_lt hN hq) fun r hrr => ok.bt (hrr.trans hlt) (ok.chk (by omega) (ok.chk (by omega) ?_)))
    refine ok.eq (at_0 B (x :: D) q) (ok.eq (at_1 B D q x) (ok.eq (v := q) ?_ (ok.chk (by omega) (ok.some ?_))))
    · rw [Int.toNat_natCast]
      rw [ixI_nat (by simp)]
      simp
    · rw [Int.toNat_natCast, Int.toNat_natCast, swap_set]
  · intro B q D hB hq hlt
    have hb : B.length + 1 < P.length := by rw [← hB]; simp
    have e : ((B.length + 1 : Nat) : Int) - 1 = (B.length : Int) := by omega
    show m_slices_insertionSortCmpFunc_I_Pair__b3 N _ 0 ((B.length + 1 : Nat) : Int) (B ++ q :: x :: D) = _
    unfold m_slices_insertionSortCmpFunc_I_Pair__b3
    refine ok.val (ok.ift (by omega) (ok.eq (at_1 B D q x) (ok.chk (by omega) ?_)))
    rw [e]
    exact ok.eq (at_0 B (x :: D) q) (ok.call (cmpP_lt hN hq) fun r hrr => ok.bf (hrr.trans hlt) (ok.some rfl))
  · intro D hD
    show m_slices_insertionSortCmpFunc_I_Pair__b3 N _ 0 0 (x :: D) = _
    unfold m_slices_insertionSortCmpFunc_I_Pair__b3
    rfl
theorem insI' {P : List I_Pair} (hl : P.length ≤ 12) (hr : P.Pairwise fun a b => a.row < b.row) : m_slices_insertionSortCmpFunc_I_Pair_ N P 0 (P.length : Int) (fun a0 a1 => m_I_IndexColumn_1 N a0 a1) = some (insA ltK P) := by
  refine ok.val ?_
  unfold m_slices_insertionSortCmpFunc_I_Pair_
  refine ok.chk (by omega) ?_
  by_cases h0 : P.length = 0
  · obtain rfl := List.eq_nil_of_length_eq_zero h0
    obtain ⟨M, rfl⟩ : ∃ M, N = M + 1 := ⟨N - 1, by omega⟩
    unfold loopM
    exact ok.some rfl
  · refine ok.call (P := fun o => o = insA ltK P) (ok.each P.length (fun i s => s = ((i : Int), insA ltK (P.take i) ++ P.drop i)) _ ?_ ?_ N 1 _ (by omega) ?_ (by omega)) ?_
    · rintro i s hi rfl
      show ok (m_slices_insertionSortCmpFunc_I_Pair__b2 N _ 0 (P.length : Int) (i : Int) _) _
      unfold m_slices_insertionSortCmpFunc_I_Pair__b2
      have hA : (insA ltK (P.take i)).length = i := by rw [insA_len, List.length_take]; omega
      have hd : P.drop i = P[i] :: P.drop (i + 1) := List.drop_eq_getElem_cons hi
      have hround := ins_round hN (P := P) hl (x := P[i]) (A := insA ltK (P.take i)) (C := P.drop (i + 1)) (by rw [List.length_append, hA, List.length_cons, List.length_drop]; omega) (fun q hq => by
        have hq := (insA_perm _ _ rfl).mem_iff.1 hq
        obtain ⟨k, hk, rfl⟩ := List.mem_iff_getElem.1 hq
        rw [List.length_take] at hk
        rw [List.getElem_take]
        exact List.pairwise_iff_getElem.1 hr k i (by omega) hi (by omega))
      rw [hA] at hround
      rw [hd]
      refine ok.ift (by omega) (ok.eq hround ?_)
      unfold m_slices_insertionSortCmpFunc_I_Pair__k3
      refine ok.chk (by omega) (ok.some ?_)
      show _ = _
      rw [insA_take hi]; rfl
    · rintro s rfl
      show ok (m_slices_insertionSortCmpFunc_I_Pair__b2 N _ 0 (P.length : Int) (P.length : Int) _) _
      unfold m_slices_insertionSortCmpFunc_I_Pair__b2
      refine ok.iff (by omega) (ok.some ?_)
      rw [List.take_length, List.drop_length, List.append_nil]
    · rcases P with _ | ⟨p, P⟩
      · exact (h0 rfl).elim
      · rfl
    · rintro o rfl
      exact ok.some rfl
theorem sortI' {P : List I_Pair} (hl : P.length ≤ 12) (hr : P.Pairwise fun a b => a.row < b.row) : m_slices_SortFunc_I_Pair N P (fun a0 a1 => m_I_IndexColumn_1 N a0 a1) = some (insA ltK P) := by
  refine ok.val ?_
  unfold m_slices_SortFunc_I_Pair
  have e1 : u64M (P.length : Int) = some (P.length : Int) := by unfold u64M; rw [if_pos (by omega)]
  refine ok.eq e1 ?_
  have e2 : m_bits_Len N (P.length : Int) = some (Lib.bitLen ((P.length : Int)).toNat : Int) := by unfold m_bits_Len; rw [if_pos (by omega)]
  refine ok.eq e2 ?_
  have e3 : ∀ l, m_slices_pdqsortCmpFunc_I_Pair_ N P 0 (P.length : Int) l (fun a0 a1 => m_I_IndexColumn_1 N a0 a1) = some (insA ltK P) := by
    intro l
    obtain ⟨M, hM⟩ : ∃ M, N = M + 1 := ⟨N - 1, by omega⟩
    refine ok.val ?_
    unfold m_slices_pdqsortCmpFunc_I_Pair_
    have hb : m_slices_pdqsortCmpFunc_I_Pair__b1 N (fun a0 a1 => m_I_IndexColumn_1 N a0 a1) P 0 (P.length : Int) l = some (.inr (insA ltK P)) := by
      unfold m_slices_pdqsortCmpFunc_I_Pair__b1
      refine ok.val (ok.chk (by omega) (ok.ift (by omega) (ok.eq (insI' hN hl hr) (ok.some rfl))))
    have hlp : loopM (β := (List I_Pair)) (fun _ : Unit => m_slices_pdqsortCmpFunc_I_Pair__b1 N (fun a0 a1 => m_I_IndexColumn_1 N a0 a1) P 0 (P.length : Int) l) N () = some (insA ltK P) := by
      conv => lhs; rw [show loopM (β := (List I_Pair)) (fun _ : Unit => m_slices_pdqsortCmpFunc_I_Pair__b1 N (fun a0 a1 => m_I_IndexColumn_1 N a0 a1) P 0 (P.length : Int) l) N () = loopM (β := (List I_Pair)) (fun _ : Unit => m_slices_pdqsortCmpFunc_I_Pair__b1 N (fun a0 a1 => m_I_IndexColumn_1 N a0 a1) P 0 (P.length : Int) l) (M + 1) () from by rw [← hM]]
      unfold loopM
      rw [hb]
    exact ok.eq hlp (ok.some rfl)
  exact ok.eq (e3 _) (ok.some rfl)
theorem idxI {t : I_Table} (hb : bT t) (c : Int) : m_I_IndexColumn N t c = some (indexP t c) := by
  refine ok.val ?_
  unfold m_I_IndexColumn indexP
  refine ok.eq (colI hN hb c) ?_
  by_cases hc : hasC t c
  · have hv := hc.1
    have h10 := hv.2.1
    have hc0 := hc.2.1
    have hc1 := hc.2.2
    rw [if_pos hc, if_pos hc]
    refine ok.bt rfl (ok.call (P := fun o => o = prs (cvs t c.toNat) t.rows.length) (ok.each t.rows.length (fun i s => s = ((i : Int), prs (cvs t c.toNat) i)) _ ?_ ?_ N 0 _ (Nat.zero_le _) rfl (by omega)) ?_)
    · rintro i s hi rfl
      show ok (m_I_IndexColumn_b1 N _ (i : Int) _) _
      unfold m_I_IndexColumn_b1
      obtain ⟨_, _, h5⟩ := cv_get hv (c := c.toNat) hi (by omega)
      have e1 : ixI (t.rows.map (cv t c.toNat)) (i : Int) = some (cv t c.toNat t.rows[i]) := by rw [ixI_nat (by simpa using hi)]; simp
      have hl := prs_len (cvs t c.toNat) i
      refine ok.ift (by simpa using hi) (ok.eq e1 (ok.eq (keyI hN h5 (by have := vV_size h5; omega)) (ok.app (by simp only [hl, List.length_singleton]; omega) (ok.chk (by omega) (ok.some ?_)))))
      show _ = _
      rw [prs_succ, prOf_at hi]; rfl
    · rintro s rfl
      show ok (m_I_IndexColumn_b1 N _ _ _) _
      unfold m_I_IndexColumn_b1
      exact ok.iff (by simp) (ok.some rfl)
    · rintro o rfl
      unfold m_I_IndexColumn_k1
      exact ok.eq (sortI' hN (by rw [prs_len]; omega) (prs_row _ _)) (ok.some rfl)
  · rw [if_neg hc, if_neg hc]
    exact ok.bf rfl (ok.some rfl)
theorem widthS {t : I_Table} (hb : bT t) (hv : tV t) : m_S_width N t = some ((fL t).length : Int) := by
  refine ok.val ?_
  unfold m_S_width
  refine ok.eq (formatsS hN hb.f.1 (vF_bN hv.1.1) hb.c) ?_
  rw [if_pos hv.1.2.2]
  exact ok.eq (chs_ix rfl (Nat.le_refl _)) (ok.some rfl)
omit hN in
theorem ins_roundS {x : I_Pair} {A : List I_Pair} (hl : A.length ≤ 12) (hN : 100 ≤ N) :
    loopM (β := (List I_Pair)) (fun s : Int × (List I_Pair) => m_S_pairs_b3 N s.1 s.2) N ((A.length : Int), A ++ [x]) = some (insR ltK x A) := by
  have h := insR_loop (lt := ltK) (x := x) (body := fun s : Int × (List I_Pair) => m_S_pairs_b3 N s.1 s.2) (G := fun _ => True) (m := A.length + 1) ?_ ?_ ?_ A.length N A [] rfl (by simp) (by omega) (fun _ _ => trivial)
  · rw [h, List.append_nil]
  · intro B q D hB _ hlt
    have hb : B.length + 1 < A.length + 1 := by rw [← hB]; simp
    have e : ((B.length + 1 : Nat) : Int) - 1 = (B.length : Int) := by omega
    show m_S_pairs_b3 N ((B.length + 1 : Nat) : Int) (B ++ q :: x :: D) = _
    unfold m_S_pairs_b3
    refine ok.val (ok.ift (by omega) (ok.eq (at_1 B D q x) (ok.chk (by omega) ?_)))
    rw [e]
    refine ok.eq (at_0 B (x :: D) q) (ok.bt hlt (ok.chk (by omega) ?_))
    refine ok.eq (at_0 B (x :: D) q) (ok.chk (by omega) ?_)
    refine ok.eq (v := q) ?_ (ok.chk (by omega) (ok.some ?_))
    · rw [Int.toNat_natCast]
      rw [ixI_nat (by simp)]
      simp
    · rw [Int.toNat_natCast, Int.toNat_natCast, swap_set]
  · intro B q D hB _ hlt
    have hb : B.length + 1 < A.length + 1 := by rw [← hB]; simp
    have e : ((B.length + 1 : Nat) : Int) - 1 = (B.length : Int) := by omega
    show m_S_pairs_b3 N ((B.length + 1 : Nat) : Int) (B ++ q :: x :: D) = _
    unfold m_S_pairs_b3
    refine ok.val (ok.ift (by omega) (ok.eq (at_1 B D q x) (ok.chk (by omega) ?_)))
    rw [e]
    exact ok.eq (at_0 B (x :: D) q) (ok.bf hlt (ok.some rfl))
  · intro D hD
    show m_S_pairs_b3 N 0 (x :: D) = _
    unfold m_S_pairs_b3
    rfl
theorem pairsS {t : I_Table} {c : Int} (hc : hasC t c) : m_S_pairs N t c = some (insA ltK (prs (cvs t c.toNat) t.rows.length)) := by
  have hv := hc.1
  have h10 := hv.2.1
  have hc0 := hc.2.1
  have hc1 := hc.2.2
  refine ok.val ?_
  unfold m_S_pairs
  refine ok.eq (latestS hN hv) (ok.call (P := fun o => o = insA ltK (prs (cvs t c.toNat) t.rows.length)) (ok.each t.rows.length (fun i s => s = ((i : Int), insA ltK (prs (cvs t c.toNat) i))) _ ?_ ?_ N 0 _ (Nat.zero_le _) rfl (by omega)) ?_)
  · rintro i s hi rfl
    show ok (m_S_pairs_b2 N c _ (i : Int) _) _
    unfold m_S_pairs_b2
    obtain ⟨h3, h4, h5⟩ := cv_get hv (c := c.toNat) hi (by omega)
    have e1 : ixI (t.rows.map (adv t)) (i : Int) = some (adv t t.rows[i]) := by rw [ixI_nat (by simpa using hi)]; simp
    have e2 : ixI (adv t t.rows[i]) c = some (cv t c.toNat t.rows[i]) := by rw [ixI_eq (n := c.toNat) (by omega) h3, h4]
    have hl : (insA ltK (prs (cvs t c.toNat) i)).length = i := by rw [insA_len, prs_len]
    have hr := ins_roundS (N := N) (x := prOf (cvs t c.toNat) i) (A := insA ltK (prs (cvs t c.toNat) i)) (by omega) (by omega)
    rw [hl, prOf_at hi] at hr
    refine ok.ift (by simpa using hi) (ok.eq e1 (ok.eq e2 (ok.eq (keyS hN h5) (ok.app (by simp only [hl, List.length_singleton]; omega) (ok.eq hr ?_)))))
    unfold m_S_pairs_k3
    refine ok.chk (by omega) (ok.some ?_)
    show _ = _
    rw [prs_succ, insA_snoc, prOf_at hi]; rfl
  · rintro s rfl
    show ok (m_S_pairs_b2 N c _ _ _) _
    unfold m_S_pairs_b2
    exact ok.iff (by simp) (ok.some rfl)
  · rintro o rfl
    exact ok.some rfl
theorem idxS {t : I_Table} (hb : bT t) (c : Int) : m_S_IndexColumn N t c = some (indexP t c) := by
  refine ok.val ?_
  unfold m_S_IndexColumn indexP
  refine ok.eq (validTS hN hb) (ok.ite (fun hv => ?_) fun hv => ok.some (by rw [if_neg fun e : hasC t c => hv e.1]))
  have hfl := (fL_v hv).1
  refine ok.eq (widthS hN hb hv) (ok.chk (by omega) (ok.eq (inRange_eq N _ _ _) (ok.ite (fun hr => ?_) fun hr => ok.some ?_)))
  · have hc : hasC t c := ⟨hv, hr.1, by omega⟩
    rw [if_pos hc]
    exact ok.eq (pairsS hN hc) (ok.some rfl)
  · rw [if_neg fun e : hasC t c => hr ⟨e.2.1, by have := e.2.2; omega⟩]
end
end V
end Go.Proofs.YtkjnnifnmoekjaaGreatDoor
namespace Go.Proofs.YtkjnnifnmoekjaaGreatDoor
namespace V
set_option linter.unusedVariables false
set_option linter.unusedSimpArgs false
set_option maxHeartbeats 1000000
open Szd (szd)
section
variable {N : Nat} (hN : 100000000 ≤ N)
include hN
theorem lawFnExactScanTable (t : L_Table) (hs : szd t) (c : Int) (hc : szd c) (lo : L_Value) (slo : szd lo) (hi : L_Value) (shi : szd hi) : m_L_FnExactScanTable N t c lo hi = some true := by
  refine ok.val ?_
  unfold m_L_FnExactScanTable
  refine ok.call (szTab hN hs (by omega) (by omega)) ?_
  rintro r (rfl | ⟨h0, h1, hb⟩)
  · exact ok.ift (by decide) (ok.some rfl)
  refine ok.iff (by omega) (ok.call (szVal slo h0 (by omega)) ?_)
  rintro r (rfl | ⟨h2, h3, h4⟩)
  · exact ok.ift (by decide) (ok.some rfl)
  refine ok.iff (by omega) (ok.call (szVal shi h2 (by omega)) ?_)
  rintro r (rfl | ⟨h5, h6, h7⟩)
  · exact ok.ift (by decide) (ok.some rfl)
  refine ok.iff (by omega) ?_
  have g1 : (tVal lo).text.size ≤ 5000000 := by show lo.text.size ≤ _; omega
  have g2 : (tVal hi).text.size ≤ 5000000 := by show hi.text.size ≤ _; omega
  have hl := scan_len (tTab t) c (tVal lo) (tVal hi)
  have e1 := tTab_eq hN hb
  have e2 := tVal_eq (N := N) lo
  have e2' := tVal_eq (N := N) hi
  have e3 := xTab hN hb.bT
  have e4 := eqIntS_self hN (a := scanP (tTab t) c (tVal lo) (tVal hi)) (by omega)
  have e5 := markTab hN hb.mt
  have e6 := markIntS_eq hN (a := scanP (tTab t) c (tVal lo) (tVal hi)) (by omega) (k0 := 1) (by omega)
  have e7 := heldIntS_eq hN (a := scanP (tTab t) c (tVal lo) (tVal hi)) (by omega) (k0 := 1) (by omega)
  have e8 := scanS hN hb.bT c g1 g2
  have e9 := scanI hN hb.bT c g1 g2
  repeat' (first | (with_reducible refine ok.some ?_) | (with_reducible refine ok.eq e1 ?_) | (with_reducible refine ok.eq e2 ?_) | (with_reducible refine ok.eq e2' ?_) | (with_reducible refine ok.eq e8 ?_) | (with_reducible refine ok.eq e9 ?_) | (with_reducible refine ok.eq e4 ?_) | (with_reducible refine ok.eq e3 ?_) | (with_reducible refine ok.bt (beq_self_eq_true _) ?_) | (with_reducible refine ok.bt rfl ?_) | (with_reducible refine ok.eq e5 ?_) | (with_reducible refine ok.eq e6 ?_) | (with_reducible refine ok.eq e7 ?_) | (with_reducible refine ok.iff (by omega) ?_) | (with_reducible refine ok.ift rfl ?_) | (with_reducible refine ok.ite (fun hc => ?_) (fun hc => ?_)) | (with_reducible refine ok.cond (fun hc => ?_) (fun hc => ?_)) | (with_reducible refine ok.chk (by omega) ?_) | (with_reducible refine ok.bs ?_) | (with_reducible refine ok.remM (by omega) (fun _ hq => ?_)) | (with_reducible refine ok.quoM (by omega) (fun _ hq => ?_)) | (with_reducible refine ok.ix (by omega) (by omega) (fun q hq he => ?_)))
  all_goals rfl
theorem lawFnExactIndexColumn (t : L_Table) (hs : szd t) (c : Int) (hc : szd c) : m_L_FnExactIndexColumn N t c = some true := by
  refine ok.val ?_
  unfold m_L_FnExactIndexColumn
  refine ok.call (szTab hN hs (by omega) (by omega)) ?_
  rintro r (rfl | ⟨h0, h1, hb⟩)
  · exact ok.ift (by decide) (ok.some rfl)
  refine ok.iff (by omega) ?_
  have hl := indexP_len (tTab t) c
  have e1 := tTab_eq hN hb
  have e3 := xTab hN hb.bT
  have e4 := eqPairS_self hN (a := indexP (tTab t) c) (by omega)
  have e5 := markTab hN hb.mt
  have e6 := markPairS_eq hN (a := indexP (tTab t) c) (by omega) (k0 := 1) (by omega)
  have e7 := heldPairS_eq hN (a := indexP (tTab t) c) (by omega) (k0 := 1) (by omega)
  have e8 := idxS hN hb.bT c
  have e9 := idxI hN hb.bT c
  repeat' (first | (with_reducible refine ok.some ?_) | (with_reducible refine ok.eq e1 ?_) | (with_reducible refine ok.eq e8 ?_) | (with_reducible refine ok.eq e9 ?_) | (with_reducible refine ok.eq e4 ?_) | (with_reducible refine ok.eq e3 ?_) | (with_reducible refine ok.bt (beq_self_eq_true _) ?_) | (with_reducible refine ok.bt rfl ?_) | (with_reducible refine ok.eq e5 ?_) | (with_reducible refine ok.eq e6 ?_) | (with_reducible refine ok.eq e7 ?_) | (with_reducible refine ok.iff (by omega) ?_) | (with_reducible refine ok.ift rfl ?_) | (with_reducible refine ok.ite (fun hc => ?_) (fun hc => ?_)) | (with_reducible refine ok.cond (fun hc => ?_) (fun hc => ?_)) | (with_reducible refine ok.chk (by omega) ?_) | (with_reducible refine ok.bs ?_) | (with_reducible refine ok.remM (by omega) (fun _ hq => ?_)) | (with_reducible refine ok.quoM (by omega) (fun _ hq => ?_)) | (with_reducible refine ok.ix (by omega) (by omega) (fun q hq he => ?_)))
  all_goals rfl
end
end V
end Go.Proofs.YtkjnnifnmoekjaaGreatDoor
