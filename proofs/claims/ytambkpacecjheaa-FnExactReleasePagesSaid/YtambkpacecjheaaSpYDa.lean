/- Space: an exact law's function. No condition. -/
import Derived.Test.YtambkpacecjheaaPlSpX
import Derived.Test.YtambkpacecjheaaSpFa
namespace Go.Proofs.Ytambkpacecjheaa
namespace V
open Enc (enc)
set_option linter.unusedVariables false
set_option linter.unusedSimpArgs false
set_option maxHeartbeats 4000000
set_option maxRecDepth 100000
open Go.RowKit
attribute [local irreducible] thA inA FinA eL

def m_L_FnExactReleasePages (N : Nat) (p_aS : L_Space) (p_aOldest : Int) : Option (Bool) :=
  (m_L_szSpace N p_aS (1048576 : Int)).bind fun r1 =>
  cond (decide (r1 < (0 : Int)))
    (some true)
    ((m_L_toSpace N p_aS).bind fun r4 =>
    (m_S_ReleasePages N r4 p_aOldest).bind fun r6 =>
    (m_L_toSpace N p_aS).bind fun r8 =>
    (m_I_ReleasePages N r8 p_aOldest).bind fun r10 =>
    (m_L_eqSpace N r10 r6).bind fun r12 =>
    cond r12
      ((m_L_toSpace N p_aS).bind fun r15 =>
      (m_L_eqSpace N r8 r15).bind fun r17 =>
      cond r17
        ((m_L_markSpace N r8 (1 : Int)).bind fun r20 =>
        cond (decide (r20.1 < (0 : Int)))
          (some false)
          ((m_L_eqSpace N r10 r6).bind fun r23 =>
          cond r23
            ((m_L_markSpace N r10 (1 : Int)).bind fun r26 =>
            (m_L_heldSpace N (I_Space.mk r10.pages r26.2.1 r26.2.2) (1 : Int)).bind fun r28 =>
            cond (decide (r28 < (0 : Int)))
              (some false)
              (cond (decide (r28 = r26.1))
                ((m_L_toSpace N p_aS).bind fun r32 =>
                (m_I_ReleasePages N r32 p_aOldest).bind fun r34 =>
                (m_L_eqSpace N r34 r6).bind fun r36 =>
                cond r36
                  ((m_L_heldSpace N (I_Space.mk r10.pages r26.2.1 r26.2.2) (1 : Int)).bind fun r39 =>
                  cond (decide (r39 < (0 : Int)))
                    (some false)
                    (cond (decide (r39 = r26.1))
                      (some true)
                      (some false)))
                  (some false))
                (some false)))
            (some false)))
        (some false))
      (some false))
theorem w_L_FnExactReleasePages (N : Nat) (p_aS : L_Space) (p_aOldest : Int) (r : Bool) (hh0 : m_L_FnExactReleasePages N p_aS p_aOldest = some r) : FnX Try.prog 11 [] [.agg [iA p_aS.pages, sL p_aS.free, sL p_aS.held], iA p_aOldest] (RE (bA r) []) := by
  unfold m_L_FnExactReleasePages at hh0
  refine FnX.mk Try.func11 rfl rfl ?_
  intro s hs
  refine PC.seq ?_
  refine PC.region ?_
  refine PL.ef rfl (Ef.box rfl rfl rfl) ?_
  refine PL.nm (.op 0 0) [some ⟨.mx [iA p_aS.pages, sL p_aS.free, sL p_aS.held], 25, 0⟩] rfl rfl ?_
  refine PL.op rfl (Rd.asnT rfl) ?_
  refine PL.nil ?_
  refine thA_n ?_
  refine PC.seq ?_
  refine PC.region ?_
  refine PL.op rfl (Rd.asnT rfl) ?_
  refine PL.nil ?_
  refine thA_n ?_
  refine PC.seq ?_
  obtain ⟨r1, h_2, hh0⟩ := bind_some hh0
  refine PC.region ?_
  refine PL.op rfl (Rd.loadBox rfl rfl rfl) ?_
  refine PL.op rfl (Rd.moveT rfl) ?_
  refine PL.callM false [] (w_L_szSpace N p_aS (1048576 : Int) r1 h_2) rfl Try.call14 rfl ⟨.aggL ⟨.t _, .t _, .t _, trivial⟩, .t _, trivial⟩ rfl trivial (fun h => by cases h) ?_
  refine PL.op rfl (Rd.asnT rfl) ?_
  refine PL.nil ?_
  refine thA_n ?_
  refine PC.seq ?_
  refine PC.seq ?_
  refine PC.region ?_
  refine PL.op rfl (Rd.moveT rfl) ?_
  refine PL.op rfl (Rd.lss rfl rfl) ?_
  refine PL.nil ?_
  refine thA_n ?_
  rcases cond_some hh0 with ⟨h_3, hh0⟩ | ⟨h_3, hh0⟩
  · refine PC.cond_true rfl h_3 ?_
    refine PC.seq ?_
    refine PC.region ?_
    refine PL.op rfl (Rd.asnT rfl) ?_
    refine PL.nil ?_
    refine thA_n ?_
    refine PC.ret ?_
    refine thA_r ?_
    obtain rfl := some_in hh0
    exact FinA.mk (r := bA true) (bl := []) [] (.inl rfl) rfl (rl := [.tmp 4]) (.tmp .nil) rfl rfl rfl (.t _) trivial ⟨rfl, rfl⟩
  refine PC.cond_false rfl h_3 ?_
  refine PC.skip ?_
  refine thA_n ?_
  refine PC.seq ?_
  obtain ⟨r4, h_5, hh0⟩ := bind_some hh0
  obtain ⟨r6, h_7, hh0⟩ := bind_some hh0
  refine PC.region ?_
  refine PL.op rfl (Rd.loadBox rfl rfl rfl) ?_
  refine PL.callM false [] (w_L_toSpace N p_aS r4 h_5) rfl Try.call16 rfl ⟨.aggL ⟨.t _, .t _, .t _, trivial⟩, trivial⟩ rfl trivial (fun h => by cases h) ?_
  refine PL.nm (.agg [iA r4.pages, .os 1 0 r4.free.length, .os 2 0 r4.held.length]) [some ⟨.mx [iA p_aS.pages, sL p_aS.free, sL p_aS.held], 25, 0⟩, some ⟨.tr (eL r4.free), 3, 1⟩, some ⟨.tr (eL r4.held), 42, 2⟩] rfl rfl ?_
  refine PL.op rfl (Rd.moveT rfl) ?_
  refine PL.callM true [] (w_S_ReleasePages N r4 p_aOldest r6 h_7) rfl Try.call39 rfl ⟨.aggL ⟨.t _, .own rfl (by first | decide | exact List.not_mem_nil) rfl rfl, .own rfl (by first | decide | exact List.not_mem_nil) rfl rfl, trivial⟩, .t _, trivial⟩ rfl trivial (fun _ => ⟨⟨trivial, trivial, trivial, trivial⟩, (flat_cons flat_ow (flat_cons flat_ow flat_nil))⟩) ?_
  refine PL.nm (.agg [iA r6.pages, .os 3 0 r6.free.length, .os 4 0 r6.held.length]) [some ⟨.mx [iA p_aS.pages, sL p_aS.free, sL p_aS.held], 25, 0⟩, some ⟨.tr (eL r4.free), 3, 1⟩, some ⟨.tr (eL r4.held), 42, 2⟩, some ⟨.tr (eL r6.free), 3, 1⟩, some ⟨.tr (eL r6.held), 42, 2⟩] rfl rfl ?_
  refine PL.ef rfl (Ef.alloc rfl rfl) ?_
  refine PL.nm (.op 5 0) [some ⟨.mx [iA p_aS.pages, sL p_aS.free, sL p_aS.held], 25, 0⟩, some ⟨.tr (eL r4.free), 3, 1⟩, some ⟨.tr (eL r4.held), 42, 2⟩, some ⟨.tr (eL r6.free), 3, 1⟩, some ⟨.tr (eL r6.held), 42, 2⟩, some ⟨.mx [iA (0 : Int), .t (.v (.slice none 0 0)), .t (.v (.slice none 0 0))], 30, 0⟩] rfl rfl ?_
  refine PL.store rfl rfl rfl rfl rfl rfl rfl ?_
  refine PL.nO [some ⟨.mx [iA p_aS.pages, sL p_aS.free, sL p_aS.held], 25, 0⟩, some ⟨.tr (eL r4.free), 3, 1⟩, some ⟨.tr (eL r4.held), 42, 2⟩, some ⟨.tr (eL r6.free), 3, 1⟩, some ⟨.tr (eL r6.held), 42, 2⟩, some ⟨.mx [iA r6.pages, .os 3 0 r6.free.length, .os 4 0 r6.held.length], 30, 0⟩] rfl ?_
  refine PL.nil ?_
  refine thA_n ?_
  refine PC.seq ?_
  obtain ⟨r8, h_9, hh0⟩ := bind_some hh0
  refine PC.region ?_
  refine PL.op rfl (Rd.loadBox rfl rfl rfl) ?_
  refine PL.callM false [] (w_L_toSpace N p_aS r8 h_9) rfl Try.call16 rfl ⟨.aggL ⟨.t _, .t _, .t _, trivial⟩, trivial⟩ rfl trivial (fun h => by cases h) ?_
  refine PL.nm (.agg [iA r8.pages, .os 6 0 r8.free.length, .os 7 0 r8.held.length]) [some ⟨.mx [iA p_aS.pages, sL p_aS.free, sL p_aS.held], 25, 0⟩, some ⟨.tr (eL r4.free), 3, 1⟩, some ⟨.tr (eL r4.held), 42, 2⟩, some ⟨.tr (eL r6.free), 3, 1⟩, some ⟨.tr (eL r6.held), 42, 2⟩, some ⟨.mx [iA r6.pages, .os 3 0 r6.free.length, .os 4 0 r6.held.length], 30, 0⟩, some ⟨.tr (eL r8.free), 3, 1⟩, some ⟨.tr (eL r8.held), 42, 2⟩] rfl rfl ?_
  refine PL.ef rfl (Ef.alloc rfl rfl) ?_
  refine PL.nm (.op 8 0) [some ⟨.mx [iA p_aS.pages, sL p_aS.free, sL p_aS.held], 25, 0⟩, some ⟨.tr (eL r4.free), 3, 1⟩, some ⟨.tr (eL r4.held), 42, 2⟩, some ⟨.tr (eL r6.free), 3, 1⟩, some ⟨.tr (eL r6.held), 42, 2⟩, some ⟨.mx [iA r6.pages, .os 3 0 r6.free.length, .os 4 0 r6.held.length], 30, 0⟩, some ⟨.tr (eL r8.free), 3, 1⟩, some ⟨.tr (eL r8.held), 42, 2⟩, some ⟨.mx [iA (0 : Int), .t (.v (.slice none 0 0)), .t (.v (.slice none 0 0))], 30, 0⟩] rfl rfl ?_
  refine PL.store rfl rfl rfl rfl rfl rfl rfl ?_
  refine PL.nO [some ⟨.mx [iA p_aS.pages, sL p_aS.free, sL p_aS.held], 25, 0⟩, some ⟨.tr (eL r4.free), 3, 1⟩, some ⟨.tr (eL r4.held), 42, 2⟩, some ⟨.tr (eL r6.free), 3, 1⟩, some ⟨.tr (eL r6.held), 42, 2⟩, some ⟨.mx [iA r6.pages, .os 3 0 r6.free.length, .os 4 0 r6.held.length], 30, 0⟩, some ⟨.tr (eL r8.free), 3, 1⟩, some ⟨.tr (eL r8.held), 42, 2⟩, some ⟨.mx [iA r8.pages, .os 6 0 r8.free.length, .os 7 0 r8.held.length], 30, 0⟩] rfl ?_
  refine PL.nil ?_
  refine thA_n ?_
  refine PC.seq ?_
  obtain ⟨r10, h_11, hh0⟩ := bind_some hh0
  refine PC.region ?_
  refine PL.op rfl (Rd.loadBox rfl rfl rfl) ?_
  refine PL.op rfl (Rd.moveT rfl) ?_
  refine PL.callM true [] (w_I_ReleasePages N r8 p_aOldest r10 h_11) rfl Try.call38 rfl ⟨.aggL ⟨.t _, .own rfl (by first | decide | exact List.not_mem_nil) rfl rfl, .own rfl (by first | decide | exact List.not_mem_nil) rfl rfl, trivial⟩, .t _, trivial⟩ rfl trivial (fun _ => ⟨⟨trivial, trivial, trivial, trivial⟩, (flat_cons flat_ow (flat_cons flat_ow flat_nil))⟩) ?_
  refine PL.nm (.agg [iA r10.pages, .os 9 0 r10.free.length, .os 10 0 r10.held.length]) [some ⟨.mx [iA p_aS.pages, sL p_aS.free, sL p_aS.held], 25, 0⟩, some ⟨.tr (eL r4.free), 3, 1⟩, some ⟨.tr (eL r4.held), 42, 2⟩, some ⟨.tr (eL r6.free), 3, 1⟩, some ⟨.tr (eL r6.held), 42, 2⟩, some ⟨.mx [iA r6.pages, .os 3 0 r6.free.length, .os 4 0 r6.held.length], 30, 0⟩, some ⟨.tr (eL r8.free), 3, 1⟩, some ⟨.tr (eL r8.held), 42, 2⟩, some ⟨.mx [iA r8.pages, .os 6 0 r8.free.length, .os 7 0 r8.held.length], 30, 0⟩, some ⟨.tr (eL r10.free), 3, 1⟩, some ⟨.tr (eL r10.held), 42, 2⟩] rfl rfl ?_
  refine PL.ef rfl (Ef.alloc rfl rfl) ?_
  refine PL.nm (.op 11 0) [some ⟨.mx [iA p_aS.pages, sL p_aS.free, sL p_aS.held], 25, 0⟩, some ⟨.tr (eL r4.free), 3, 1⟩, some ⟨.tr (eL r4.held), 42, 2⟩, some ⟨.tr (eL r6.free), 3, 1⟩, some ⟨.tr (eL r6.held), 42, 2⟩, some ⟨.mx [iA r6.pages, .os 3 0 r6.free.length, .os 4 0 r6.held.length], 30, 0⟩, some ⟨.tr (eL r8.free), 3, 1⟩, some ⟨.tr (eL r8.held), 42, 2⟩, some ⟨.mx [iA r8.pages, .os 6 0 r8.free.length, .os 7 0 r8.held.length], 30, 0⟩, some ⟨.tr (eL r10.free), 3, 1⟩, some ⟨.tr (eL r10.held), 42, 2⟩, some ⟨.mx [iA (0 : Int), .t (.v (.slice none 0 0)), .t (.v (.slice none 0 0))], 30, 0⟩] rfl rfl ?_
  refine PL.store rfl rfl rfl rfl rfl rfl rfl ?_
  refine PL.nO [some ⟨.mx [iA p_aS.pages, sL p_aS.free, sL p_aS.held], 25, 0⟩, some ⟨.tr (eL r4.free), 3, 1⟩, some ⟨.tr (eL r4.held), 42, 2⟩, some ⟨.tr (eL r6.free), 3, 1⟩, some ⟨.tr (eL r6.held), 42, 2⟩, some ⟨.mx [iA r6.pages, .os 3 0 r6.free.length, .os 4 0 r6.held.length], 30, 0⟩, some ⟨.tr (eL r8.free), 3, 1⟩, some ⟨.tr (eL r8.held), 42, 2⟩, some ⟨.mx [iA r8.pages, .os 6 0 r8.free.length, .os 7 0 r8.held.length], 30, 0⟩, some ⟨.tr (eL r10.free), 3, 1⟩, some ⟨.tr (eL r10.held), 42, 2⟩, some ⟨.mx [iA r10.pages, .os 9 0 r10.free.length, .os 10 0 r10.held.length], 30, 0⟩] rfl ?_
  refine PL.nil ?_
  refine thA_n ?_
  refine PC.seq ?_
  refine PC.seq ?_
  obtain ⟨r12, h_13, hh0⟩ := bind_some hh0
  refine PC.region ?_
  refine PL.op rfl (Rd.loadBox rfl rfl rfl) ?_
  refine PL.op rfl (Rd.loadBox rfl rfl rfl) ?_
  refine PL.callM true [] (w_L_eqSpace N r10 r6 r12 h_13) rfl Try.call18 rfl ⟨.aggL ⟨.t _, .own rfl (by first | decide | exact List.not_mem_nil) rfl rfl, .own rfl (by first | decide | exact List.not_mem_nil) rfl rfl, trivial⟩, .aggL ⟨.t _, .own rfl (by first | decide | exact List.not_mem_nil) rfl rfl, .own rfl (by first | decide | exact List.not_mem_nil) rfl rfl, trivial⟩, trivial⟩ rfl trivial (fun _ => ⟨trivial, flat_nil⟩) ?_
  refine PL.op rfl (Rd.unnot rfl) ?_
  refine PL.nil ?_
  refine thA_n ?_
  rcases cond_some hh0 with ⟨h_14, hh0⟩ | ⟨h_14, hh0⟩
  rotate_left
  · refine PC.cond_true rfl (not_f h_14) ?_
    refine PC.seq ?_
    refine PC.region ?_
    refine PL.op rfl (Rd.asnT rfl) ?_
    refine PL.nil ?_
    refine thA_n ?_
    refine PC.ret ?_
    refine thA_r ?_
    obtain rfl := some_in hh0
    exact FinA.mk (r := bA false) (bl := []) [] (.inl rfl) rfl (rl := [.tmp 4]) (.tmp .nil) rfl rfl rfl (.t _) trivial ⟨rfl, rfl⟩
  refine PC.cond_false rfl (not_t h_14) ?_
  refine PC.skip ?_
  refine thA_n ?_
  refine PC.seq ?_
  obtain ⟨r15, h_16, hh0⟩ := bind_some hh0
  obtain ⟨r17, h_18, hh0⟩ := bind_some hh0
  refine PC.cut hs (fun _ : Unit => [(1, iA p_aOldest), (2, .op 0 0), (6, .op 1 0), (7, .op 4 0), (8, .op 7 0), (35, bA (!r17))]) (fun _ => [⟨.mx [iA p_aS.pages, sL p_aS.free, sL p_aS.held], 25, 0⟩, ⟨.mx [iA r6.pages, .os 2 0 r6.free.length, .os 3 0 r6.held.length], 30, 0⟩, ⟨.tr (eL r6.free), 3, 1⟩, ⟨.tr (eL r6.held), 42, 2⟩, ⟨.mx [iA r8.pages, .os 5 0 r8.free.length, .os 6 0 r8.held.length], 30, 0⟩, ⟨.tr (eL r8.free), 3, 1⟩, ⟨.tr (eL r8.held), 42, 2⟩, ⟨.mx [iA r10.pages, .os 8 0 r10.free.length, .os 9 0 r10.held.length], 30, 0⟩, ⟨.tr (eL r10.free), 3, 1⟩, ⟨.tr (eL r10.held), 42, 2⟩]) (fun _ => True) ?_ ?_
  · refine PC.any (id := 10) 5 (.seg [1] (.fork (.seg [0, 2, 3, 4] .done) (.seg [2, 0, 3, 4] .done))) [] rfl (by kernel_rfl) rfl ?_
    refine PT.seg ?_
    refine PR.op rfl (Rd.loadBox rfl rfl rfl) ?_
    refine PR.nil ?_
    refine PT.fork ?_ ?_
    · refine PT.seg ?_
      refine PR.rdE rfl rfl (Rd.loadBox rfl rfl rfl) ?_
      refine PR.callM false [] (w_L_toSpace N p_aS r15 h_16) rfl Try.call16 rfl ⟨.aggL ⟨.t _, .t _, .t _, trivial⟩, trivial⟩ rfl trivial (fun h => by cases h) rfl ?_
      refine PR.nm (.agg [iA r15.pages, .os 12 0 r15.free.length, .os 13 0 r15.held.length]) [some ⟨.mx [iA p_aS.pages, sL p_aS.free, sL p_aS.held], 25, 0⟩, some ⟨.tr (eL r4.free), 3, 1⟩, some ⟨.tr (eL r4.held), 42, 2⟩, some ⟨.tr (eL r6.free), 3, 1⟩, some ⟨.tr (eL r6.held), 42, 2⟩, some ⟨.mx [iA r6.pages, .os 3 0 r6.free.length, .os 4 0 r6.held.length], 30, 0⟩, some ⟨.tr (eL r8.free), 3, 1⟩, some ⟨.tr (eL r8.held), 42, 2⟩, some ⟨.mx [iA r8.pages, .os 6 0 r8.free.length, .os 7 0 r8.held.length], 30, 0⟩, some ⟨.tr (eL r10.free), 3, 1⟩, some ⟨.tr (eL r10.held), 42, 2⟩, some ⟨.mx [iA r10.pages, .os 9 0 r10.free.length, .os 10 0 r10.held.length], 30, 0⟩, some ⟨.tr (eL r15.free), 3, 1⟩, some ⟨.tr (eL r15.held), 42, 2⟩] rfl rfl ?_
      refine PR.callM true [] (w_L_eqSpace N r8 r15 r17 h_18) rfl Try.call18 rfl ⟨.aggL ⟨.t _, .own rfl (by first | decide | exact List.not_mem_nil) rfl rfl, .own rfl (by first | decide | exact List.not_mem_nil) rfl rfl, trivial⟩, .aggL ⟨.t _, .own rfl (by first | decide | exact List.not_mem_nil) rfl rfl, .own rfl (by first | decide | exact List.not_mem_nil) rfl rfl, trivial⟩, trivial⟩ rfl trivial (fun _ => ⟨trivial, flat_nil⟩) rfl ?_
      refine PR.op rfl (Rd.unnot rfl) ?_
      refine PR.nil ?_
      refine PT.done ?_
      refine PL.nil ?_
      refine thA_n ?_
      exact ⟨(), trivial, [some 0, some 5, some 3, some 4, some 8, some 6, some 7, some 11, some 9, some 10], ⟨rfl, rfl, ⟨⟨_, rfl, rfl, rfl, .mx ⟨.t _, .t _, .t _, trivial⟩⟩, ⟨_, rfl, rfl, rfl, .mx ⟨.t _, .os rfl, .os rfl, trivial⟩⟩, ⟨_, rfl, rfl, rfl, .tr _⟩, ⟨_, rfl, rfl, rfl, .tr _⟩, ⟨_, rfl, rfl, rfl, .mx ⟨.t _, .os rfl, .os rfl, trivial⟩⟩, ⟨_, rfl, rfl, rfl, .tr _⟩, ⟨_, rfl, rfl, rfl, .tr _⟩, ⟨_, rfl, rfl, rfl, .mx ⟨.t _, .os rfl, .os rfl, trivial⟩⟩, ⟨_, rfl, rfl, rfl, .tr _⟩, ⟨_, rfl, rfl, rfl, .tr _⟩, trivial⟩, ⟨.t _, .op rfl, .op rfl, .op rfl, .op rfl, .t _, trivial⟩⟩⟩
    refine PT.seg ?_
    refine PR.callM false [] (w_L_toSpace N p_aS r15 h_16) rfl Try.call16 rfl ⟨.aggL ⟨.t _, .t _, .t _, trivial⟩, trivial⟩ rfl trivial (fun h => by cases h) rfl ?_
    refine PR.nm (.agg [iA r15.pages, .os 12 0 r15.free.length, .os 13 0 r15.held.length]) [some ⟨.mx [iA p_aS.pages, sL p_aS.free, sL p_aS.held], 25, 0⟩, some ⟨.tr (eL r4.free), 3, 1⟩, some ⟨.tr (eL r4.held), 42, 2⟩, some ⟨.tr (eL r6.free), 3, 1⟩, some ⟨.tr (eL r6.held), 42, 2⟩, some ⟨.mx [iA r6.pages, .os 3 0 r6.free.length, .os 4 0 r6.held.length], 30, 0⟩, some ⟨.tr (eL r8.free), 3, 1⟩, some ⟨.tr (eL r8.held), 42, 2⟩, some ⟨.mx [iA r8.pages, .os 6 0 r8.free.length, .os 7 0 r8.held.length], 30, 0⟩, some ⟨.tr (eL r10.free), 3, 1⟩, some ⟨.tr (eL r10.held), 42, 2⟩, some ⟨.mx [iA r10.pages, .os 9 0 r10.free.length, .os 10 0 r10.held.length], 30, 0⟩, some ⟨.tr (eL r15.free), 3, 1⟩, some ⟨.tr (eL r15.held), 42, 2⟩] rfl rfl ?_
    refine PR.rdE rfl rfl (Rd.loadBox rfl rfl rfl) ?_
    refine PR.callM true [] (w_L_eqSpace N r8 r15 r17 h_18) rfl Try.call18 rfl ⟨.aggL ⟨.t _, .own rfl (by first | decide | exact List.not_mem_nil) rfl rfl, .own rfl (by first | decide | exact List.not_mem_nil) rfl rfl, trivial⟩, .aggL ⟨.t _, .own rfl (by first | decide | exact List.not_mem_nil) rfl rfl, .own rfl (by first | decide | exact List.not_mem_nil) rfl rfl, trivial⟩, trivial⟩ rfl trivial (fun _ => ⟨trivial, flat_nil⟩) rfl ?_
    refine PR.op rfl (Rd.unnot rfl) ?_
    refine PR.nil ?_
    refine PT.done ?_
    refine PL.nil ?_
    refine thA_n ?_
    exact ⟨(), trivial, [some 0, some 5, some 3, some 4, some 8, some 6, some 7, some 11, some 9, some 10], ⟨rfl, rfl, ⟨⟨_, rfl, rfl, rfl, .mx ⟨.t _, .t _, .t _, trivial⟩⟩, ⟨_, rfl, rfl, rfl, .mx ⟨.t _, .os rfl, .os rfl, trivial⟩⟩, ⟨_, rfl, rfl, rfl, .tr _⟩, ⟨_, rfl, rfl, rfl, .tr _⟩, ⟨_, rfl, rfl, rfl, .mx ⟨.t _, .os rfl, .os rfl, trivial⟩⟩, ⟨_, rfl, rfl, rfl, .tr _⟩, ⟨_, rfl, rfl, rfl, .tr _⟩, ⟨_, rfl, rfl, rfl, .mx ⟨.t _, .os rfl, .os rfl, trivial⟩⟩, ⟨_, rfl, rfl, rfl, .tr _⟩, ⟨_, rfl, rfl, rfl, .tr _⟩, trivial⟩, ⟨.t _, .op rfl, .op rfl, .op rfl, .op rfl, .t _, trivial⟩⟩⟩
  rintro ⟨⟩ -
  rcases cond_some hh0 with ⟨h_19, hh0⟩ | ⟨h_19, hh0⟩
  rotate_left
  · refine PC.cond_true rfl (not_f h_19) ?_
    refine PC.seq ?_
    refine PC.region ?_
    refine PL.op rfl (Rd.asnT rfl) ?_
    refine PL.nil ?_
    refine thA_n ?_
    refine PC.ret ?_
    refine thA_r ?_
    obtain rfl := some_in hh0
    exact FinA.mk (r := bA false) (bl := []) [] (.inl rfl) rfl (rl := [.tmp 4]) (.tmp .nil) rfl rfl rfl (.t _) trivial ⟨rfl, rfl⟩
  refine PC.cond_false rfl (not_t h_19) ?_
  refine PC.skip ?_
  refine thA_n ?_
  refine PC.seq ?_
  refine PC.region ?_
  refine PL.op rfl (Rd.asnT rfl) ?_
  refine PL.nil ?_
  refine thA_n ?_
  refine PC.seq ?_
  obtain ⟨r20, h_21, hh0⟩ := bind_some hh0
  refine PC.region ?_
  refine PL.op rfl (Rd.loadBox rfl rfl rfl) ?_
  refine PL.op rfl (Rd.moveT rfl) ?_
  refine PL.callM false [5, 6] (w_L_markSpace N r8 (1 : Int) r20 h_21) rfl Try.call22 rfl ⟨.aggL ⟨.t _, .os rfl, .os rfl, trivial⟩, .t _, trivial⟩ rfl ⟨⟨_, rfl, rfl, rfl, .tr _⟩, ⟨_, rfl, rfl, rfl, .tr _⟩, trivial⟩ (fun h => by cases h) ?_
  refine PL.nm (iA r20.1) [some ⟨.mx [iA p_aS.pages, sL p_aS.free, sL p_aS.held], 25, 0⟩, some ⟨.mx [iA r6.pages, .os 2 0 r6.free.length, .os 3 0 r6.held.length], 30, 0⟩, some ⟨.tr (eL r6.free), 3, 1⟩, some ⟨.tr (eL r6.held), 42, 2⟩, some ⟨.mx [iA r8.pages, .os 5 0 r8.free.length, .os 6 0 r8.held.length], 30, 0⟩, some ⟨.tr (eL r20.2.1), 3, 1⟩, some ⟨.tr (eL r20.2.2), 42, 2⟩, some ⟨.mx [iA r10.pages, .os 8 0 r10.free.length, .os 9 0 r10.held.length], 30, 0⟩, some ⟨.tr (eL r10.free), 3, 1⟩, some ⟨.tr (eL r10.held), 42, 2⟩] rfl rfl ?_
  refine PL.op rfl (Rd.asnT rfl) ?_
  refine PL.nil ?_
  refine thA_n ?_
  refine PC.seq ?_
  refine PC.seq ?_
  rcases cond_some hh0 with ⟨h_22, hh0⟩ | ⟨h_22, hh0⟩
  · refine PC.region ?_
    refine PL.op rfl (Rd.moveT rfl) ?_
    refine PL.op rfl (Rd.lss rfl rfl) ?_
    refine PL.op rfl (Rd.moveT rfl) ?_
    refine PL.guard_off rfl rfl h_22 ?_
    refine PL.guard_off rfl rfl h_22 ?_
    refine PL.guard_off rfl rfl h_22 ?_
    refine PL.guard_off rfl rfl h_22 ?_
    refine PL.op rfl (Rd.pick_t rfl h_22) ?_
    refine PL.nil ?_
    refine thA_n ?_
    refine PC.cond_true rfl rfl ?_
    refine PC.seq ?_
    refine PC.region ?_
    refine PL.op rfl (Rd.asnT rfl) ?_
    refine PL.nil ?_
    refine thA_n ?_
    refine PC.ret ?_
    refine thA_r ?_
    obtain rfl := some_in hh0
    exact FinA.mk (r := bA false) (bl := []) [] (.inl rfl) rfl (rl := [.tmp 4]) (.tmp .nil) rfl rfl rfl (.t _) trivial ⟨rfl, rfl⟩
  obtain ⟨r23, h_24, hh0⟩ := bind_some hh0
  refine PC.region ?_
  refine PL.op rfl (Rd.moveT rfl) ?_
  refine PL.op rfl (Rd.lss rfl rfl) ?_
  refine PL.op rfl (Rd.moveT rfl) ?_
  refine PL.guard_on rfl h_22 ?_
  refine PL.op rfl (Rd.loadBox rfl rfl rfl) ?_
  refine PL.guard_on rfl h_22 ?_
  refine PL.op rfl (Rd.loadBox rfl rfl rfl) ?_
  refine PL.guard_on rfl h_22 ?_
  refine PL.callM true [] (w_L_eqSpace N r10 r6 r23 h_24) rfl Try.call18 rfl ⟨.aggL ⟨.t _, .own rfl (by first | decide | exact List.not_mem_nil) rfl rfl, .own rfl (by first | decide | exact List.not_mem_nil) rfl rfl, trivial⟩, .aggL ⟨.t _, .own rfl (by first | decide | exact List.not_mem_nil) rfl rfl, .own rfl (by first | decide | exact List.not_mem_nil) rfl rfl, trivial⟩, trivial⟩ rfl trivial (fun _ => ⟨trivial, flat_nil⟩) ?_
  refine PL.guard_on rfl h_22 ?_
  refine PL.op rfl (Rd.unnot rfl) ?_
  refine PL.op rfl (Rd.pick_f rfl h_22) ?_
  refine PL.nil ?_
  refine thA_n ?_
  rcases cond_some hh0 with ⟨h_25, hh0⟩ | ⟨h_25, hh0⟩
  rotate_left
  · refine PC.cond_true rfl (not_f h_25) ?_
    refine PC.seq ?_
    refine PC.region ?_
    refine PL.op rfl (Rd.asnT rfl) ?_
    refine PL.nil ?_
    refine thA_n ?_
    refine PC.ret ?_
    refine thA_r ?_
    obtain rfl := some_in hh0
    exact FinA.mk (r := bA false) (bl := []) [] (.inl rfl) rfl (rl := [.tmp 4]) (.tmp .nil) rfl rfl rfl (.t _) trivial ⟨rfl, rfl⟩
  refine PC.cond_false rfl (not_t h_25) ?_
  refine PC.skip ?_
  refine thA_n ?_
  refine PC.seq ?_
  refine PC.region ?_
  refine PL.op rfl (Rd.asnT rfl) ?_
  refine PL.nil ?_
  refine thA_n ?_
  refine PC.seq ?_
  obtain ⟨r26, h_27, hh0⟩ := bind_some hh0
  refine PC.region ?_
  refine PL.op rfl (Rd.loadBox rfl rfl rfl) ?_
  refine PL.op rfl (Rd.moveT rfl) ?_
  refine PL.callM false [8, 9] (w_L_markSpace N r10 (1 : Int) r26 h_27) rfl Try.call22 rfl ⟨.aggL ⟨.t _, .os rfl, .os rfl, trivial⟩, .t _, trivial⟩ rfl ⟨⟨_, rfl, rfl, rfl, .tr _⟩, ⟨_, rfl, rfl, rfl, .tr _⟩, trivial⟩ (fun h => by cases h) ?_
  refine PL.nm (iA r26.1) [some ⟨.mx [iA p_aS.pages, sL p_aS.free, sL p_aS.held], 25, 0⟩, some ⟨.mx [iA r6.pages, .os 2 0 r6.free.length, .os 3 0 r6.held.length], 30, 0⟩, some ⟨.tr (eL r6.free), 3, 1⟩, some ⟨.tr (eL r6.held), 42, 2⟩, some ⟨.mx [iA r8.pages, .os 5 0 r8.free.length, .os 6 0 r8.held.length], 30, 0⟩, some ⟨.tr (eL r20.2.1), 3, 1⟩, some ⟨.tr (eL r20.2.2), 42, 2⟩, some ⟨.mx [iA r10.pages, .os 8 0 r10.free.length, .os 9 0 r10.held.length], 30, 0⟩, some ⟨.tr (eL r26.2.1), 3, 1⟩, some ⟨.tr (eL r26.2.2), 42, 2⟩] rfl rfl ?_
  refine PL.op rfl (Rd.asnT rfl) ?_
  refine PL.nil ?_
  refine thA_n ?_
  refine PC.seq ?_
  refine PC.region ?_
  refine PL.op rfl (Rd.asnT rfl) ?_
  refine PL.nil ?_
  refine thA_n ?_
  refine PC.seq ?_
  obtain ⟨r28, h_29, hh0⟩ := bind_some hh0
  refine PC.region ?_
  refine PL.op rfl (Rd.loadBox rfl rfl rfl) ?_
  refine PL.op rfl (Rd.moveT rfl) ?_
  refine PL.callM true [] (w_L_heldSpace N (I_Space.mk r10.pages r26.2.1 r26.2.2) (1 : Int) r28 h_29) rfl Try.call29 rfl ⟨.aggL ⟨.t _, .own rfl (by first | decide | exact List.not_mem_nil) (by simp only [List.length_set, len_L_markSpace N _ _ _ h_27]) rfl, .own rfl (by first | decide | exact List.not_mem_nil) (by simp only [List.length_set, len_L_markSpace N _ _ _ h_27]) rfl, trivial⟩, .t _, trivial⟩ rfl trivial (fun _ => ⟨trivial, flat_nil⟩) ?_
  refine PL.op rfl (Rd.asnT rfl) ?_
  refine PL.nil ?_
  refine thA_n ?_
  refine PC.seq ?_
  refine PC.seq ?_
  refine PC.region ?_
  refine PL.op rfl (Rd.moveT rfl) ?_
  refine PL.op rfl (Rd.lss rfl rfl) ?_
  refine PL.nil ?_
  refine thA_n ?_
  rcases cond_some hh0 with ⟨h_30, hh0⟩ | ⟨h_30, hh0⟩
  · refine PC.cond_true rfl h_30 ?_
    refine PC.seq ?_
    refine PC.region ?_
    refine PL.op rfl (Rd.asnT rfl) ?_
    refine PL.nil ?_
    refine thA_n ?_
    refine PC.ret ?_
    refine thA_r ?_
    obtain rfl := some_in hh0
    exact FinA.mk (r := bA false) (bl := []) [] (.inl rfl) rfl (rl := [.tmp 4]) (.tmp .nil) rfl rfl rfl (.t _) trivial ⟨rfl, rfl⟩
  refine PC.cond_false rfl h_30 ?_
  refine PC.skip ?_
  refine thA_n ?_
  refine PC.seq ?_
  refine PC.seq ?_
  refine PC.region ?_
  refine PL.op rfl (Rd.moveT rfl) ?_
  refine PL.op rfl (Rd.moveT rfl) ?_
  refine PL.op rfl (Rd.neq rfl rfl) ?_
  refine PL.nil ?_
  refine thA_n ?_
  rcases cond_some hh0 with ⟨h_31, hh0⟩ | ⟨h_31, hh0⟩
  rotate_left
  · refine PC.cond_true rfl (not_f h_31) ?_
    refine PC.seq ?_
    refine PC.region ?_
    refine PL.op rfl (Rd.asnT rfl) ?_
    refine PL.nil ?_
    refine thA_n ?_
    refine PC.ret ?_
    refine thA_r ?_
    obtain rfl := some_in hh0
    exact FinA.mk (r := bA false) (bl := []) [] (.inl rfl) rfl (rl := [.tmp 4]) (.tmp .nil) rfl rfl rfl (.t _) trivial ⟨rfl, rfl⟩
  refine PC.cond_false rfl (not_t h_31) ?_
  refine PC.skip ?_
  refine thA_n ?_
  refine PC.seq ?_
  obtain ⟨r32, h_33, hh0⟩ := bind_some hh0
  obtain ⟨r34, h_35, hh0⟩ := bind_some hh0
  refine PC.region ?_
  refine PL.op rfl (Rd.loadBox rfl rfl rfl) ?_
  refine PL.callM false [] (w_L_toSpace N p_aS r32 h_33) rfl Try.call16 rfl ⟨.aggL ⟨.t _, .t _, .t _, trivial⟩, trivial⟩ rfl trivial (fun h => by cases h) ?_
  refine PL.nm (.agg [iA r32.pages, .os 10 0 r32.free.length, .os 11 0 r32.held.length]) [some ⟨.mx [iA p_aS.pages, sL p_aS.free, sL p_aS.held], 25, 0⟩, some ⟨.mx [iA r6.pages, .os 2 0 r6.free.length, .os 3 0 r6.held.length], 30, 0⟩, some ⟨.tr (eL r6.free), 3, 1⟩, some ⟨.tr (eL r6.held), 42, 2⟩, some ⟨.mx [iA r8.pages, .os 5 0 r8.free.length, .os 6 0 r8.held.length], 30, 0⟩, some ⟨.tr (eL r20.2.1), 3, 1⟩, some ⟨.tr (eL r20.2.2), 42, 2⟩, some ⟨.mx [iA r10.pages, .os 8 0 r10.free.length, .os 9 0 r10.held.length], 30, 0⟩, some ⟨.tr (eL r26.2.1), 3, 1⟩, some ⟨.tr (eL r26.2.2), 42, 2⟩, some ⟨.tr (eL r32.free), 3, 1⟩, some ⟨.tr (eL r32.held), 42, 2⟩] rfl rfl ?_
  refine PL.op rfl (Rd.moveT rfl) ?_
  refine PL.callM true [] (w_I_ReleasePages N r32 p_aOldest r34 h_35) rfl Try.call38 rfl ⟨.aggL ⟨.t _, .own rfl (by first | decide | exact List.not_mem_nil) rfl rfl, .own rfl (by first | decide | exact List.not_mem_nil) rfl rfl, trivial⟩, .t _, trivial⟩ rfl trivial (fun _ => ⟨⟨trivial, trivial, trivial, trivial⟩, (flat_cons flat_ow (flat_cons flat_ow flat_nil))⟩) ?_
  refine PL.nm (.agg [iA r34.pages, .os 12 0 r34.free.length, .os 13 0 r34.held.length]) [some ⟨.mx [iA p_aS.pages, sL p_aS.free, sL p_aS.held], 25, 0⟩, some ⟨.mx [iA r6.pages, .os 2 0 r6.free.length, .os 3 0 r6.held.length], 30, 0⟩, some ⟨.tr (eL r6.free), 3, 1⟩, some ⟨.tr (eL r6.held), 42, 2⟩, some ⟨.mx [iA r8.pages, .os 5 0 r8.free.length, .os 6 0 r8.held.length], 30, 0⟩, some ⟨.tr (eL r20.2.1), 3, 1⟩, some ⟨.tr (eL r20.2.2), 42, 2⟩, some ⟨.mx [iA r10.pages, .os 8 0 r10.free.length, .os 9 0 r10.held.length], 30, 0⟩, some ⟨.tr (eL r26.2.1), 3, 1⟩, some ⟨.tr (eL r26.2.2), 42, 2⟩, some ⟨.tr (eL r32.free), 3, 1⟩, some ⟨.tr (eL r32.held), 42, 2⟩, some ⟨.tr (eL r34.free), 3, 1⟩, some ⟨.tr (eL r34.held), 42, 2⟩] rfl rfl ?_
  refine PL.ef rfl (Ef.alloc rfl rfl) ?_
  refine PL.nm (.op 14 0) [some ⟨.mx [iA p_aS.pages, sL p_aS.free, sL p_aS.held], 25, 0⟩, some ⟨.mx [iA r6.pages, .os 2 0 r6.free.length, .os 3 0 r6.held.length], 30, 0⟩, some ⟨.tr (eL r6.free), 3, 1⟩, some ⟨.tr (eL r6.held), 42, 2⟩, some ⟨.mx [iA r8.pages, .os 5 0 r8.free.length, .os 6 0 r8.held.length], 30, 0⟩, some ⟨.tr (eL r20.2.1), 3, 1⟩, some ⟨.tr (eL r20.2.2), 42, 2⟩, some ⟨.mx [iA r10.pages, .os 8 0 r10.free.length, .os 9 0 r10.held.length], 30, 0⟩, some ⟨.tr (eL r26.2.1), 3, 1⟩, some ⟨.tr (eL r26.2.2), 42, 2⟩, some ⟨.tr (eL r32.free), 3, 1⟩, some ⟨.tr (eL r32.held), 42, 2⟩, some ⟨.tr (eL r34.free), 3, 1⟩, some ⟨.tr (eL r34.held), 42, 2⟩, some ⟨.mx [iA (0 : Int), .t (.v (.slice none 0 0)), .t (.v (.slice none 0 0))], 30, 0⟩] rfl rfl ?_
  refine PL.store rfl rfl rfl rfl rfl rfl rfl ?_
  refine PL.nO [some ⟨.mx [iA p_aS.pages, sL p_aS.free, sL p_aS.held], 25, 0⟩, some ⟨.mx [iA r6.pages, .os 2 0 r6.free.length, .os 3 0 r6.held.length], 30, 0⟩, some ⟨.tr (eL r6.free), 3, 1⟩, some ⟨.tr (eL r6.held), 42, 2⟩, some ⟨.mx [iA r8.pages, .os 5 0 r8.free.length, .os 6 0 r8.held.length], 30, 0⟩, some ⟨.tr (eL r20.2.1), 3, 1⟩, some ⟨.tr (eL r20.2.2), 42, 2⟩, some ⟨.mx [iA r10.pages, .os 8 0 r10.free.length, .os 9 0 r10.held.length], 30, 0⟩, some ⟨.tr (eL r26.2.1), 3, 1⟩, some ⟨.tr (eL r26.2.2), 42, 2⟩, some ⟨.tr (eL r32.free), 3, 1⟩, some ⟨.tr (eL r32.held), 42, 2⟩, some ⟨.tr (eL r34.free), 3, 1⟩, some ⟨.tr (eL r34.held), 42, 2⟩, some ⟨.mx [iA r34.pages, .os 12 0 r34.free.length, .os 13 0 r34.held.length], 30, 0⟩] rfl ?_
  refine PL.nil ?_
  refine thA_n ?_
  refine PC.seq ?_
  refine PC.seq ?_
  obtain ⟨r36, h_37, hh0⟩ := bind_some hh0
  refine PC.region ?_
  refine PL.op rfl (Rd.loadBox rfl rfl rfl) ?_
  refine PL.op rfl (Rd.loadBox rfl rfl rfl) ?_
  refine PL.callM true [] (w_L_eqSpace N r34 r6 r36 h_37) rfl Try.call18 rfl ⟨.aggL ⟨.t _, .own rfl (by first | decide | exact List.not_mem_nil) rfl rfl, .own rfl (by first | decide | exact List.not_mem_nil) rfl rfl, trivial⟩, .aggL ⟨.t _, .own rfl (by first | decide | exact List.not_mem_nil) rfl rfl, .own rfl (by first | decide | exact List.not_mem_nil) rfl rfl, trivial⟩, trivial⟩ rfl trivial (fun _ => ⟨trivial, flat_nil⟩) ?_
  refine PL.op rfl (Rd.unnot rfl) ?_
  refine PL.nil ?_
  refine thA_n ?_
  rcases cond_some hh0 with ⟨h_38, hh0⟩ | ⟨h_38, hh0⟩
  rotate_left
  · refine PC.cond_true rfl (not_f h_38) ?_
    refine PC.seq ?_
    refine PC.region ?_
    refine PL.op rfl (Rd.asnT rfl) ?_
    refine PL.nil ?_
    refine thA_n ?_
    refine PC.ret ?_
    refine thA_r ?_
    obtain rfl := some_in hh0
    exact FinA.mk (r := bA false) (bl := []) [] (.inl rfl) rfl (rl := [.tmp 4]) (.tmp .nil) rfl rfl rfl (.t _) trivial ⟨rfl, rfl⟩
  refine PC.cond_false rfl (not_t h_38) ?_
  refine PC.skip ?_
  refine thA_n ?_
  refine PC.seq ?_
  refine PC.region ?_
  refine PL.op rfl (Rd.asnT rfl) ?_
  refine PL.nil ?_
  refine thA_n ?_
  refine PC.seq ?_
  obtain ⟨r39, h_40, hh0⟩ := bind_some hh0
  refine PC.region ?_
  refine PL.op rfl (Rd.loadBox rfl rfl rfl) ?_
  refine PL.op rfl (Rd.moveT rfl) ?_
  refine PL.callM true [] (w_L_heldSpace N (I_Space.mk r10.pages r26.2.1 r26.2.2) (1 : Int) r39 h_40) rfl Try.call29 rfl ⟨.aggL ⟨.t _, .own rfl (by first | decide | exact List.not_mem_nil) (by simp only [List.length_set, len_L_markSpace N _ _ _ h_27]) rfl, .own rfl (by first | decide | exact List.not_mem_nil) (by simp only [List.length_set, len_L_markSpace N _ _ _ h_27]) rfl, trivial⟩, .t _, trivial⟩ rfl trivial (fun _ => ⟨trivial, flat_nil⟩) ?_
  refine PL.op rfl (Rd.asnT rfl) ?_
  refine PL.nil ?_
  refine thA_n ?_
  refine PC.seq ?_
  refine PC.seq ?_
  refine PC.region ?_
  refine PL.op rfl (Rd.moveT rfl) ?_
  refine PL.op rfl (Rd.lss rfl rfl) ?_
  refine PL.nil ?_
  refine thA_n ?_
  rcases cond_some hh0 with ⟨h_41, hh0⟩ | ⟨h_41, hh0⟩
  · refine PC.cond_true rfl h_41 ?_
    refine PC.seq ?_
    refine PC.region ?_
    refine PL.op rfl (Rd.asnT rfl) ?_
    refine PL.nil ?_
    refine thA_n ?_
    refine PC.ret ?_
    refine thA_r ?_
    obtain rfl := some_in hh0
    exact FinA.mk (r := bA false) (bl := []) [] (.inl rfl) rfl (rl := [.tmp 4]) (.tmp .nil) rfl rfl rfl (.t _) trivial ⟨rfl, rfl⟩
  refine PC.cond_false rfl h_41 ?_
  refine PC.skip ?_
  refine thA_n ?_
  refine PC.seq ?_
  refine PC.seq ?_
  refine PC.region ?_
  refine PL.op rfl (Rd.moveT rfl) ?_
  refine PL.op rfl (Rd.moveT rfl) ?_
  refine PL.op rfl (Rd.neq rfl rfl) ?_
  refine PL.nil ?_
  refine thA_n ?_
  rcases cond_some hh0 with ⟨h_42, hh0⟩ | ⟨h_42, hh0⟩
  rotate_left
  · refine PC.cond_true rfl (not_f h_42) ?_
    refine PC.seq ?_
    refine PC.region ?_
    refine PL.op rfl (Rd.asnT rfl) ?_
    refine PL.nil ?_
    refine thA_n ?_
    refine PC.ret ?_
    refine thA_r ?_
    obtain rfl := some_in hh0
    exact FinA.mk (r := bA false) (bl := []) [] (.inl rfl) rfl (rl := [.tmp 4]) (.tmp .nil) rfl rfl rfl (.t _) trivial ⟨rfl, rfl⟩
  refine PC.cond_false rfl (not_t h_42) ?_
  refine PC.skip ?_
  refine thA_n ?_
  refine PC.seq ?_
  refine PC.region ?_
  refine PL.op rfl (Rd.asnT rfl) ?_
  refine PL.nil ?_
  refine thA_n ?_
  refine PC.ret ?_
  obtain rfl := some_in hh0
  exact FinA.mk (r := bA true) (bl := []) [] (.inl rfl) rfl (rl := [.tmp 4]) (.tmp .nil) rfl rfl rfl (.t _) trivial ⟨rfl, rfl⟩

end V
end Go.Proofs.Ytambkpacecjheaa
