/- Space: an exact law's function. No condition. -/
import Derived.Test.YtambkpacecjheaaPlSpX
import Derived.Test.YtambkpacecjheaaSpGa
namespace Go.Proofs.Ytambkpacecjheaa
namespace V
open Enc (enc)
set_option linter.unusedVariables false
set_option linter.unusedSimpArgs false
set_option maxHeartbeats 4000000
set_option maxRecDepth 100000
open Go.RowKit
attribute [local irreducible] thA inA FinA eL

def m_L_FnExactTakePage (N : Nat) (p_aS : L_Space) : Option (Bool) :=
  (m_L_szSpace N p_aS (1048576 : Int)).bind fun r1 =>
  cond (decide (r1 < (0 : Int)))
    (some true)
    ((m_L_toSpace N p_aS).bind fun r4 =>
    (m_S_TakePage N r4).bind fun r6 =>
    (m_L_toSpace N p_aS).bind fun r8 =>
    (m_I_TakePage N r8).bind fun r10 =>
    (m_L_eqSpace N r10.1 r6.1).bind fun r12 =>
    cond r12
      (cond (decide (r10.2.1 = r6.2.1))
        (cond (r10.2.2 == r6.2.2)
          ((m_L_toSpace N p_aS).bind fun r17 =>
          (m_L_eqSpace N r8 r17).bind fun r19 =>
          cond r19
            ((m_L_markSpace N r8 (1 : Int)).bind fun r22 =>
            cond (decide (r22.1 < (0 : Int)))
              (some false)
              ((m_L_eqSpace N r10.1 r6.1).bind fun r25 =>
              cond r25
                ((m_L_markSpace N r10.1 (1 : Int)).bind fun r28 =>
                (m_L_heldSpace N (I_Space.mk r10.1.pages r28.2.1 r28.2.2) (1 : Int)).bind fun r30 =>
                cond (decide (r30 < (0 : Int)))
                  (some false)
                  (cond (decide (r30 = r28.1))
                    ((m_L_toSpace N p_aS).bind fun r34 =>
                    (m_I_TakePage N r34).bind fun r36 =>
                    (m_L_eqSpace N r36.1 r6.1).bind fun r38 =>
                    cond r38
                      (cond (decide (r36.2.1 = r6.2.1))
                        (cond (r36.2.2 == r6.2.2)
                          ((m_L_heldSpace N (I_Space.mk r10.1.pages r28.2.1 r28.2.2) (1 : Int)).bind fun r43 =>
                          cond (decide (r43 < (0 : Int)))
                            (some false)
                            (cond (decide (r43 = r28.1))
                              (some true)
                              (some false)))
                          (some false))
                        (some false))
                      (some false))
                    (some false)))
                (some false)))
            (some false))
          (some false))
        (some false))
      (some false))
theorem w_L_FnExactTakePage (N : Nat) (p_aS : L_Space) (r : Bool) (hh0 : m_L_FnExactTakePage N p_aS = some r) : FnX Try.prog 8 [] [.agg [iA p_aS.pages, sL p_aS.free, sL p_aS.held]] (RE (bA r) []) := by
  unfold m_L_FnExactTakePage at hh0
  refine FnX.mk Try.func8 rfl rfl ?_
  intro s hs
  refine PC.seq ?_
  refine PC.region ?_
  refine PL.ef rfl (Ef.box rfl rfl rfl) ?_
  refine PL.nm (.op 0 0) [some ⟨.mx [iA p_aS.pages, sL p_aS.free, sL p_aS.held], 25, 0⟩] rfl rfl ?_
  refine PL.op rfl (Rd.asnT rfl) ?_
  refine PL.nil ?_
  refine thA_n ?_
  refine PC.seq ?_
  refine PC.region ?_
  refine PL.op rfl (Rd.asnT rfl) ?_
  refine PL.nil ?_
  refine thA_n ?_
  refine PC.seq ?_
  obtain ⟨r1, h_2, hh0⟩ := bind_some hh0
  refine PC.region ?_
  refine PL.op rfl (Rd.loadBox rfl rfl rfl) ?_
  refine PL.op rfl (Rd.moveT rfl) ?_
  refine PL.callM false [] (w_L_szSpace N p_aS (1048576 : Int) r1 h_2) rfl Try.call14 rfl ⟨.aggL ⟨.t _, .t _, .t _, trivial⟩, .t _, trivial⟩ rfl trivial (fun h => by cases h) ?_
  refine PL.op rfl (Rd.asnT rfl) ?_
  refine PL.nil ?_
  refine thA_n ?_
  refine PC.seq ?_
  refine PC.seq ?_
  refine PC.region ?_
  refine PL.op rfl (Rd.moveT rfl) ?_
  refine PL.op rfl (Rd.lss rfl rfl) ?_
  refine PL.nil ?_
  refine thA_n ?_
  rcases cond_some hh0 with ⟨h_3, hh0⟩ | ⟨h_3, hh0⟩
  · refine PC.cond_true rfl h_3 ?_
    refine PC.seq ?_
    refine PC.region ?_
    refine PL.op rfl (Rd.asnT rfl) ?_
    refine PL.nil ?_
    refine thA_n ?_
    refine PC.ret ?_
    refine thA_r ?_
    obtain rfl := some_in hh0
    exact FinA.mk (r := bA true) (bl := []) [] (.inl rfl) rfl (rl := [.tmp 2]) (.tmp .nil) rfl rfl rfl (.t _) trivial ⟨rfl, rfl⟩
  refine PC.cond_false rfl h_3 ?_
  refine PC.skip ?_
  refine thA_n ?_
  refine PC.seq ?_
  obtain ⟨r4, h_5, hh0⟩ := bind_some hh0
  obtain ⟨r6, h_7, hh0⟩ := bind_some hh0
  refine PC.region ?_
  refine PL.op rfl (Rd.loadBox rfl rfl rfl) ?_
  refine PL.callM false [] (w_L_toSpace N p_aS r4 h_5) rfl Try.call16 rfl ⟨.aggL ⟨.t _, .t _, .t _, trivial⟩, trivial⟩ rfl trivial (fun h => by cases h) ?_
  refine PL.nm (.agg [iA r4.pages, .os 1 0 r4.free.length, .os 2 0 r4.held.length]) [some ⟨.mx [iA p_aS.pages, sL p_aS.free, sL p_aS.held], 25, 0⟩, some ⟨.tr (eL r4.free), 3, 1⟩, some ⟨.tr (eL r4.held), 42, 2⟩] rfl rfl ?_
  refine PL.callM true [] (w_S_TakePage N r4 r6 h_7) rfl Try.call32 rfl ⟨.aggL ⟨.t _, .own rfl (by first | decide | exact List.not_mem_nil) rfl rfl, .own rfl (by first | decide | exact List.not_mem_nil) rfl rfl, trivial⟩, trivial⟩ rfl trivial (fun _ => ⟨⟨⟨trivial, trivial, trivial, trivial⟩, trivial, trivial, trivial⟩, (flat_cons flat_ow (flat_cons flat_ow flat_nil))⟩) ?_
  refine PL.nm (.tup [.agg [iA r6.1.pages, .os 3 0 r6.1.free.length, .os 4 0 r6.1.held.length], iA r6.2.1, bA r6.2.2]) [some ⟨.mx [iA p_aS.pages, sL p_aS.free, sL p_aS.held], 25, 0⟩, some ⟨.tr (eL r4.free), 3, 1⟩, some ⟨.tr (eL r4.held), 42, 2⟩, some ⟨.tr (eL r6.1.free), 3, 1⟩, some ⟨.tr (eL r6.1.held), 42, 2⟩] rfl rfl ?_
  refine PL.op rfl (Rd.moveU rfl) ?_
  refine PL.op rfl (Rd.extract rfl rfl) ?_
  refine PL.op rfl (Rd.extract rfl rfl) ?_
  refine PL.op rfl (Rd.extract rfl rfl) ?_
  refine PL.ef rfl (Ef.alloc rfl rfl) ?_
  refine PL.nm (.op 5 0) [some ⟨.mx [iA p_aS.pages, sL p_aS.free, sL p_aS.held], 25, 0⟩, some ⟨.tr (eL r4.free), 3, 1⟩, some ⟨.tr (eL r4.held), 42, 2⟩, some ⟨.tr (eL r6.1.free), 3, 1⟩, some ⟨.tr (eL r6.1.held), 42, 2⟩, some ⟨.mx [iA (0 : Int), .t (.v (.slice none 0 0)), .t (.v (.slice none 0 0))], 30, 0⟩] rfl rfl ?_
  refine PL.store rfl rfl rfl rfl rfl rfl rfl ?_
  refine PL.nO [some ⟨.mx [iA p_aS.pages, sL p_aS.free, sL p_aS.held], 25, 0⟩, some ⟨.tr (eL r4.free), 3, 1⟩, some ⟨.tr (eL r4.held), 42, 2⟩, some ⟨.tr (eL r6.1.free), 3, 1⟩, some ⟨.tr (eL r6.1.held), 42, 2⟩, some ⟨.mx [iA r6.1.pages, .os 3 0 r6.1.free.length, .os 4 0 r6.1.held.length], 30, 0⟩] rfl ?_
  refine PL.op rfl (Rd.asnT rfl) ?_
  refine PL.op rfl (Rd.asnT rfl) ?_
  refine PL.nil ?_
  refine thA_n ?_
  refine PC.seq ?_
  obtain ⟨r8, h_9, hh0⟩ := bind_some hh0
  refine PC.region ?_
  refine PL.op rfl (Rd.loadBox rfl rfl rfl) ?_
  refine PL.callM false [] (w_L_toSpace N p_aS r8 h_9) rfl Try.call16 rfl ⟨.aggL ⟨.t _, .t _, .t _, trivial⟩, trivial⟩ rfl trivial (fun h => by cases h) ?_
  refine PL.nm (.agg [iA r8.pages, .os 6 0 r8.free.length, .os 7 0 r8.held.length]) [some ⟨.mx [iA p_aS.pages, sL p_aS.free, sL p_aS.held], 25, 0⟩, some ⟨.tr (eL r4.free), 3, 1⟩, some ⟨.tr (eL r4.held), 42, 2⟩, some ⟨.tr (eL r6.1.free), 3, 1⟩, some ⟨.tr (eL r6.1.held), 42, 2⟩, some ⟨.mx [iA r6.1.pages, .os 3 0 r6.1.free.length, .os 4 0 r6.1.held.length], 30, 0⟩, some ⟨.tr (eL r8.free), 3, 1⟩, some ⟨.tr (eL r8.held), 42, 2⟩] rfl rfl ?_
  refine PL.ef rfl (Ef.alloc rfl rfl) ?_
  refine PL.nm (.op 8 0) [some ⟨.mx [iA p_aS.pages, sL p_aS.free, sL p_aS.held], 25, 0⟩, some ⟨.tr (eL r4.free), 3, 1⟩, some ⟨.tr (eL r4.held), 42, 2⟩, some ⟨.tr (eL r6.1.free), 3, 1⟩, some ⟨.tr (eL r6.1.held), 42, 2⟩, some ⟨.mx [iA r6.1.pages, .os 3 0 r6.1.free.length, .os 4 0 r6.1.held.length], 30, 0⟩, some ⟨.tr (eL r8.free), 3, 1⟩, some ⟨.tr (eL r8.held), 42, 2⟩, some ⟨.mx [iA (0 : Int), .t (.v (.slice none 0 0)), .t (.v (.slice none 0 0))], 30, 0⟩] rfl rfl ?_
  refine PL.store rfl rfl rfl rfl rfl rfl rfl ?_
  refine PL.nO [some ⟨.mx [iA p_aS.pages, sL p_aS.free, sL p_aS.held], 25, 0⟩, some ⟨.tr (eL r4.free), 3, 1⟩, some ⟨.tr (eL r4.held), 42, 2⟩, some ⟨.tr (eL r6.1.free), 3, 1⟩, some ⟨.tr (eL r6.1.held), 42, 2⟩, some ⟨.mx [iA r6.1.pages, .os 3 0 r6.1.free.length, .os 4 0 r6.1.held.length], 30, 0⟩, some ⟨.tr (eL r8.free), 3, 1⟩, some ⟨.tr (eL r8.held), 42, 2⟩, some ⟨.mx [iA r8.pages, .os 6 0 r8.free.length, .os 7 0 r8.held.length], 30, 0⟩] rfl ?_
  refine PL.nil ?_
  refine thA_n ?_
  refine PC.seq ?_
  obtain ⟨r10, h_11, hh0⟩ := bind_some hh0
  refine PC.region ?_
  refine PL.op rfl (Rd.loadBox rfl rfl rfl) ?_
  refine PL.callM true [] (w_I_TakePage N r8 r10 h_11) rfl Try.call33 rfl ⟨.aggL ⟨.t _, .own rfl (by first | decide | exact List.not_mem_nil) rfl rfl, .own rfl (by first | decide | exact List.not_mem_nil) rfl rfl, trivial⟩, trivial⟩ rfl trivial (fun _ => ⟨⟨⟨trivial, trivial, trivial, trivial⟩, trivial, trivial, trivial⟩, (flat_cons flat_ow (flat_cons flat_ow flat_nil))⟩) ?_
  refine PL.nm (.tup [.agg [iA r10.1.pages, .os 9 0 r10.1.free.length, .os 10 0 r10.1.held.length], iA r10.2.1, bA r10.2.2]) [some ⟨.mx [iA p_aS.pages, sL p_aS.free, sL p_aS.held], 25, 0⟩, some ⟨.tr (eL r4.free), 3, 1⟩, some ⟨.tr (eL r4.held), 42, 2⟩, some ⟨.tr (eL r6.1.free), 3, 1⟩, some ⟨.tr (eL r6.1.held), 42, 2⟩, some ⟨.mx [iA r6.1.pages, .os 3 0 r6.1.free.length, .os 4 0 r6.1.held.length], 30, 0⟩, some ⟨.tr (eL r8.free), 3, 1⟩, some ⟨.tr (eL r8.held), 42, 2⟩, some ⟨.mx [iA r8.pages, .os 6 0 r8.free.length, .os 7 0 r8.held.length], 30, 0⟩, some ⟨.tr (eL r10.1.free), 3, 1⟩, some ⟨.tr (eL r10.1.held), 42, 2⟩] rfl rfl ?_
  refine PL.op rfl (Rd.moveU rfl) ?_
  refine PL.op rfl (Rd.extract rfl rfl) ?_
  refine PL.op rfl (Rd.extract rfl rfl) ?_
  refine PL.op rfl (Rd.extract rfl rfl) ?_
  refine PL.ef rfl (Ef.alloc rfl rfl) ?_
  refine PL.nm (.op 11 0) [some ⟨.mx [iA p_aS.pages, sL p_aS.free, sL p_aS.held], 25, 0⟩, some ⟨.tr (eL r4.free), 3, 1⟩, some ⟨.tr (eL r4.held), 42, 2⟩, some ⟨.tr (eL r6.1.free), 3, 1⟩, some ⟨.tr (eL r6.1.held), 42, 2⟩, some ⟨.mx [iA r6.1.pages, .os 3 0 r6.1.free.length, .os 4 0 r6.1.held.length], 30, 0⟩, some ⟨.tr (eL r8.free), 3, 1⟩, some ⟨.tr (eL r8.held), 42, 2⟩, some ⟨.mx [iA r8.pages, .os 6 0 r8.free.length, .os 7 0 r8.held.length], 30, 0⟩, some ⟨.tr (eL r10.1.free), 3, 1⟩, some ⟨.tr (eL r10.1.held), 42, 2⟩, some ⟨.mx [iA (0 : Int), .t (.v (.slice none 0 0)), .t (.v (.slice none 0 0))], 30, 0⟩] rfl rfl ?_
  refine PL.store rfl rfl rfl rfl rfl rfl rfl ?_
  refine PL.nO [some ⟨.mx [iA p_aS.pages, sL p_aS.free, sL p_aS.held], 25, 0⟩, some ⟨.tr (eL r4.free), 3, 1⟩, some ⟨.tr (eL r4.held), 42, 2⟩, some ⟨.tr (eL r6.1.free), 3, 1⟩, some ⟨.tr (eL r6.1.held), 42, 2⟩, some ⟨.mx [iA r6.1.pages, .os 3 0 r6.1.free.length, .os 4 0 r6.1.held.length], 30, 0⟩, some ⟨.tr (eL r8.free), 3, 1⟩, some ⟨.tr (eL r8.held), 42, 2⟩, some ⟨.mx [iA r8.pages, .os 6 0 r8.free.length, .os 7 0 r8.held.length], 30, 0⟩, some ⟨.tr (eL r10.1.free), 3, 1⟩, some ⟨.tr (eL r10.1.held), 42, 2⟩, some ⟨.mx [iA r10.1.pages, .os 9 0 r10.1.free.length, .os 10 0 r10.1.held.length], 30, 0⟩] rfl ?_
  refine PL.op rfl (Rd.asnT rfl) ?_
  refine PL.op rfl (Rd.asnT rfl) ?_
  refine PL.nil ?_
  refine thA_n ?_
  refine PC.seq ?_
  refine PC.seq ?_
  obtain ⟨r12, h_13, hh0⟩ := bind_some hh0
  rcases cond_some hh0 with ⟨h_14, hh0⟩ | ⟨h_14, hh0⟩
  rotate_left
  · refine PC.region ?_
    refine PL.op rfl (Rd.loadBox rfl rfl rfl) ?_
    refine PL.op rfl (Rd.loadBox rfl rfl rfl) ?_
    refine PL.callM true [] (w_L_eqSpace N r10.1 r6.1 r12 h_13) rfl Try.call18 rfl ⟨.aggL ⟨.t _, .own rfl (by first | decide | exact List.not_mem_nil) rfl rfl, .own rfl (by first | decide | exact List.not_mem_nil) rfl rfl, trivial⟩, .aggL ⟨.t _, .own rfl (by first | decide | exact List.not_mem_nil) rfl rfl, .own rfl (by first | decide | exact List.not_mem_nil) rfl rfl, trivial⟩, trivial⟩ rfl trivial (fun _ => ⟨trivial, flat_nil⟩) ?_
    refine PL.op rfl (Rd.unnot rfl) ?_
    refine PL.op rfl (Rd.moveT rfl) ?_
    refine PL.guard_off rfl rfl (not_f h_14) ?_
    refine PL.guard_off rfl rfl (not_f h_14) ?_
    refine PL.guard_off rfl rfl (not_f h_14) ?_
    refine PL.op rfl (Rd.pick_t rfl (not_f h_14)) ?_
    refine PL.op rfl (Rd.moveT rfl) ?_
    refine PL.guard_off rfl rfl rfl ?_
    refine PL.guard_off rfl rfl rfl ?_
    refine PL.guard_off rfl rfl rfl ?_
    refine PL.op rfl (Rd.pick_t rfl rfl) ?_
    refine PL.nil ?_
    refine thA_n ?_
    refine PC.cond_true rfl rfl ?_
    refine PC.seq ?_
    refine PC.region ?_
    refine PL.op rfl (Rd.asnT rfl) ?_
    refine PL.nil ?_
    refine thA_n ?_
    refine PC.ret ?_
    refine thA_r ?_
    obtain rfl := some_in hh0
    exact FinA.mk (r := bA false) (bl := []) [] (.inl rfl) rfl (rl := [.tmp 2]) (.tmp .nil) rfl rfl rfl (.t _) trivial ⟨rfl, rfl⟩
  rcases cond_some hh0 with ⟨h_15, hh0⟩ | ⟨h_15, hh0⟩
  rotate_left
  · refine PC.region ?_
    refine PL.op rfl (Rd.loadBox rfl rfl rfl) ?_
    refine PL.op rfl (Rd.loadBox rfl rfl rfl) ?_
    refine PL.callM true [] (w_L_eqSpace N r10.1 r6.1 r12 h_13) rfl Try.call18 rfl ⟨.aggL ⟨.t _, .own rfl (by first | decide | exact List.not_mem_nil) rfl rfl, .own rfl (by first | decide | exact List.not_mem_nil) rfl rfl, trivial⟩, .aggL ⟨.t _, .own rfl (by first | decide | exact List.not_mem_nil) rfl rfl, .own rfl (by first | decide | exact List.not_mem_nil) rfl rfl, trivial⟩, trivial⟩ rfl trivial (fun _ => ⟨trivial, flat_nil⟩) ?_
    refine PL.op rfl (Rd.unnot rfl) ?_
    refine PL.op rfl (Rd.moveT rfl) ?_
    refine PL.guard_on rfl (not_t h_14) ?_
    refine PL.op rfl (Rd.moveT rfl) ?_
    refine PL.guard_on rfl (not_t h_14) ?_
    refine PL.op rfl (Rd.moveT rfl) ?_
    refine PL.guard_on rfl (not_t h_14) ?_
    refine PL.op rfl (Rd.neq rfl rfl) ?_
    refine PL.op rfl (Rd.pick_f rfl (not_t h_14)) ?_
    refine PL.op rfl (Rd.moveT rfl) ?_
    refine PL.guard_off rfl rfl (not_f h_15) ?_
    refine PL.guard_off rfl rfl (not_f h_15) ?_
    refine PL.guard_off rfl rfl (not_f h_15) ?_
    refine PL.op rfl (Rd.pick_t rfl (not_f h_15)) ?_
    refine PL.nil ?_
    refine thA_n ?_
    refine PC.cond_true rfl rfl ?_
    refine PC.seq ?_
    refine PC.region ?_
    refine PL.op rfl (Rd.asnT rfl) ?_
    refine PL.nil ?_
    refine thA_n ?_
    refine PC.ret ?_
    refine thA_r ?_
    obtain rfl := some_in hh0
    exact FinA.mk (r := bA false) (bl := []) [] (.inl rfl) rfl (rl := [.tmp 2]) (.tmp .nil) rfl rfl rfl (.t _) trivial ⟨rfl, rfl⟩
  refine PC.region ?_
  refine PL.op rfl (Rd.loadBox rfl rfl rfl) ?_
  refine PL.op rfl (Rd.loadBox rfl rfl rfl) ?_
  refine PL.callM true [] (w_L_eqSpace N r10.1 r6.1 r12 h_13) rfl Try.call18 rfl ⟨.aggL ⟨.t _, .own rfl (by first | decide | exact List.not_mem_nil) rfl rfl, .own rfl (by first | decide | exact List.not_mem_nil) rfl rfl, trivial⟩, .aggL ⟨.t _, .own rfl (by first | decide | exact List.not_mem_nil) rfl rfl, .own rfl (by first | decide | exact List.not_mem_nil) rfl rfl, trivial⟩, trivial⟩ rfl trivial (fun _ => ⟨trivial, flat_nil⟩) ?_
  refine PL.op rfl (Rd.unnot rfl) ?_
  refine PL.op rfl (Rd.moveT rfl) ?_
  refine PL.guard_on rfl (not_t h_14) ?_
  refine PL.op rfl (Rd.moveT rfl) ?_
  refine PL.guard_on rfl (not_t h_14) ?_
  refine PL.op rfl (Rd.moveT rfl) ?_
  refine PL.guard_on rfl (not_t h_14) ?_
  refine PL.op rfl (Rd.neq rfl rfl) ?_
  refine PL.op rfl (Rd.pick_f rfl (not_t h_14)) ?_
  refine PL.op rfl (Rd.moveT rfl) ?_
  refine PL.guard_on rfl (not_t h_15) ?_
  refine PL.op rfl (Rd.moveT rfl) ?_
  refine PL.guard_on rfl (not_t h_15) ?_
  refine PL.op rfl (Rd.moveT rfl) ?_
  refine PL.guard_on rfl (not_t h_15) ?_
  refine PL.op rfl (Rd.neqB rfl rfl) ?_
  refine PL.op rfl (Rd.pick_f rfl (not_t h_15)) ?_
  refine PL.nil ?_
  refine thA_n ?_
  rcases cond_some hh0 with ⟨h_16, hh0⟩ | ⟨h_16, hh0⟩
  rotate_left
  · refine PC.cond_true rfl (not_f h_16) ?_
    refine PC.seq ?_
    refine PC.region ?_
    refine PL.op rfl (Rd.asnT rfl) ?_
    refine PL.nil ?_
    refine thA_n ?_
    refine PC.ret ?_
    refine thA_r ?_
    obtain rfl := some_in hh0
    exact FinA.mk (r := bA false) (bl := []) [] (.inl rfl) rfl (rl := [.tmp 2]) (.tmp .nil) rfl rfl rfl (.t _) trivial ⟨rfl, rfl⟩
  refine PC.cond_false rfl (not_t h_16) ?_
  refine PC.skip ?_
  refine thA_n ?_
  refine PC.seq ?_
  obtain ⟨r17, h_18, hh0⟩ := bind_some hh0
  obtain ⟨r19, h_20, hh0⟩ := bind_some hh0
  refine PC.cut hs (fun _ : Unit => [(1, .op 0 0), (4, .op 1 0), (5, iA r6.2.1), (6, bA r6.2.2), (7, .op 4 0), (8, .op 7 0), (9, iA r10.2.1), (10, bA r10.2.2), (55, bA (!r19))]) (fun _ => [⟨.mx [iA p_aS.pages, sL p_aS.free, sL p_aS.held], 25, 0⟩, ⟨.mx [iA r6.1.pages, .os 2 0 r6.1.free.length, .os 3 0 r6.1.held.length], 30, 0⟩, ⟨.tr (eL r6.1.free), 3, 1⟩, ⟨.tr (eL r6.1.held), 42, 2⟩, ⟨.mx [iA r8.pages, .os 5 0 r8.free.length, .os 6 0 r8.held.length], 30, 0⟩, ⟨.tr (eL r8.free), 3, 1⟩, ⟨.tr (eL r8.held), 42, 2⟩, ⟨.mx [iA r10.1.pages, .os 8 0 r10.1.free.length, .os 9 0 r10.1.held.length], 30, 0⟩, ⟨.tr (eL r10.1.free), 3, 1⟩, ⟨.tr (eL r10.1.held), 42, 2⟩]) (fun _ => True) ?_ ?_
  · refine PC.any (id := 10) 5 (.seg [1] (.fork (.seg [0, 2, 3, 4] .done) (.seg [2, 0, 3, 4] .done))) [] rfl (by kernel_rfl) rfl ?_
    refine PT.seg ?_
    refine PR.op rfl (Rd.loadBox rfl rfl rfl) ?_
    refine PR.nil ?_
    refine PT.fork ?_ ?_
    · refine PT.seg ?_
      refine PR.rdE rfl rfl (Rd.loadBox rfl rfl rfl) ?_
      refine PR.callM false [] (w_L_toSpace N p_aS r17 h_18) rfl Try.call16 rfl ⟨.aggL ⟨.t _, .t _, .t _, trivial⟩, trivial⟩ rfl trivial (fun h => by cases h) rfl ?_
      refine PR.nm (.agg [iA r17.pages, .os 12 0 r17.free.length, .os 13 0 r17.held.length]) [some ⟨.mx [iA p_aS.pages, sL p_aS.free, sL p_aS.held], 25, 0⟩, some ⟨.tr (eL r4.free), 3, 1⟩, some ⟨.tr (eL r4.held), 42, 2⟩, some ⟨.tr (eL r6.1.free), 3, 1⟩, some ⟨.tr (eL r6.1.held), 42, 2⟩, some ⟨.mx [iA r6.1.pages, .os 3 0 r6.1.free.length, .os 4 0 r6.1.held.length], 30, 0⟩, some ⟨.tr (eL r8.free), 3, 1⟩, some ⟨.tr (eL r8.held), 42, 2⟩, some ⟨.mx [iA r8.pages, .os 6 0 r8.free.length, .os 7 0 r8.held.length], 30, 0⟩, some ⟨.tr (eL r10.1.free), 3, 1⟩, some ⟨.tr (eL r10.1.held), 42, 2⟩, some ⟨.mx [iA r10.1.pages, .os 9 0 r10.1.free.length, .os 10 0 r10.1.held.length], 30, 0⟩, some ⟨.tr (eL r17.free), 3, 1⟩, some ⟨.tr (eL r17.held), 42, 2⟩] rfl rfl ?_
      refine PR.callM true [] (w_L_eqSpace N r8 r17 r19 h_20) rfl Try.call18 rfl ⟨.aggL ⟨.t _, .own rfl (by first | decide | exact List.not_mem_nil) rfl rfl, .own rfl (by first | decide | exact List.not_mem_nil) rfl rfl, trivial⟩, .aggL ⟨.t _, .own rfl (by first | decide | exact List.not_mem_nil) rfl rfl, .own rfl (by first | decide | exact List.not_mem_nil) rfl rfl, trivial⟩, trivial⟩ rfl trivial (fun _ => ⟨trivial, flat_nil⟩) rfl ?_
      refine PR.op rfl (Rd.unnot rfl) ?_
      refine PR.nil ?_
      refine PT.done ?_
      refine PL.nil ?_
      refine thA_n ?_
      exact ⟨(), trivial, [some 0, some 5, some 3, some 4, some 8, some 6, some 7, some 11, some 9, some 10], ⟨rfl, rfl, ⟨⟨_, rfl, rfl, rfl, .mx ⟨.t _, .t _, .t _, trivial⟩⟩, ⟨_, rfl, rfl, rfl, .mx ⟨.t _, .os rfl, .os rfl, trivial⟩⟩, ⟨_, rfl, rfl, rfl, .tr _⟩, ⟨_, rfl, rfl, rfl, .tr _⟩, ⟨_, rfl, rfl, rfl, .mx ⟨.t _, .os rfl, .os rfl, trivial⟩⟩, ⟨_, rfl, rfl, rfl, .tr _⟩, ⟨_, rfl, rfl, rfl, .tr _⟩, ⟨_, rfl, rfl, rfl, .mx ⟨.t _, .os rfl, .os rfl, trivial⟩⟩, ⟨_, rfl, rfl, rfl, .tr _⟩, ⟨_, rfl, rfl, rfl, .tr _⟩, trivial⟩, ⟨.op rfl, .op rfl, .t _, .t _, .op rfl, .op rfl, .t _, .t _, .t _, trivial⟩⟩⟩
    refine PT.seg ?_
    refine PR.callM false [] (w_L_toSpace N p_aS r17 h_18) rfl Try.call16 rfl ⟨.aggL ⟨.t _, .t _, .t _, trivial⟩, trivial⟩ rfl trivial (fun h => by cases h) rfl ?_
    refine PR.nm (.agg [iA r17.pages, .os 12 0 r17.free.length, .os 13 0 r17.held.length]) [some ⟨.mx [iA p_aS.pages, sL p_aS.free, sL p_aS.held], 25, 0⟩, some ⟨.tr (eL r4.free), 3, 1⟩, some ⟨.tr (eL r4.held), 42, 2⟩, some ⟨.tr (eL r6.1.free), 3, 1⟩, some ⟨.tr (eL r6.1.held), 42, 2⟩, some ⟨.mx [iA r6.1.pages, .os 3 0 r6.1.free.length, .os 4 0 r6.1.held.length], 30, 0⟩, some ⟨.tr (eL r8.free), 3, 1⟩, some ⟨.tr (eL r8.held), 42, 2⟩, some ⟨.mx [iA r8.pages, .os 6 0 r8.free.length, .os 7 0 r8.held.length], 30, 0⟩, some ⟨.tr (eL r10.1.free), 3, 1⟩, some ⟨.tr (eL r10.1.held), 42, 2⟩, some ⟨.mx [iA r10.1.pages, .os 9 0 r10.1.free.length, .os 10 0 r10.1.held.length], 30, 0⟩, some ⟨.tr (eL r17.free), 3, 1⟩, some ⟨.tr (eL r17.held), 42, 2⟩] rfl rfl ?_
    refine PR.rdE rfl rfl (Rd.loadBox rfl rfl rfl) ?_
    refine PR.callM true [] (w_L_eqSpace N r8 r17 r19 h_20) rfl Try.call18 rfl ⟨.aggL ⟨.t _, .own rfl (by first | decide | exact List.not_mem_nil) rfl rfl, .own rfl (by first | decide | exact List.not_mem_nil) rfl rfl, trivial⟩, .aggL ⟨.t _, .own rfl (by first | decide | exact List.not_mem_nil) rfl rfl, .own rfl (by first | decide | exact List.not_mem_nil) rfl rfl, trivial⟩, trivial⟩ rfl trivial (fun _ => ⟨trivial, flat_nil⟩) rfl ?_
    refine PR.op rfl (Rd.unnot rfl) ?_
    refine PR.nil ?_
    refine PT.done ?_
    refine PL.nil ?_
    refine thA_n ?_
    exact ⟨(), trivial, [some 0, some 5, some 3, some 4, some 8, some 6, some 7, some 11, some 9, some 10], ⟨rfl, rfl, ⟨⟨_, rfl, rfl, rfl, .mx ⟨.t _, .t _, .t _, trivial⟩⟩, ⟨_, rfl, rfl, rfl, .mx ⟨.t _, .os rfl, .os rfl, trivial⟩⟩, ⟨_, rfl, rfl, rfl, .tr _⟩, ⟨_, rfl, rfl, rfl, .tr _⟩, ⟨_, rfl, rfl, rfl, .mx ⟨.t _, .os rfl, .os rfl, trivial⟩⟩, ⟨_, rfl, rfl, rfl, .tr _⟩, ⟨_, rfl, rfl, rfl, .tr _⟩, ⟨_, rfl, rfl, rfl, .mx ⟨.t _, .os rfl, .os rfl, trivial⟩⟩, ⟨_, rfl, rfl, rfl, .tr _⟩, ⟨_, rfl, rfl, rfl, .tr _⟩, trivial⟩, ⟨.op rfl, .op rfl, .t _, .t _, .op rfl, .op rfl, .t _, .t _, .t _, trivial⟩⟩⟩
  rintro ⟨⟩ -
  rcases cond_some hh0 with ⟨h_21, hh0⟩ | ⟨h_21, hh0⟩
  rotate_left
  · refine PC.cond_true rfl (not_f h_21) ?_
    refine PC.seq ?_
    refine PC.region ?_
    refine PL.op rfl (Rd.asnT rfl) ?_
    refine PL.nil ?_
    refine thA_n ?_
    refine PC.ret ?_
    refine thA_r ?_
    obtain rfl := some_in hh0
    exact FinA.mk (r := bA false) (bl := []) [] (.inl rfl) rfl (rl := [.tmp 2]) (.tmp .nil) rfl rfl rfl (.t _) trivial ⟨rfl, rfl⟩
  refine PC.cond_false rfl (not_t h_21) ?_
  refine PC.skip ?_
  refine thA_n ?_
  refine PC.seq ?_
  refine PC.region ?_
  refine PL.op rfl (Rd.asnT rfl) ?_
  refine PL.nil ?_
  refine thA_n ?_
  refine PC.seq ?_
  obtain ⟨r22, h_23, hh0⟩ := bind_some hh0
  refine PC.region ?_
  refine PL.op rfl (Rd.loadBox rfl rfl rfl) ?_
  refine PL.op rfl (Rd.moveT rfl) ?_
  refine PL.callM false [5, 6] (w_L_markSpace N r8 (1 : Int) r22 h_23) rfl Try.call22 rfl ⟨.aggL ⟨.t _, .os rfl, .os rfl, trivial⟩, .t _, trivial⟩ rfl ⟨⟨_, rfl, rfl, rfl, .tr _⟩, ⟨_, rfl, rfl, rfl, .tr _⟩, trivial⟩ (fun h => by cases h) ?_
  refine PL.nm (iA r22.1) [some ⟨.mx [iA p_aS.pages, sL p_aS.free, sL p_aS.held], 25, 0⟩, some ⟨.mx [iA r6.1.pages, .os 2 0 r6.1.free.length, .os 3 0 r6.1.held.length], 30, 0⟩, some ⟨.tr (eL r6.1.free), 3, 1⟩, some ⟨.tr (eL r6.1.held), 42, 2⟩, some ⟨.mx [iA r8.pages, .os 5 0 r8.free.length, .os 6 0 r8.held.length], 30, 0⟩, some ⟨.tr (eL r22.2.1), 3, 1⟩, some ⟨.tr (eL r22.2.2), 42, 2⟩, some ⟨.mx [iA r10.1.pages, .os 8 0 r10.1.free.length, .os 9 0 r10.1.held.length], 30, 0⟩, some ⟨.tr (eL r10.1.free), 3, 1⟩, some ⟨.tr (eL r10.1.held), 42, 2⟩] rfl rfl ?_
  refine PL.op rfl (Rd.asnT rfl) ?_
  refine PL.nil ?_
  refine thA_n ?_
  refine PC.seq ?_
  refine PC.seq ?_
  rcases cond_some hh0 with ⟨h_24, hh0⟩ | ⟨h_24, hh0⟩
  · refine PC.region ?_
    refine PL.op rfl (Rd.moveT rfl) ?_
    refine PL.op rfl (Rd.lss rfl rfl) ?_
    refine PL.op rfl (Rd.moveT rfl) ?_
    refine PL.guard_off rfl rfl h_24 ?_
    refine PL.guard_off rfl rfl h_24 ?_
    refine PL.guard_off rfl rfl h_24 ?_
    refine PL.guard_off rfl rfl h_24 ?_
    refine PL.op rfl (Rd.pick_t rfl h_24) ?_
    refine PL.op rfl (Rd.moveT rfl) ?_
    refine PL.guard_off rfl rfl rfl ?_
    refine PL.guard_off rfl rfl rfl ?_
    refine PL.guard_off rfl rfl rfl ?_
    refine PL.op rfl (Rd.pick_t rfl rfl) ?_
    refine PL.op rfl (Rd.moveT rfl) ?_
    refine PL.guard_off rfl rfl rfl ?_
    refine PL.guard_off rfl rfl rfl ?_
    refine PL.guard_off rfl rfl rfl ?_
    refine PL.op rfl (Rd.pick_t rfl rfl) ?_
    refine PL.nil ?_
    refine thA_n ?_
    refine PC.cond_true rfl rfl ?_
    refine PC.seq ?_
    refine PC.region ?_
    refine PL.op rfl (Rd.asnT rfl) ?_
    refine PL.nil ?_
    refine thA_n ?_
    refine PC.ret ?_
    refine thA_r ?_
    obtain rfl := some_in hh0
    exact FinA.mk (r := bA false) (bl := []) [] (.inl rfl) rfl (rl := [.tmp 2]) (.tmp .nil) rfl rfl rfl (.t _) trivial ⟨rfl, rfl⟩
  obtain ⟨r25, h_26, hh0⟩ := bind_some hh0
  rcases cond_some hh0 with ⟨h_27, hh0⟩ | ⟨h_27, hh0⟩
  rotate_left
  · refine PC.region ?_
    refine PL.op rfl (Rd.moveT rfl) ?_
    refine PL.op rfl (Rd.lss rfl rfl) ?_
    refine PL.op rfl (Rd.moveT rfl) ?_
    refine PL.guard_on rfl h_24 ?_
    refine PL.op rfl (Rd.loadBox rfl rfl rfl) ?_
    refine PL.guard_on rfl h_24 ?_
    refine PL.op rfl (Rd.loadBox rfl rfl rfl) ?_
    refine PL.guard_on rfl h_24 ?_
    refine PL.callM true [] (w_L_eqSpace N r10.1 r6.1 r25 h_26) rfl Try.call18 rfl ⟨.aggL ⟨.t _, .own rfl (by first | decide | exact List.not_mem_nil) rfl rfl, .own rfl (by first | decide | exact List.not_mem_nil) rfl rfl, trivial⟩, .aggL ⟨.t _, .own rfl (by first | decide | exact List.not_mem_nil) rfl rfl, .own rfl (by first | decide | exact List.not_mem_nil) rfl rfl, trivial⟩, trivial⟩ rfl trivial (fun _ => ⟨trivial, flat_nil⟩) ?_
    refine PL.guard_on rfl h_24 ?_
    refine PL.op rfl (Rd.unnot rfl) ?_
    refine PL.op rfl (Rd.pick_f rfl h_24) ?_
    refine PL.op rfl (Rd.moveT rfl) ?_
    refine PL.guard_off rfl rfl (not_f h_27) ?_
    refine PL.guard_off rfl rfl (not_f h_27) ?_
    refine PL.guard_off rfl rfl (not_f h_27) ?_
    refine PL.op rfl (Rd.pick_t rfl (not_f h_27)) ?_
    refine PL.op rfl (Rd.moveT rfl) ?_
    refine PL.guard_off rfl rfl rfl ?_
    refine PL.guard_off rfl rfl rfl ?_
    refine PL.guard_off rfl rfl rfl ?_
    refine PL.op rfl (Rd.pick_t rfl rfl) ?_
    refine PL.nil ?_
    refine thA_n ?_
    refine PC.cond_true rfl rfl ?_
    refine PC.seq ?_
    refine PC.region ?_
    refine PL.op rfl (Rd.asnT rfl) ?_
    refine PL.nil ?_
    refine thA_n ?_
    refine PC.ret ?_
    refine thA_r ?_
    obtain rfl := some_in hh0
    exact FinA.mk (r := bA false) (bl := []) [] (.inl rfl) rfl (rl := [.tmp 2]) (.tmp .nil) rfl rfl rfl (.t _) trivial ⟨rfl, rfl⟩
  refine PC.region ?_
  refine PL.op rfl (Rd.moveT rfl) ?_
  refine PL.op rfl (Rd.lss rfl rfl) ?_
  refine PL.op rfl (Rd.moveT rfl) ?_
  refine PL.guard_on rfl h_24 ?_
  refine PL.op rfl (Rd.loadBox rfl rfl rfl) ?_
  refine PL.guard_on rfl h_24 ?_
  refine PL.op rfl (Rd.loadBox rfl rfl rfl) ?_
  refine PL.guard_on rfl h_24 ?_
  refine PL.callM true [] (w_L_eqSpace N r10.1 r6.1 r25 h_26) rfl Try.call18 rfl ⟨.aggL ⟨.t _, .own rfl (by first | decide | exact List.not_mem_nil) rfl rfl, .own rfl (by first | decide | exact List.not_mem_nil) rfl rfl, trivial⟩, .aggL ⟨.t _, .own rfl (by first | decide | exact List.not_mem_nil) rfl rfl, .own rfl (by first | decide | exact List.not_mem_nil) rfl rfl, trivial⟩, trivial⟩ rfl trivial (fun _ => ⟨trivial, flat_nil⟩) ?_
  refine PL.guard_on rfl h_24 ?_
  refine PL.op rfl (Rd.unnot rfl) ?_
  refine PL.op rfl (Rd.pick_f rfl h_24) ?_
  refine PL.op rfl (Rd.moveT rfl) ?_
  refine PL.guard_on rfl (not_t h_27) ?_
  refine PL.op rfl (Rd.moveT rfl) ?_
  refine PL.guard_on rfl (not_t h_27) ?_
  refine PL.op rfl (Rd.moveT rfl) ?_
  refine PL.guard_on rfl (not_t h_27) ?_
  refine PL.op rfl (Rd.neq rfl rfl) ?_
  refine PL.op rfl (Rd.pick_f rfl (not_t h_27)) ?_
  refine PL.op rfl (Rd.moveT rfl) ?_
  refine PL.guard_on rfl (not_t h_15) ?_
  refine PL.op rfl (Rd.moveT rfl) ?_
  refine PL.guard_on rfl (not_t h_15) ?_
  refine PL.op rfl (Rd.moveT rfl) ?_
  refine PL.guard_on rfl (not_t h_15) ?_
  refine PL.op rfl (Rd.neqB rfl rfl) ?_
  refine PL.op rfl (Rd.pick_f rfl (not_t h_15)) ?_
  refine PL.nil ?_
  refine thA_n ?_
  refine PC.cond_false rfl (not_t h_16) ?_
  refine PC.skip ?_
  refine thA_n ?_
  refine PC.seq ?_
  refine PC.region ?_
  refine PL.op rfl (Rd.asnT rfl) ?_
  refine PL.nil ?_
  refine thA_n ?_
  refine PC.seq ?_
  obtain ⟨r28, h_29, hh0⟩ := bind_some hh0
  refine PC.region ?_
  refine PL.op rfl (Rd.loadBox rfl rfl rfl) ?_
  refine PL.op rfl (Rd.moveT rfl) ?_
  refine PL.callM false [8, 9] (w_L_markSpace N r10.1 (1 : Int) r28 h_29) rfl Try.call22 rfl ⟨.aggL ⟨.t _, .os rfl, .os rfl, trivial⟩, .t _, trivial⟩ rfl ⟨⟨_, rfl, rfl, rfl, .tr _⟩, ⟨_, rfl, rfl, rfl, .tr _⟩, trivial⟩ (fun h => by cases h) ?_
  refine PL.nm (iA r28.1) [some ⟨.mx [iA p_aS.pages, sL p_aS.free, sL p_aS.held], 25, 0⟩, some ⟨.mx [iA r6.1.pages, .os 2 0 r6.1.free.length, .os 3 0 r6.1.held.length], 30, 0⟩, some ⟨.tr (eL r6.1.free), 3, 1⟩, some ⟨.tr (eL r6.1.held), 42, 2⟩, some ⟨.mx [iA r8.pages, .os 5 0 r8.free.length, .os 6 0 r8.held.length], 30, 0⟩, some ⟨.tr (eL r22.2.1), 3, 1⟩, some ⟨.tr (eL r22.2.2), 42, 2⟩, some ⟨.mx [iA r10.1.pages, .os 8 0 r10.1.free.length, .os 9 0 r10.1.held.length], 30, 0⟩, some ⟨.tr (eL r28.2.1), 3, 1⟩, some ⟨.tr (eL r28.2.2), 42, 2⟩] rfl rfl ?_
  refine PL.op rfl (Rd.asnT rfl) ?_
  refine PL.nil ?_
  refine thA_n ?_
  refine PC.seq ?_
  refine PC.region ?_
  refine PL.op rfl (Rd.asnT rfl) ?_
  refine PL.nil ?_
  refine thA_n ?_
  refine PC.seq ?_
  obtain ⟨r30, h_31, hh0⟩ := bind_some hh0
  refine PC.region ?_
  refine PL.op rfl (Rd.loadBox rfl rfl rfl) ?_
  refine PL.op rfl (Rd.moveT rfl) ?_
  refine PL.callM true [] (w_L_heldSpace N (I_Space.mk r10.1.pages r28.2.1 r28.2.2) (1 : Int) r30 h_31) rfl Try.call29 rfl ⟨.aggL ⟨.t _, .own rfl (by first | decide | exact List.not_mem_nil) (by simp only [List.length_set, len_L_markSpace N _ _ _ h_29]) rfl, .own rfl (by first | decide | exact List.not_mem_nil) (by simp only [List.length_set, len_L_markSpace N _ _ _ h_29]) rfl, trivial⟩, .t _, trivial⟩ rfl trivial (fun _ => ⟨trivial, flat_nil⟩) ?_
  refine PL.op rfl (Rd.asnT rfl) ?_
  refine PL.nil ?_
  refine thA_n ?_
  refine PC.seq ?_
  refine PC.seq ?_
  refine PC.region ?_
  refine PL.op rfl (Rd.moveT rfl) ?_
  refine PL.op rfl (Rd.lss rfl rfl) ?_
  refine PL.nil ?_
  refine thA_n ?_
  rcases cond_some hh0 with ⟨h_32, hh0⟩ | ⟨h_32, hh0⟩
  · refine PC.cond_true rfl h_32 ?_
    refine PC.seq ?_
    refine PC.region ?_
    refine PL.op rfl (Rd.asnT rfl) ?_
    refine PL.nil ?_
    refine thA_n ?_
    refine PC.ret ?_
    refine thA_r ?_
    obtain rfl := some_in hh0
    exact FinA.mk (r := bA false) (bl := []) [] (.inl rfl) rfl (rl := [.tmp 2]) (.tmp .nil) rfl rfl rfl (.t _) trivial ⟨rfl, rfl⟩
  refine PC.cond_false rfl h_32 ?_
  refine PC.skip ?_
  refine thA_n ?_
  refine PC.seq ?_
  refine PC.seq ?_
  refine PC.region ?_
  refine PL.op rfl (Rd.moveT rfl) ?_
  refine PL.op rfl (Rd.moveT rfl) ?_
  refine PL.op rfl (Rd.neq rfl rfl) ?_
  refine PL.nil ?_
  refine thA_n ?_
  rcases cond_some hh0 with ⟨h_33, hh0⟩ | ⟨h_33, hh0⟩
  rotate_left
  · refine PC.cond_true rfl (not_f h_33) ?_
    refine PC.seq ?_
    refine PC.region ?_
    refine PL.op rfl (Rd.asnT rfl) ?_
    refine PL.nil ?_
    refine thA_n ?_
    refine PC.ret ?_
    refine thA_r ?_
    obtain rfl := some_in hh0
    exact FinA.mk (r := bA false) (bl := []) [] (.inl rfl) rfl (rl := [.tmp 2]) (.tmp .nil) rfl rfl rfl (.t _) trivial ⟨rfl, rfl⟩
  refine PC.cond_false rfl (not_t h_33) ?_
  refine PC.skip ?_
  refine thA_n ?_
  refine PC.seq ?_
  obtain ⟨r34, h_35, hh0⟩ := bind_some hh0
  obtain ⟨r36, h_37, hh0⟩ := bind_some hh0
  refine PC.region ?_
  refine PL.op rfl (Rd.loadBox rfl rfl rfl) ?_
  refine PL.callM false [] (w_L_toSpace N p_aS r34 h_35) rfl Try.call16 rfl ⟨.aggL ⟨.t _, .t _, .t _, trivial⟩, trivial⟩ rfl trivial (fun h => by cases h) ?_
  refine PL.nm (.agg [iA r34.pages, .os 10 0 r34.free.length, .os 11 0 r34.held.length]) [some ⟨.mx [iA p_aS.pages, sL p_aS.free, sL p_aS.held], 25, 0⟩, some ⟨.mx [iA r6.1.pages, .os 2 0 r6.1.free.length, .os 3 0 r6.1.held.length], 30, 0⟩, some ⟨.tr (eL r6.1.free), 3, 1⟩, some ⟨.tr (eL r6.1.held), 42, 2⟩, some ⟨.mx [iA r8.pages, .os 5 0 r8.free.length, .os 6 0 r8.held.length], 30, 0⟩, some ⟨.tr (eL r22.2.1), 3, 1⟩, some ⟨.tr (eL r22.2.2), 42, 2⟩, some ⟨.mx [iA r10.1.pages, .os 8 0 r10.1.free.length, .os 9 0 r10.1.held.length], 30, 0⟩, some ⟨.tr (eL r28.2.1), 3, 1⟩, some ⟨.tr (eL r28.2.2), 42, 2⟩, some ⟨.tr (eL r34.free), 3, 1⟩, some ⟨.tr (eL r34.held), 42, 2⟩] rfl rfl ?_
  refine PL.callM true [] (w_I_TakePage N r34 r36 h_37) rfl Try.call33 rfl ⟨.aggL ⟨.t _, .own rfl (by first | decide | exact List.not_mem_nil) rfl rfl, .own rfl (by first | decide | exact List.not_mem_nil) rfl rfl, trivial⟩, trivial⟩ rfl trivial (fun _ => ⟨⟨⟨trivial, trivial, trivial, trivial⟩, trivial, trivial, trivial⟩, (flat_cons flat_ow (flat_cons flat_ow flat_nil))⟩) ?_
  refine PL.nm (.tup [.agg [iA r36.1.pages, .os 12 0 r36.1.free.length, .os 13 0 r36.1.held.length], iA r36.2.1, bA r36.2.2]) [some ⟨.mx [iA p_aS.pages, sL p_aS.free, sL p_aS.held], 25, 0⟩, some ⟨.mx [iA r6.1.pages, .os 2 0 r6.1.free.length, .os 3 0 r6.1.held.length], 30, 0⟩, some ⟨.tr (eL r6.1.free), 3, 1⟩, some ⟨.tr (eL r6.1.held), 42, 2⟩, some ⟨.mx [iA r8.pages, .os 5 0 r8.free.length, .os 6 0 r8.held.length], 30, 0⟩, some ⟨.tr (eL r22.2.1), 3, 1⟩, some ⟨.tr (eL r22.2.2), 42, 2⟩, some ⟨.mx [iA r10.1.pages, .os 8 0 r10.1.free.length, .os 9 0 r10.1.held.length], 30, 0⟩, some ⟨.tr (eL r28.2.1), 3, 1⟩, some ⟨.tr (eL r28.2.2), 42, 2⟩, some ⟨.tr (eL r34.free), 3, 1⟩, some ⟨.tr (eL r34.held), 42, 2⟩, some ⟨.tr (eL r36.1.free), 3, 1⟩, some ⟨.tr (eL r36.1.held), 42, 2⟩] rfl rfl ?_
  refine PL.op rfl (Rd.moveU rfl) ?_
  refine PL.op rfl (Rd.extract rfl rfl) ?_
  refine PL.op rfl (Rd.extract rfl rfl) ?_
  refine PL.op rfl (Rd.extract rfl rfl) ?_
  refine PL.ef rfl (Ef.alloc rfl rfl) ?_
  refine PL.nm (.op 14 0) [some ⟨.mx [iA p_aS.pages, sL p_aS.free, sL p_aS.held], 25, 0⟩, some ⟨.mx [iA r6.1.pages, .os 2 0 r6.1.free.length, .os 3 0 r6.1.held.length], 30, 0⟩, some ⟨.tr (eL r6.1.free), 3, 1⟩, some ⟨.tr (eL r6.1.held), 42, 2⟩, some ⟨.mx [iA r8.pages, .os 5 0 r8.free.length, .os 6 0 r8.held.length], 30, 0⟩, some ⟨.tr (eL r22.2.1), 3, 1⟩, some ⟨.tr (eL r22.2.2), 42, 2⟩, some ⟨.mx [iA r10.1.pages, .os 8 0 r10.1.free.length, .os 9 0 r10.1.held.length], 30, 0⟩, some ⟨.tr (eL r28.2.1), 3, 1⟩, some ⟨.tr (eL r28.2.2), 42, 2⟩, some ⟨.tr (eL r34.free), 3, 1⟩, some ⟨.tr (eL r34.held), 42, 2⟩, some ⟨.tr (eL r36.1.free), 3, 1⟩, some ⟨.tr (eL r36.1.held), 42, 2⟩, some ⟨.mx [iA (0 : Int), .t (.v (.slice none 0 0)), .t (.v (.slice none 0 0))], 30, 0⟩] rfl rfl ?_
  refine PL.store rfl rfl rfl rfl rfl rfl rfl ?_
  refine PL.nO [some ⟨.mx [iA p_aS.pages, sL p_aS.free, sL p_aS.held], 25, 0⟩, some ⟨.mx [iA r6.1.pages, .os 2 0 r6.1.free.length, .os 3 0 r6.1.held.length], 30, 0⟩, some ⟨.tr (eL r6.1.free), 3, 1⟩, some ⟨.tr (eL r6.1.held), 42, 2⟩, some ⟨.mx [iA r8.pages, .os 5 0 r8.free.length, .os 6 0 r8.held.length], 30, 0⟩, some ⟨.tr (eL r22.2.1), 3, 1⟩, some ⟨.tr (eL r22.2.2), 42, 2⟩, some ⟨.mx [iA r10.1.pages, .os 8 0 r10.1.free.length, .os 9 0 r10.1.held.length], 30, 0⟩, some ⟨.tr (eL r28.2.1), 3, 1⟩, some ⟨.tr (eL r28.2.2), 42, 2⟩, some ⟨.tr (eL r34.free), 3, 1⟩, some ⟨.tr (eL r34.held), 42, 2⟩, some ⟨.tr (eL r36.1.free), 3, 1⟩, some ⟨.tr (eL r36.1.held), 42, 2⟩, some ⟨.mx [iA r36.1.pages, .os 12 0 r36.1.free.length, .os 13 0 r36.1.held.length], 30, 0⟩] rfl ?_
  refine PL.op rfl (Rd.asnT rfl) ?_
  refine PL.op rfl (Rd.asnT rfl) ?_
  refine PL.nil ?_
  refine thA_n ?_
  refine PC.seq ?_
  refine PC.seq ?_
  obtain ⟨r38, h_39, hh0⟩ := bind_some hh0
  rcases cond_some hh0 with ⟨h_40, hh0⟩ | ⟨h_40, hh0⟩
  rotate_left
  · refine PC.region ?_
    refine PL.op rfl (Rd.loadBox rfl rfl rfl) ?_
    refine PL.op rfl (Rd.loadBox rfl rfl rfl) ?_
    refine PL.callM true [] (w_L_eqSpace N r36.1 r6.1 r38 h_39) rfl Try.call18 rfl ⟨.aggL ⟨.t _, .own rfl (by first | decide | exact List.not_mem_nil) rfl rfl, .own rfl (by first | decide | exact List.not_mem_nil) rfl rfl, trivial⟩, .aggL ⟨.t _, .own rfl (by first | decide | exact List.not_mem_nil) rfl rfl, .own rfl (by first | decide | exact List.not_mem_nil) rfl rfl, trivial⟩, trivial⟩ rfl trivial (fun _ => ⟨trivial, flat_nil⟩) ?_
    refine PL.op rfl (Rd.unnot rfl) ?_
    refine PL.op rfl (Rd.moveT rfl) ?_
    refine PL.guard_off rfl rfl (not_f h_40) ?_
    refine PL.guard_off rfl rfl (not_f h_40) ?_
    refine PL.guard_off rfl rfl (not_f h_40) ?_
    refine PL.op rfl (Rd.pick_t rfl (not_f h_40)) ?_
    refine PL.op rfl (Rd.moveT rfl) ?_
    refine PL.guard_off rfl rfl rfl ?_
    refine PL.guard_off rfl rfl rfl ?_
    refine PL.guard_off rfl rfl rfl ?_
    refine PL.op rfl (Rd.pick_t rfl rfl) ?_
    refine PL.nil ?_
    refine thA_n ?_
    refine PC.cond_true rfl rfl ?_
    refine PC.seq ?_
    refine PC.region ?_
    refine PL.op rfl (Rd.asnT rfl) ?_
    refine PL.nil ?_
    refine thA_n ?_
    refine PC.ret ?_
    refine thA_r ?_
    obtain rfl := some_in hh0
    exact FinA.mk (r := bA false) (bl := []) [] (.inl rfl) rfl (rl := [.tmp 2]) (.tmp .nil) rfl rfl rfl (.t _) trivial ⟨rfl, rfl⟩
  rcases cond_some hh0 with ⟨h_41, hh0⟩ | ⟨h_41, hh0⟩
  rotate_left
  · refine PC.region ?_
    refine PL.op rfl (Rd.loadBox rfl rfl rfl) ?_
    refine PL.op rfl (Rd.loadBox rfl rfl rfl) ?_
    refine PL.callM true [] (w_L_eqSpace N r36.1 r6.1 r38 h_39) rfl Try.call18 rfl ⟨.aggL ⟨.t _, .own rfl (by first | decide | exact List.not_mem_nil) rfl rfl, .own rfl (by first | decide | exact List.not_mem_nil) rfl rfl, trivial⟩, .aggL ⟨.t _, .own rfl (by first | decide | exact List.not_mem_nil) rfl rfl, .own rfl (by first | decide | exact List.not_mem_nil) rfl rfl, trivial⟩, trivial⟩ rfl trivial (fun _ => ⟨trivial, flat_nil⟩) ?_
    refine PL.op rfl (Rd.unnot rfl) ?_
    refine PL.op rfl (Rd.moveT rfl) ?_
    refine PL.guard_on rfl (not_t h_40) ?_
    refine PL.op rfl (Rd.moveT rfl) ?_
    refine PL.guard_on rfl (not_t h_40) ?_
    refine PL.op rfl (Rd.moveT rfl) ?_
    refine PL.guard_on rfl (not_t h_40) ?_
    refine PL.op rfl (Rd.neq rfl rfl) ?_
    refine PL.op rfl (Rd.pick_f rfl (not_t h_40)) ?_
    refine PL.op rfl (Rd.moveT rfl) ?_
    refine PL.guard_off rfl rfl (not_f h_41) ?_
    refine PL.guard_off rfl rfl (not_f h_41) ?_
    refine PL.guard_off rfl rfl (not_f h_41) ?_
    refine PL.op rfl (Rd.pick_t rfl (not_f h_41)) ?_
    refine PL.nil ?_
    refine thA_n ?_
    refine PC.cond_true rfl rfl ?_
    refine PC.seq ?_
    refine PC.region ?_
    refine PL.op rfl (Rd.asnT rfl) ?_
    refine PL.nil ?_
    refine thA_n ?_
    refine PC.ret ?_
    refine thA_r ?_
    obtain rfl := some_in hh0
    exact FinA.mk (r := bA false) (bl := []) [] (.inl rfl) rfl (rl := [.tmp 2]) (.tmp .nil) rfl rfl rfl (.t _) trivial ⟨rfl, rfl⟩
  refine PC.region ?_
  refine PL.op rfl (Rd.loadBox rfl rfl rfl) ?_
  refine PL.op rfl (Rd.loadBox rfl rfl rfl) ?_
  refine PL.callM true [] (w_L_eqSpace N r36.1 r6.1 r38 h_39) rfl Try.call18 rfl ⟨.aggL ⟨.t _, .own rfl (by first | decide | exact List.not_mem_nil) rfl rfl, .own rfl (by first | decide | exact List.not_mem_nil) rfl rfl, trivial⟩, .aggL ⟨.t _, .own rfl (by first | decide | exact List.not_mem_nil) rfl rfl, .own rfl (by first | decide | exact List.not_mem_nil) rfl rfl, trivial⟩, trivial⟩ rfl trivial (fun _ => ⟨trivial, flat_nil⟩) ?_
  refine PL.op rfl (Rd.unnot rfl) ?_
  refine PL.op rfl (Rd.moveT rfl) ?_
  refine PL.guard_on rfl (not_t h_40) ?_
  refine PL.op rfl (Rd.moveT rfl) ?_
  refine PL.guard_on rfl (not_t h_40) ?_
  refine PL.op rfl (Rd.moveT rfl) ?_
  refine PL.guard_on rfl (not_t h_40) ?_
  refine PL.op rfl (Rd.neq rfl rfl) ?_
  refine PL.op rfl (Rd.pick_f rfl (not_t h_40)) ?_
  refine PL.op rfl (Rd.moveT rfl) ?_
  refine PL.guard_on rfl (not_t h_41) ?_
  refine PL.op rfl (Rd.moveT rfl) ?_
  refine PL.guard_on rfl (not_t h_41) ?_
  refine PL.op rfl (Rd.moveT rfl) ?_
  refine PL.guard_on rfl (not_t h_41) ?_
  refine PL.op rfl (Rd.neqB rfl rfl) ?_
  refine PL.op rfl (Rd.pick_f rfl (not_t h_41)) ?_
  refine PL.nil ?_
  refine thA_n ?_
  rcases cond_some hh0 with ⟨h_42, hh0⟩ | ⟨h_42, hh0⟩
  rotate_left
  · refine PC.cond_true rfl (not_f h_42) ?_
    refine PC.seq ?_
    refine PC.region ?_
    refine PL.op rfl (Rd.asnT rfl) ?_
    refine PL.nil ?_
    refine thA_n ?_
    refine PC.ret ?_
    refine thA_r ?_
    obtain rfl := some_in hh0
    exact FinA.mk (r := bA false) (bl := []) [] (.inl rfl) rfl (rl := [.tmp 2]) (.tmp .nil) rfl rfl rfl (.t _) trivial ⟨rfl, rfl⟩
  refine PC.cond_false rfl (not_t h_42) ?_
  refine PC.skip ?_
  refine thA_n ?_
  refine PC.seq ?_
  refine PC.region ?_
  refine PL.op rfl (Rd.asnT rfl) ?_
  refine PL.nil ?_
  refine thA_n ?_
  refine PC.seq ?_
  obtain ⟨r43, h_44, hh0⟩ := bind_some hh0
  refine PC.region ?_
  refine PL.op rfl (Rd.loadBox rfl rfl rfl) ?_
  refine PL.op rfl (Rd.moveT rfl) ?_
  refine PL.callM true [] (w_L_heldSpace N (I_Space.mk r10.1.pages r28.2.1 r28.2.2) (1 : Int) r43 h_44) rfl Try.call29 rfl ⟨.aggL ⟨.t _, .own rfl (by first | decide | exact List.not_mem_nil) (by simp only [List.length_set, len_L_markSpace N _ _ _ h_29]) rfl, .own rfl (by first | decide | exact List.not_mem_nil) (by simp only [List.length_set, len_L_markSpace N _ _ _ h_29]) rfl, trivial⟩, .t _, trivial⟩ rfl trivial (fun _ => ⟨trivial, flat_nil⟩) ?_
  refine PL.op rfl (Rd.asnT rfl) ?_
  refine PL.nil ?_
  refine thA_n ?_
  refine PC.seq ?_
  refine PC.seq ?_
  refine PC.region ?_
  refine PL.op rfl (Rd.moveT rfl) ?_
  refine PL.op rfl (Rd.lss rfl rfl) ?_
  refine PL.nil ?_
  refine thA_n ?_
  rcases cond_some hh0 with ⟨h_45, hh0⟩ | ⟨h_45, hh0⟩
  · refine PC.cond_true rfl h_45 ?_
    refine PC.seq ?_
    refine PC.region ?_
    refine PL.op rfl (Rd.asnT rfl) ?_
    refine PL.nil ?_
    refine thA_n ?_
    refine PC.ret ?_
    refine thA_r ?_
    obtain rfl := some_in hh0
    exact FinA.mk (r := bA false) (bl := []) [] (.inl rfl) rfl (rl := [.tmp 2]) (.tmp .nil) rfl rfl rfl (.t _) trivial ⟨rfl, rfl⟩
  refine PC.cond_false rfl h_45 ?_
  refine PC.skip ?_
  refine thA_n ?_
  refine PC.seq ?_
  refine PC.seq ?_
  refine PC.region ?_
  refine PL.op rfl (Rd.moveT rfl) ?_
  refine PL.op rfl (Rd.moveT rfl) ?_
  refine PL.op rfl (Rd.neq rfl rfl) ?_
  refine PL.nil ?_
  refine thA_n ?_
  rcases cond_some hh0 with ⟨h_46, hh0⟩ | ⟨h_46, hh0⟩
  rotate_left
  · refine PC.cond_true rfl (not_f h_46) ?_
    refine PC.seq ?_
    refine PC.region ?_
    refine PL.op rfl (Rd.asnT rfl) ?_
    refine PL.nil ?_
    refine thA_n ?_
    refine PC.ret ?_
    refine thA_r ?_
    obtain rfl := some_in hh0
    exact FinA.mk (r := bA false) (bl := []) [] (.inl rfl) rfl (rl := [.tmp 2]) (.tmp .nil) rfl rfl rfl (.t _) trivial ⟨rfl, rfl⟩
  refine PC.cond_false rfl (not_t h_46) ?_
  refine PC.skip ?_
  refine thA_n ?_
  refine PC.seq ?_
  refine PC.region ?_
  refine PL.op rfl (Rd.asnT rfl) ?_
  refine PL.nil ?_
  refine thA_n ?_
  refine PC.ret ?_
  obtain rfl := some_in hh0
  exact FinA.mk (r := bA true) (bl := []) [] (.inl rfl) rfl (rl := [.tmp 2]) (.tmp .nil) rfl rfl rfl (.t _) trivial ⟨rfl, rfl⟩

end V
end Go.Proofs.Ytambkpacecjheaa
