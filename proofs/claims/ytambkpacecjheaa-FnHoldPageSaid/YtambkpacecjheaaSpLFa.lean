/- Space: a law's function. No condition. -/
import Derived.Test.YtambkpacecjheaaSpFa
import Derived.Test.YtambkpacecjheaaSpGa
import Derived.Test.YtambkpacecjheaaGenC
namespace Go.Proofs.Ytambkpacecjheaa
namespace V
open Enc (enc)
set_option linter.unusedVariables false
set_option linter.unusedSimpArgs false
set_option maxHeartbeats 4000000
set_option maxRecDepth 100000
open Go.RowKit
attribute [local irreducible] thA inA FinA eL

def m_L_FnHoldPage (N : Nat) (p_code : (List UInt8)) : Option (Bool) :=
  cond (decide ((1048576 : Int) < (p_code.length : Int)))
    (some true)
    ((m_S_DrawHoldPage N p_code).bind fun r2 =>
    (m_I_HoldPage N r2.1 r2.2.1 r2.2.2).bind fun r4 =>
    (m_S_HoldPage N r2.1 r2.2.1 r2.2.2).bind fun r6 =>
    (m_L_equalSpace N r4.1 r6.1).bind fun r8 =>
    cond r8
      (cond (r4.2 == r6.2)
        (cond r4.2
          ((m_I_TakePage N r4.1).bind fun r13 =>
          (m_I_ValidSpace N r4.1).bind fun r15 =>
          cond r15
            ((m_I_PagesInUse N r2.1).bind fun r18 =>
            (m_L_isIn N r18 r2.2.1).bind fun r20 =>
            cond r20
              ((m_I_PagesInUse N r4.1).bind fun r23 =>
              (m_L_isIn N r23 r2.2.1).bind fun r25 =>
              cond r25
                (some false)
                (cond r13.2.2
                  (cond (decide (r13.2.1 = r2.2.1))
                    (some false)
                    ((chk (r2.2.2 + (1 : Int))).bind fun n30 =>
                    (m_I_ReleasePages N r4.1 n30).bind fun r32 =>
                    (m_L_isIn N r32.free r2.2.1).bind fun r34 =>
                    cond r34
                      ((m_I_ReleasePages N r4.1 r2.2.2).bind fun r37 =>
                      (m_L_isIn N r37.free r2.2.1).bind fun r39 =>
                      some (!r39))
                      (some false)))
                  ((chk (r2.2.2 + (1 : Int))).bind fun n41 =>
                  (m_I_ReleasePages N r4.1 n41).bind fun r43 =>
                  (m_L_isIn N r43.free r2.2.1).bind fun r45 =>
                  cond r45
                    ((m_I_ReleasePages N r4.1 r2.2.2).bind fun r48 =>
                    (m_L_isIn N r48.free r2.2.1).bind fun r50 =>
                    some (!r50))
                    (some false))))
              (some false))
            (some false))
          ((m_L_equalSpace N r4.1 r6.1).bind fun r52 =>
          cond r52
            (some (r4.2 == r6.2))
            (some false)))
        ((m_L_equalSpace N r4.1 r6.1).bind fun r55 =>
        cond r55
          (some (r4.2 == r6.2))
          (some false)))
      ((m_L_equalSpace N r4.1 r6.1).bind fun r58 =>
      cond r58
        (some (r4.2 == r6.2))
        (some false)))
theorem w_L_FnHoldPage (N : Nat) (p_code : (List UInt8)) (r : Bool) (hh0 : m_L_FnHoldPage N p_code = some r) : FnX Try.prog 13 [] [sL p_code] (RE (bA r) []) := by
  unfold m_L_FnHoldPage at hh0
  refine FnX.mk Try.func13 rfl rfl ?_
  intro s hs
  refine PC.seq ?_
  refine PC.region ?_
  refine PL.op rfl (Rd.asnT rfl) ?_
  refine PL.nil ?_
  refine thA_n ?_
  refine PC.seq ?_
  refine PC.seq ?_
  refine PC.region ?_
  refine PL.op rfl (Rd.moveT rfl) ?_
  refine PL.op rfl (Rd.lenT rfl) ?_
  refine PL.op rfl (Rd.gtr rfl rfl) ?_
  refine PL.nil ?_
  refine thA_n ?_
  rcases cond_some hh0 with ⟨h_1, hh0⟩ | ⟨h_1, hh0⟩
  · refine PC.cond_true rfl h_1 ?_
    refine PC.seq ?_
    refine PC.region ?_
    refine PL.op rfl (Rd.asnT rfl) ?_
    refine PL.nil ?_
    refine thA_n ?_
    refine PC.ret ?_
    refine thA_r ?_
    obtain rfl := some_in hh0
    exact FinA.mk (r := bA true) (bl := []) [] (.inl rfl) rfl (rl := [.tmp 2]) (.tmp .nil) rfl rfl rfl (.t _) trivial ⟨rfl, rfl⟩
  refine PC.cond_false rfl h_1 ?_
  refine PC.skip ?_
  refine thA_n ?_
  refine PC.seq ?_
  obtain ⟨r2, h_3, hh0⟩ := bind_some hh0
  refine PC.region ?_
  refine PL.op rfl (Rd.moveT rfl) ?_
  refine PL.callM false [] (w_S_DrawHoldPage N p_code r2 h_3) rfl Try.call40 rfl ⟨.t _, trivial⟩ rfl trivial (fun h => by cases h) ?_
  refine PL.nm (.tup [.agg [iA r2.1.pages, sL r2.1.free, .os 0 0 r2.1.held.length], iA r2.2.1, iA r2.2.2]) [some ⟨.tr (eL r2.1.held), 42, 2⟩] rfl rfl ?_
  refine PL.op rfl (Rd.moveU rfl) ?_
  refine PL.op rfl (Rd.extract rfl rfl) ?_
  refine PL.op rfl (Rd.extract rfl rfl) ?_
  refine PL.op rfl (Rd.extract rfl rfl) ?_
  refine PL.ef rfl (Ef.alloc rfl rfl) ?_
  refine PL.nm (.op 1 0) [some ⟨.tr (eL r2.1.held), 42, 2⟩, some ⟨.mx [iA (0 : Int), .t (.v (.slice none 0 0)), .t (.v (.slice none 0 0))], 30, 0⟩] rfl rfl ?_
  refine PL.store rfl rfl rfl rfl rfl rfl rfl ?_
  refine PL.nO [some ⟨.tr (eL r2.1.held), 42, 2⟩, some ⟨.mx [iA r2.1.pages, sL r2.1.free, .os 0 0 r2.1.held.length], 30, 0⟩] rfl ?_
  refine PL.op rfl (Rd.asnT rfl) ?_
  refine PL.op rfl (Rd.asnT rfl) ?_
  refine PL.nil ?_
  refine thA_n ?_
  refine PC.seq ?_
  obtain ⟨r4, h_5, hh0⟩ := bind_some hh0
  refine PC.region ?_
  refine PL.op rfl (Rd.loadBox rfl rfl rfl) ?_
  refine PL.op rfl (Rd.moveT rfl) ?_
  refine PL.op rfl (Rd.moveT rfl) ?_
  refine PL.callM true [] (w_I_HoldPage N r2.1 r2.2.1 r2.2.2 r4 h_5) rfl Try.call28 rfl ⟨.aggL ⟨.t _, .t _, .own rfl (by first | decide | exact List.not_mem_nil) rfl rfl, trivial⟩, .t _, .t _, trivial⟩ rfl trivial (fun _ => ⟨⟨⟨trivial, trivial, trivial, trivial⟩, trivial, trivial⟩, (flat_cons flat_ow (flat_cons flat_ow flat_nil))⟩) ?_
  refine PL.nm (.tup [.agg [iA r4.1.pages, .os 2 0 r4.1.free.length, .os 3 0 r4.1.held.length], bA r4.2]) [some ⟨.tr (eL r2.1.held), 42, 2⟩, some ⟨.mx [iA r2.1.pages, sL r2.1.free, .os 0 0 r2.1.held.length], 30, 0⟩, some ⟨.tr (eL r4.1.free), 3, 1⟩, some ⟨.tr (eL r4.1.held), 42, 2⟩] rfl rfl ?_
  refine PL.op rfl (Rd.moveU rfl) ?_
  refine PL.op rfl (Rd.extract rfl rfl) ?_
  refine PL.op rfl (Rd.extract rfl rfl) ?_
  refine PL.ef rfl (Ef.alloc rfl rfl) ?_
  refine PL.nm (.op 4 0) [some ⟨.tr (eL r2.1.held), 42, 2⟩, some ⟨.mx [iA r2.1.pages, sL r2.1.free, .os 0 0 r2.1.held.length], 30, 0⟩, some ⟨.tr (eL r4.1.free), 3, 1⟩, some ⟨.tr (eL r4.1.held), 42, 2⟩, some ⟨.mx [iA (0 : Int), .t (.v (.slice none 0 0)), .t (.v (.slice none 0 0))], 30, 0⟩] rfl rfl ?_
  refine PL.store rfl rfl rfl rfl rfl rfl rfl ?_
  refine PL.nO [some ⟨.tr (eL r2.1.held), 42, 2⟩, some ⟨.mx [iA r2.1.pages, sL r2.1.free, .os 0 0 r2.1.held.length], 30, 0⟩, some ⟨.tr (eL r4.1.free), 3, 1⟩, some ⟨.tr (eL r4.1.held), 42, 2⟩, some ⟨.mx [iA r4.1.pages, .os 2 0 r4.1.free.length, .os 3 0 r4.1.held.length], 30, 0⟩] rfl ?_
  refine PL.op rfl (Rd.asnT rfl) ?_
  refine PL.nil ?_
  refine thA_n ?_
  refine PC.seq ?_
  obtain ⟨r6, h_7, hh0⟩ := bind_some hh0
  refine PC.region ?_
  refine PL.op rfl (Rd.loadBox rfl rfl rfl) ?_
  refine PL.op rfl (Rd.moveT rfl) ?_
  refine PL.op rfl (Rd.moveT rfl) ?_
  refine PL.callM true [] (w_S_HoldPage N r2.1 r2.2.1 r2.2.2 r6 h_7) rfl Try.call27 rfl ⟨.aggL ⟨.t _, .t _, .own rfl (by first | decide | exact List.not_mem_nil) rfl rfl, trivial⟩, .t _, .t _, trivial⟩ rfl trivial (fun _ => ⟨⟨⟨trivial, trivial, trivial, trivial⟩, trivial, trivial⟩, (flat_cons flat_ow (flat_cons flat_ow flat_nil))⟩) ?_
  refine PL.nm (.tup [.agg [iA r6.1.pages, .os 5 0 r6.1.free.length, .os 6 0 r6.1.held.length], bA r6.2]) [some ⟨.tr (eL r2.1.held), 42, 2⟩, some ⟨.mx [iA r2.1.pages, sL r2.1.free, .os 0 0 r2.1.held.length], 30, 0⟩, some ⟨.tr (eL r4.1.free), 3, 1⟩, some ⟨.tr (eL r4.1.held), 42, 2⟩, some ⟨.mx [iA r4.1.pages, .os 2 0 r4.1.free.length, .os 3 0 r4.1.held.length], 30, 0⟩, some ⟨.tr (eL r6.1.free), 3, 1⟩, some ⟨.tr (eL r6.1.held), 42, 2⟩] rfl rfl ?_
  refine PL.op rfl (Rd.moveU rfl) ?_
  refine PL.op rfl (Rd.extract rfl rfl) ?_
  refine PL.op rfl (Rd.extract rfl rfl) ?_
  refine PL.ef rfl (Ef.alloc rfl rfl) ?_
  refine PL.nm (.op 7 0) [some ⟨.tr (eL r2.1.held), 42, 2⟩, some ⟨.mx [iA r2.1.pages, sL r2.1.free, .os 0 0 r2.1.held.length], 30, 0⟩, some ⟨.tr (eL r4.1.free), 3, 1⟩, some ⟨.tr (eL r4.1.held), 42, 2⟩, some ⟨.mx [iA r4.1.pages, .os 2 0 r4.1.free.length, .os 3 0 r4.1.held.length], 30, 0⟩, some ⟨.tr (eL r6.1.free), 3, 1⟩, some ⟨.tr (eL r6.1.held), 42, 2⟩, some ⟨.mx [iA (0 : Int), .t (.v (.slice none 0 0)), .t (.v (.slice none 0 0))], 30, 0⟩] rfl rfl ?_
  refine PL.store rfl rfl rfl rfl rfl rfl rfl ?_
  refine PL.nO [some ⟨.tr (eL r2.1.held), 42, 2⟩, some ⟨.mx [iA r2.1.pages, sL r2.1.free, .os 0 0 r2.1.held.length], 30, 0⟩, some ⟨.tr (eL r4.1.free), 3, 1⟩, some ⟨.tr (eL r4.1.held), 42, 2⟩, some ⟨.mx [iA r4.1.pages, .os 2 0 r4.1.free.length, .os 3 0 r4.1.held.length], 30, 0⟩, some ⟨.tr (eL r6.1.free), 3, 1⟩, some ⟨.tr (eL r6.1.held), 42, 2⟩, some ⟨.mx [iA r6.1.pages, .os 5 0 r6.1.free.length, .os 6 0 r6.1.held.length], 30, 0⟩] rfl ?_
  refine PL.op rfl (Rd.asnT rfl) ?_
  refine PL.nil ?_
  refine thA_n ?_
  refine PC.seq ?_
  refine PC.seq ?_
  obtain ⟨r8, h_9, hh0⟩ := bind_some hh0
  rcases cond_some hh0 with ⟨h_10, hh0⟩ | ⟨h_10, hh0⟩
  rotate_left
  · refine PC.region ?_
    refine PL.op rfl (Rd.loadBox rfl rfl rfl) ?_
    refine PL.op rfl (Rd.loadBox rfl rfl rfl) ?_
    refine PL.callM true [] (w_L_equalSpace N r4.1 r6.1 r8 h_9) rfl Try.call35 rfl ⟨.aggL ⟨.t _, .own rfl (by first | decide | exact List.not_mem_nil) rfl rfl, .own rfl (by first | decide | exact List.not_mem_nil) rfl rfl, trivial⟩, .aggL ⟨.t _, .own rfl (by first | decide | exact List.not_mem_nil) rfl rfl, .own rfl (by first | decide | exact List.not_mem_nil) rfl rfl, trivial⟩, trivial⟩ rfl trivial (fun _ => ⟨trivial, flat_nil⟩) ?_
    refine PL.op rfl (Rd.unnot rfl) ?_
    refine PL.op rfl (Rd.moveT rfl) ?_
    refine PL.guard_off rfl rfl (not_f h_10) ?_
    refine PL.guard_off rfl rfl (not_f h_10) ?_
    refine PL.guard_off rfl rfl (not_f h_10) ?_
    refine PL.op rfl (Rd.pick_t rfl (not_f h_10)) ?_
    refine PL.op rfl (Rd.moveT rfl) ?_
    refine PL.guard_off rfl rfl rfl ?_
    refine PL.guard_off rfl rfl rfl ?_
    refine PL.op rfl (Rd.pick_t rfl rfl) ?_
    refine PL.nil ?_
    refine thA_n ?_
    refine PC.cond_true rfl rfl ?_
    refine PC.seq ?_
    obtain ⟨r58, h_59, hh0⟩ := bind_some hh0
    rcases cond_some hh0 with ⟨h_60, hh0⟩ | ⟨h_60, hh0⟩
    rotate_left
    · refine PC.region ?_
      refine PL.op rfl (Rd.loadBox rfl rfl rfl) ?_
      refine PL.op rfl (Rd.loadBox rfl rfl rfl) ?_
      refine PL.callM true [] (w_L_equalSpace N r4.1 r6.1 r58 h_59) rfl Try.call35 rfl ⟨.aggL ⟨.t _, .own rfl (by first | decide | exact List.not_mem_nil) rfl rfl, .own rfl (by first | decide | exact List.not_mem_nil) rfl rfl, trivial⟩, .aggL ⟨.t _, .own rfl (by first | decide | exact List.not_mem_nil) rfl rfl, .own rfl (by first | decide | exact List.not_mem_nil) rfl rfl, trivial⟩, trivial⟩ rfl trivial (fun _ => ⟨trivial, flat_nil⟩) ?_
      refine PL.op rfl (Rd.moveT rfl) ?_
      refine PL.guard_off rfl rfl h_60 ?_
      refine PL.guard_off rfl rfl h_60 ?_
      refine PL.guard_off rfl rfl h_60 ?_
      refine PL.op rfl (Rd.pick_f rfl h_60) ?_
      refine PL.op rfl (Rd.asnT rfl) ?_
      refine PL.nil ?_
      refine thA_n ?_
      refine PC.ret ?_
      refine thA_r ?_
      obtain rfl := some_in hh0
      exact FinA.mk (r := bA false) (bl := []) [] (.inl rfl) rfl (rl := [.tmp 2]) (.tmp .nil) rfl rfl rfl (.t _) trivial ⟨rfl, rfl⟩
    refine PC.region ?_
    refine PL.op rfl (Rd.loadBox rfl rfl rfl) ?_
    refine PL.op rfl (Rd.loadBox rfl rfl rfl) ?_
    refine PL.callM true [] (w_L_equalSpace N r4.1 r6.1 r58 h_59) rfl Try.call35 rfl ⟨.aggL ⟨.t _, .own rfl (by first | decide | exact List.not_mem_nil) rfl rfl, .own rfl (by first | decide | exact List.not_mem_nil) rfl rfl, trivial⟩, .aggL ⟨.t _, .own rfl (by first | decide | exact List.not_mem_nil) rfl rfl, .own rfl (by first | decide | exact List.not_mem_nil) rfl rfl, trivial⟩, trivial⟩ rfl trivial (fun _ => ⟨trivial, flat_nil⟩) ?_
    refine PL.op rfl (Rd.moveT rfl) ?_
    refine PL.guard_on rfl h_60 ?_
    refine PL.op rfl (Rd.moveT rfl) ?_
    refine PL.guard_on rfl h_60 ?_
    refine PL.op rfl (Rd.moveT rfl) ?_
    refine PL.guard_on rfl h_60 ?_
    refine PL.op rfl (Rd.eqlB rfl rfl) ?_
    refine PL.op rfl (Rd.pick_t rfl h_60) ?_
    refine PL.op rfl (Rd.asnT rfl) ?_
    refine PL.nil ?_
    refine thA_n ?_
    refine PC.ret ?_
    refine thA_r ?_
    obtain rfl := some_in hh0
    exact FinA.mk (r := bA (r4.2 == r6.2)) (bl := []) [] (.inl rfl) rfl (rl := [.tmp 2]) (.tmp .nil) rfl rfl rfl (.t _) trivial ⟨rfl, rfl⟩
  rcases cond_some hh0 with ⟨h_11, hh0⟩ | ⟨h_11, hh0⟩
  rotate_left
  · refine PC.region ?_
    refine PL.op rfl (Rd.loadBox rfl rfl rfl) ?_
    refine PL.op rfl (Rd.loadBox rfl rfl rfl) ?_
    refine PL.callM true [] (w_L_equalSpace N r4.1 r6.1 r8 h_9) rfl Try.call35 rfl ⟨.aggL ⟨.t _, .own rfl (by first | decide | exact List.not_mem_nil) rfl rfl, .own rfl (by first | decide | exact List.not_mem_nil) rfl rfl, trivial⟩, .aggL ⟨.t _, .own rfl (by first | decide | exact List.not_mem_nil) rfl rfl, .own rfl (by first | decide | exact List.not_mem_nil) rfl rfl, trivial⟩, trivial⟩ rfl trivial (fun _ => ⟨trivial, flat_nil⟩) ?_
    refine PL.op rfl (Rd.unnot rfl) ?_
    refine PL.op rfl (Rd.moveT rfl) ?_
    refine PL.guard_on rfl (not_t h_10) ?_
    refine PL.op rfl (Rd.moveT rfl) ?_
    refine PL.guard_on rfl (not_t h_10) ?_
    refine PL.op rfl (Rd.moveT rfl) ?_
    refine PL.guard_on rfl (not_t h_10) ?_
    refine PL.op rfl (Rd.neqB rfl rfl) ?_
    refine PL.op rfl (Rd.pick_f rfl (not_t h_10)) ?_
    refine PL.op rfl (Rd.moveT rfl) ?_
    refine PL.guard_off rfl rfl (not_f h_11) ?_
    refine PL.guard_off rfl rfl (not_f h_11) ?_
    refine PL.op rfl (Rd.pick_t rfl (not_f h_11)) ?_
    refine PL.nil ?_
    refine thA_n ?_
    refine PC.cond_true rfl rfl ?_
    refine PC.seq ?_
    obtain ⟨r55, h_56, hh0⟩ := bind_some hh0
    rcases cond_some hh0 with ⟨h_57, hh0⟩ | ⟨h_57, hh0⟩
    rotate_left
    · refine PC.region ?_
      refine PL.op rfl (Rd.loadBox rfl rfl rfl) ?_
      refine PL.op rfl (Rd.loadBox rfl rfl rfl) ?_
      refine PL.callM true [] (w_L_equalSpace N r4.1 r6.1 r55 h_56) rfl Try.call35 rfl ⟨.aggL ⟨.t _, .own rfl (by first | decide | exact List.not_mem_nil) rfl rfl, .own rfl (by first | decide | exact List.not_mem_nil) rfl rfl, trivial⟩, .aggL ⟨.t _, .own rfl (by first | decide | exact List.not_mem_nil) rfl rfl, .own rfl (by first | decide | exact List.not_mem_nil) rfl rfl, trivial⟩, trivial⟩ rfl trivial (fun _ => ⟨trivial, flat_nil⟩) ?_
      refine PL.op rfl (Rd.moveT rfl) ?_
      refine PL.guard_off rfl rfl h_57 ?_
      refine PL.guard_off rfl rfl h_57 ?_
      refine PL.guard_off rfl rfl h_57 ?_
      refine PL.op rfl (Rd.pick_f rfl h_57) ?_
      refine PL.op rfl (Rd.asnT rfl) ?_
      refine PL.nil ?_
      refine thA_n ?_
      refine PC.ret ?_
      refine thA_r ?_
      obtain rfl := some_in hh0
      exact FinA.mk (r := bA false) (bl := []) [] (.inl rfl) rfl (rl := [.tmp 2]) (.tmp .nil) rfl rfl rfl (.t _) trivial ⟨rfl, rfl⟩
    refine PC.region ?_
    refine PL.op rfl (Rd.loadBox rfl rfl rfl) ?_
    refine PL.op rfl (Rd.loadBox rfl rfl rfl) ?_
    refine PL.callM true [] (w_L_equalSpace N r4.1 r6.1 r55 h_56) rfl Try.call35 rfl ⟨.aggL ⟨.t _, .own rfl (by first | decide | exact List.not_mem_nil) rfl rfl, .own rfl (by first | decide | exact List.not_mem_nil) rfl rfl, trivial⟩, .aggL ⟨.t _, .own rfl (by first | decide | exact List.not_mem_nil) rfl rfl, .own rfl (by first | decide | exact List.not_mem_nil) rfl rfl, trivial⟩, trivial⟩ rfl trivial (fun _ => ⟨trivial, flat_nil⟩) ?_
    refine PL.op rfl (Rd.moveT rfl) ?_
    refine PL.guard_on rfl h_57 ?_
    refine PL.op rfl (Rd.moveT rfl) ?_
    refine PL.guard_on rfl h_57 ?_
    refine PL.op rfl (Rd.moveT rfl) ?_
    refine PL.guard_on rfl h_57 ?_
    refine PL.op rfl (Rd.eqlB rfl rfl) ?_
    refine PL.op rfl (Rd.pick_t rfl h_57) ?_
    refine PL.op rfl (Rd.asnT rfl) ?_
    refine PL.nil ?_
    refine thA_n ?_
    refine PC.ret ?_
    refine thA_r ?_
    obtain rfl := some_in hh0
    exact FinA.mk (r := bA (r4.2 == r6.2)) (bl := []) [] (.inl rfl) rfl (rl := [.tmp 2]) (.tmp .nil) rfl rfl rfl (.t _) trivial ⟨rfl, rfl⟩
  refine PC.region ?_
  refine PL.op rfl (Rd.loadBox rfl rfl rfl) ?_
  refine PL.op rfl (Rd.loadBox rfl rfl rfl) ?_
  refine PL.callM true [] (w_L_equalSpace N r4.1 r6.1 r8 h_9) rfl Try.call35 rfl ⟨.aggL ⟨.t _, .own rfl (by first | decide | exact List.not_mem_nil) rfl rfl, .own rfl (by first | decide | exact List.not_mem_nil) rfl rfl, trivial⟩, .aggL ⟨.t _, .own rfl (by first | decide | exact List.not_mem_nil) rfl rfl, .own rfl (by first | decide | exact List.not_mem_nil) rfl rfl, trivial⟩, trivial⟩ rfl trivial (fun _ => ⟨trivial, flat_nil⟩) ?_
  refine PL.op rfl (Rd.unnot rfl) ?_
  refine PL.op rfl (Rd.moveT rfl) ?_
  refine PL.guard_on rfl (not_t h_10) ?_
  refine PL.op rfl (Rd.moveT rfl) ?_
  refine PL.guard_on rfl (not_t h_10) ?_
  refine PL.op rfl (Rd.moveT rfl) ?_
  refine PL.guard_on rfl (not_t h_10) ?_
  refine PL.op rfl (Rd.neqB rfl rfl) ?_
  refine PL.op rfl (Rd.pick_f rfl (not_t h_10)) ?_
  refine PL.op rfl (Rd.moveT rfl) ?_
  refine PL.guard_on rfl (not_t h_11) ?_
  refine PL.op rfl (Rd.moveT rfl) ?_
  refine PL.guard_on rfl (not_t h_11) ?_
  refine PL.op rfl (Rd.unnot rfl) ?_
  refine PL.op rfl (Rd.pick_f rfl (not_t h_11)) ?_
  refine PL.nil ?_
  refine thA_n ?_
  rcases cond_some hh0 with ⟨h_12, hh0⟩ | ⟨h_12, hh0⟩
  rotate_left
  · refine PC.cond_true rfl (not_f h_12) ?_
    refine PC.seq ?_
    obtain ⟨r52, h_53, hh0⟩ := bind_some hh0
    rcases cond_some hh0 with ⟨h_54, hh0⟩ | ⟨h_54, hh0⟩
    rotate_left
    · refine PC.region ?_
      refine PL.op rfl (Rd.loadBox rfl rfl rfl) ?_
      refine PL.op rfl (Rd.loadBox rfl rfl rfl) ?_
      refine PL.callM true [] (w_L_equalSpace N r4.1 r6.1 r52 h_53) rfl Try.call35 rfl ⟨.aggL ⟨.t _, .own rfl (by first | decide | exact List.not_mem_nil) rfl rfl, .own rfl (by first | decide | exact List.not_mem_nil) rfl rfl, trivial⟩, .aggL ⟨.t _, .own rfl (by first | decide | exact List.not_mem_nil) rfl rfl, .own rfl (by first | decide | exact List.not_mem_nil) rfl rfl, trivial⟩, trivial⟩ rfl trivial (fun _ => ⟨trivial, flat_nil⟩) ?_
      refine PL.op rfl (Rd.moveT rfl) ?_
      refine PL.guard_off rfl rfl h_54 ?_
      refine PL.guard_off rfl rfl h_54 ?_
      refine PL.guard_off rfl rfl h_54 ?_
      refine PL.op rfl (Rd.pick_f rfl h_54) ?_
      refine PL.op rfl (Rd.asnT rfl) ?_
      refine PL.nil ?_
      refine thA_n ?_
      refine PC.ret ?_
      refine thA_r ?_
      obtain rfl := some_in hh0
      exact FinA.mk (r := bA false) (bl := []) [] (.inl rfl) rfl (rl := [.tmp 2]) (.tmp .nil) rfl rfl rfl (.t _) trivial ⟨rfl, rfl⟩
    refine PC.region ?_
    refine PL.op rfl (Rd.loadBox rfl rfl rfl) ?_
    refine PL.op rfl (Rd.loadBox rfl rfl rfl) ?_
    refine PL.callM true [] (w_L_equalSpace N r4.1 r6.1 r52 h_53) rfl Try.call35 rfl ⟨.aggL ⟨.t _, .own rfl (by first | decide | exact List.not_mem_nil) rfl rfl, .own rfl (by first | decide | exact List.not_mem_nil) rfl rfl, trivial⟩, .aggL ⟨.t _, .own rfl (by first | decide | exact List.not_mem_nil) rfl rfl, .own rfl (by first | decide | exact List.not_mem_nil) rfl rfl, trivial⟩, trivial⟩ rfl trivial (fun _ => ⟨trivial, flat_nil⟩) ?_
    refine PL.op rfl (Rd.moveT rfl) ?_
    refine PL.guard_on rfl h_54 ?_
    refine PL.op rfl (Rd.moveT rfl) ?_
    refine PL.guard_on rfl h_54 ?_
    refine PL.op rfl (Rd.moveT rfl) ?_
    refine PL.guard_on rfl h_54 ?_
    refine PL.op rfl (Rd.eqlB rfl rfl) ?_
    refine PL.op rfl (Rd.pick_t rfl h_54) ?_
    refine PL.op rfl (Rd.asnT rfl) ?_
    refine PL.nil ?_
    refine thA_n ?_
    refine PC.ret ?_
    refine thA_r ?_
    obtain rfl := some_in hh0
    exact FinA.mk (r := bA (r4.2 == r6.2)) (bl := []) [] (.inl rfl) rfl (rl := [.tmp 2]) (.tmp .nil) rfl rfl rfl (.t _) trivial ⟨rfl, rfl⟩
  refine PC.cond_false rfl (not_t h_12) ?_
  refine PC.skip ?_
  refine thA_n ?_
  refine PC.seq ?_
  obtain ⟨r13, h_14, hh0⟩ := bind_some hh0
  refine PC.region ?_
  refine PL.op rfl (Rd.loadBox rfl rfl rfl) ?_
  refine PL.callM true [] (w_I_TakePage N r4.1 r13 h_14) rfl Try.call33 rfl ⟨.aggL ⟨.t _, .own rfl (by first | decide | exact List.not_mem_nil) rfl rfl, .own rfl (by first | decide | exact List.not_mem_nil) rfl rfl, trivial⟩, trivial⟩ rfl trivial (fun _ => ⟨⟨⟨trivial, trivial, trivial, trivial⟩, trivial, trivial, trivial⟩, (flat_cons flat_ow (flat_cons flat_ow flat_nil))⟩) ?_
  refine PL.nm (.tup [.agg [iA r13.1.pages, .os 8 0 r13.1.free.length, .os 9 0 r13.1.held.length], iA r13.2.1, bA r13.2.2]) [some ⟨.tr (eL r2.1.held), 42, 2⟩, some ⟨.mx [iA r2.1.pages, sL r2.1.free, .os 0 0 r2.1.held.length], 30, 0⟩, some ⟨.tr (eL r4.1.free), 3, 1⟩, some ⟨.tr (eL r4.1.held), 42, 2⟩, some ⟨.mx [iA r4.1.pages, .os 2 0 r4.1.free.length, .os 3 0 r4.1.held.length], 30, 0⟩, some ⟨.tr (eL r6.1.free), 3, 1⟩, some ⟨.tr (eL r6.1.held), 42, 2⟩, some ⟨.mx [iA r6.1.pages, .os 5 0 r6.1.free.length, .os 6 0 r6.1.held.length], 30, 0⟩, some ⟨.tr (eL r13.1.free), 3, 1⟩, some ⟨.tr (eL r13.1.held), 42, 2⟩] rfl rfl ?_
  refine PL.op rfl (Rd.moveU rfl) ?_
  refine PL.op rfl (Rd.extract rfl rfl) ?_
  refine PL.op rfl (Rd.extract rfl rfl) ?_
  refine PL.op rfl (Rd.extract rfl rfl) ?_
  refine PL.ef rfl (Ef.alloc rfl rfl) ?_
  refine PL.nm (.op 10 0) [some ⟨.tr (eL r2.1.held), 42, 2⟩, some ⟨.mx [iA r2.1.pages, sL r2.1.free, .os 0 0 r2.1.held.length], 30, 0⟩, some ⟨.tr (eL r4.1.free), 3, 1⟩, some ⟨.tr (eL r4.1.held), 42, 2⟩, some ⟨.mx [iA r4.1.pages, .os 2 0 r4.1.free.length, .os 3 0 r4.1.held.length], 30, 0⟩, some ⟨.tr (eL r6.1.free), 3, 1⟩, some ⟨.tr (eL r6.1.held), 42, 2⟩, some ⟨.mx [iA r6.1.pages, .os 5 0 r6.1.free.length, .os 6 0 r6.1.held.length], 30, 0⟩, some ⟨.tr (eL r13.1.free), 3, 1⟩, some ⟨.tr (eL r13.1.held), 42, 2⟩, some ⟨.mx [iA (0 : Int), .t (.v (.slice none 0 0)), .t (.v (.slice none 0 0))], 30, 0⟩] rfl rfl ?_
  refine PL.store rfl rfl rfl rfl rfl rfl rfl ?_
  refine PL.nO [some ⟨.tr (eL r2.1.held), 42, 2⟩, some ⟨.mx [iA r2.1.pages, sL r2.1.free, .os 0 0 r2.1.held.length], 30, 0⟩, some ⟨.tr (eL r4.1.free), 3, 1⟩, some ⟨.tr (eL r4.1.held), 42, 2⟩, some ⟨.mx [iA r4.1.pages, .os 2 0 r4.1.free.length, .os 3 0 r4.1.held.length], 30, 0⟩, some ⟨.tr (eL r6.1.free), 3, 1⟩, some ⟨.tr (eL r6.1.held), 42, 2⟩, some ⟨.mx [iA r6.1.pages, .os 5 0 r6.1.free.length, .os 6 0 r6.1.held.length], 30, 0⟩, some ⟨.tr (eL r13.1.free), 3, 1⟩, some ⟨.tr (eL r13.1.held), 42, 2⟩, some ⟨.mx [iA r13.1.pages, .os 8 0 r13.1.free.length, .os 9 0 r13.1.held.length], 30, 0⟩] rfl ?_
  refine PL.op rfl (Rd.asnT rfl) ?_
  refine PL.op rfl (Rd.asnT rfl) ?_
  refine PL.nil ?_
  refine thA_n ?_
  refine PC.seq ?_
  obtain ⟨r15, h_16, hh0⟩ := bind_some hh0
  rcases cond_some hh0 with ⟨h_17, hh0⟩ | ⟨h_17, hh0⟩
  rotate_left
  · refine PC.region ?_
    refine PL.op rfl (Rd.loadBox rfl rfl rfl) ?_
    refine PL.callM true [] (w_I_ValidSpace N r4.1 r15 h_16) rfl Try.call17 rfl ⟨.aggL ⟨.t _, .own rfl (by first | decide | exact List.not_mem_nil) rfl rfl, .own rfl (by first | decide | exact List.not_mem_nil) rfl rfl, trivial⟩, trivial⟩ rfl trivial (fun _ => ⟨trivial, flat_nil⟩) ?_
    refine PL.op rfl (Rd.moveT rfl) ?_
    refine PL.guard_off rfl rfl h_17 ?_
    refine PL.guard_off rfl rfl h_17 ?_
    refine PL.guard_off rfl rfl h_17 ?_
    refine PL.guard_off rfl rfl h_17 ?_
    refine PL.op rfl (Rd.pick_f rfl h_17) ?_
    refine PL.op rfl (Rd.moveT rfl) ?_
    refine PL.guard_off rfl rfl rfl ?_
    refine PL.guard_off rfl rfl rfl ?_
    refine PL.guard_off rfl rfl rfl ?_
    refine PL.guard_off rfl rfl rfl ?_
    refine PL.guard_off rfl rfl rfl ?_
    refine PL.op rfl (Rd.pick_f rfl rfl) ?_
    refine PL.op rfl (Rd.moveT rfl) ?_
    refine PL.guard_off rfl rfl rfl ?_
    refine PL.guard_off rfl rfl rfl ?_
    refine PL.guard_off rfl rfl rfl ?_
    refine PL.guard_un rfl rfl ?_
    refine PL.guard_un rfl rfl ?_
    refine PL.guard_un rfl rfl ?_
    refine PL.guard_off rfl rfl rfl ?_
    refine PL.op rfl (Rd.pick_f rfl rfl) ?_
    refine PL.op rfl (Rd.moveT rfl) ?_
    refine PL.guard_off rfl rfl rfl ?_
    refine PL.guard_off rfl rfl rfl ?_
    refine PL.guard_off rfl rfl rfl ?_
    refine PL.guard_off rfl rfl rfl ?_
    refine PL.guard_off rfl rfl rfl ?_
    refine PL.guard_off rfl rfl rfl ?_
    refine PL.guard_off rfl rfl rfl ?_
    refine PL.op rfl (Rd.pick_f rfl rfl) ?_
    refine PL.op rfl (Rd.moveT rfl) ?_
    refine PL.guard_off rfl rfl rfl ?_
    refine PL.guard_off rfl rfl rfl ?_
    refine PL.guard_off rfl rfl rfl ?_
    refine PL.guard_off rfl rfl rfl ?_
    refine PL.guard_off rfl rfl rfl ?_
    refine PL.guard_off rfl rfl rfl ?_
    refine PL.guard_off rfl rfl rfl ?_
    refine PL.op rfl (Rd.pick_f rfl rfl) ?_
    refine PL.op rfl (Rd.asnT rfl) ?_
    refine PL.nil ?_
    refine thA_n ?_
    refine PC.ret ?_
    obtain rfl := some_in hh0
    exact FinA.mk (r := bA false) (bl := []) [] (.inl rfl) rfl (rl := [.tmp 2]) (.tmp .nil) rfl rfl rfl (.t _) trivial ⟨rfl, rfl⟩
  obtain ⟨r18, h_19, hh0⟩ := bind_some hh0
  obtain ⟨r20, h_21, hh0⟩ := bind_some hh0
  rcases cond_some hh0 with ⟨h_22, hh0⟩ | ⟨h_22, hh0⟩
  rotate_left
  · refine PC.region ?_
    refine PL.op rfl (Rd.loadBox rfl rfl rfl) ?_
    refine PL.callM true [] (w_I_ValidSpace N r4.1 r15 h_16) rfl Try.call17 rfl ⟨.aggL ⟨.t _, .own rfl (by first | decide | exact List.not_mem_nil) rfl rfl, .own rfl (by first | decide | exact List.not_mem_nil) rfl rfl, trivial⟩, trivial⟩ rfl trivial (fun _ => ⟨trivial, flat_nil⟩) ?_
    refine PL.op rfl (Rd.moveT rfl) ?_
    refine PL.guard_on rfl h_17 ?_
    refine PL.op rfl (Rd.loadBox rfl rfl rfl) ?_
    refine PL.guard_on rfl h_17 ?_
    refine PL.callM true [] (w_I_PagesInUse N r2.1 r18 h_19) rfl Try.call20 rfl ⟨.aggL ⟨.t _, .t _, .own rfl (by first | decide | exact List.not_mem_nil) rfl rfl, trivial⟩, trivial⟩ rfl trivial (fun _ => ⟨trivial, (flat_cons flat_ow flat_nil)⟩) ?_
    refine PL.nm (.os 11 0 r18.length) [some ⟨.tr (eL r2.1.held), 42, 2⟩, some ⟨.mx [iA r2.1.pages, sL r2.1.free, .os 0 0 r2.1.held.length], 30, 0⟩, some ⟨.tr (eL r4.1.free), 3, 1⟩, some ⟨.tr (eL r4.1.held), 42, 2⟩, some ⟨.mx [iA r4.1.pages, .os 2 0 r4.1.free.length, .os 3 0 r4.1.held.length], 30, 0⟩, some ⟨.tr (eL r6.1.free), 3, 1⟩, some ⟨.tr (eL r6.1.held), 42, 2⟩, some ⟨.mx [iA r6.1.pages, .os 5 0 r6.1.free.length, .os 6 0 r6.1.held.length], 30, 0⟩, some ⟨.tr (eL r13.1.free), 3, 1⟩, some ⟨.tr (eL r13.1.held), 42, 2⟩, some ⟨.mx [iA r13.1.pages, .os 8 0 r13.1.free.length, .os 9 0 r13.1.held.length], 30, 0⟩, some ⟨.tr (eL r18), 3, 1⟩] rfl rfl ?_
    refine PL.guard_on rfl h_17 ?_
    refine PL.op rfl (Rd.moveT rfl) ?_
    refine PL.guard_on rfl h_17 ?_
    refine PL.callM true [] (w_L_isIn N r18 r2.2.1 r20 h_21) rfl Try.call26 rfl ⟨.own rfl (by first | decide | exact List.not_mem_nil) rfl rfl, .t _, trivial⟩ rfl trivial (fun _ => ⟨trivial, flat_nil⟩) ?_
    refine PL.op rfl (Rd.pick_t rfl h_17) ?_
    refine PL.op rfl (Rd.moveT rfl) ?_
    refine PL.guard_off rfl rfl h_22 ?_
    refine PL.guard_off rfl rfl h_22 ?_
    refine PL.guard_off rfl rfl h_22 ?_
    refine PL.guard_off rfl rfl h_22 ?_
    refine PL.guard_off rfl rfl h_22 ?_
    refine PL.op rfl (Rd.pick_f rfl h_22) ?_
    refine PL.op rfl (Rd.moveT rfl) ?_
    refine PL.guard_off rfl rfl rfl ?_
    refine PL.guard_off rfl rfl rfl ?_
    refine PL.guard_off rfl rfl rfl ?_
    refine PL.guard_un rfl rfl ?_
    refine PL.guard_un rfl rfl ?_
    refine PL.guard_un rfl rfl ?_
    refine PL.guard_off rfl rfl rfl ?_
    refine PL.op rfl (Rd.pick_f rfl rfl) ?_
    refine PL.op rfl (Rd.moveT rfl) ?_
    refine PL.guard_off rfl rfl rfl ?_
    refine PL.guard_off rfl rfl rfl ?_
    refine PL.guard_off rfl rfl rfl ?_
    refine PL.guard_off rfl rfl rfl ?_
    refine PL.guard_off rfl rfl rfl ?_
    refine PL.guard_off rfl rfl rfl ?_
    refine PL.guard_off rfl rfl rfl ?_
    refine PL.op rfl (Rd.pick_f rfl rfl) ?_
    refine PL.op rfl (Rd.moveT rfl) ?_
    refine PL.guard_off rfl rfl rfl ?_
    refine PL.guard_off rfl rfl rfl ?_
    refine PL.guard_off rfl rfl rfl ?_
    refine PL.guard_off rfl rfl rfl ?_
    refine PL.guard_off rfl rfl rfl ?_
    refine PL.guard_off rfl rfl rfl ?_
    refine PL.guard_off rfl rfl rfl ?_
    refine PL.op rfl (Rd.pick_f rfl rfl) ?_
    refine PL.op rfl (Rd.asnT rfl) ?_
    refine PL.nil ?_
    refine thA_n ?_
    refine PC.ret ?_
    obtain rfl := some_in hh0
    exact FinA.mk (r := bA false) (bl := []) [] (.inl rfl) rfl (rl := [.tmp 2]) (.tmp .nil) rfl rfl rfl (.t _) trivial ⟨rfl, rfl⟩
  obtain ⟨r23, h_24, hh0⟩ := bind_some hh0
  obtain ⟨r25, h_26, hh0⟩ := bind_some hh0
  rcases cond_some hh0 with ⟨h_27, hh0⟩ | ⟨h_27, hh0⟩
  · refine PC.region ?_
    refine PL.op rfl (Rd.loadBox rfl rfl rfl) ?_
    refine PL.callM true [] (w_I_ValidSpace N r4.1 r15 h_16) rfl Try.call17 rfl ⟨.aggL ⟨.t _, .own rfl (by first | decide | exact List.not_mem_nil) rfl rfl, .own rfl (by first | decide | exact List.not_mem_nil) rfl rfl, trivial⟩, trivial⟩ rfl trivial (fun _ => ⟨trivial, flat_nil⟩) ?_
    refine PL.op rfl (Rd.moveT rfl) ?_
    refine PL.guard_on rfl h_17 ?_
    refine PL.op rfl (Rd.loadBox rfl rfl rfl) ?_
    refine PL.guard_on rfl h_17 ?_
    refine PL.callM true [] (w_I_PagesInUse N r2.1 r18 h_19) rfl Try.call20 rfl ⟨.aggL ⟨.t _, .t _, .own rfl (by first | decide | exact List.not_mem_nil) rfl rfl, trivial⟩, trivial⟩ rfl trivial (fun _ => ⟨trivial, (flat_cons flat_ow flat_nil)⟩) ?_
    refine PL.nm (.os 11 0 r18.length) [some ⟨.tr (eL r2.1.held), 42, 2⟩, some ⟨.mx [iA r2.1.pages, sL r2.1.free, .os 0 0 r2.1.held.length], 30, 0⟩, some ⟨.tr (eL r4.1.free), 3, 1⟩, some ⟨.tr (eL r4.1.held), 42, 2⟩, some ⟨.mx [iA r4.1.pages, .os 2 0 r4.1.free.length, .os 3 0 r4.1.held.length], 30, 0⟩, some ⟨.tr (eL r6.1.free), 3, 1⟩, some ⟨.tr (eL r6.1.held), 42, 2⟩, some ⟨.mx [iA r6.1.pages, .os 5 0 r6.1.free.length, .os 6 0 r6.1.held.length], 30, 0⟩, some ⟨.tr (eL r13.1.free), 3, 1⟩, some ⟨.tr (eL r13.1.held), 42, 2⟩, some ⟨.mx [iA r13.1.pages, .os 8 0 r13.1.free.length, .os 9 0 r13.1.held.length], 30, 0⟩, some ⟨.tr (eL r18), 3, 1⟩] rfl rfl ?_
    refine PL.guard_on rfl h_17 ?_
    refine PL.op rfl (Rd.moveT rfl) ?_
    refine PL.guard_on rfl h_17 ?_
    refine PL.callM true [] (w_L_isIn N r18 r2.2.1 r20 h_21) rfl Try.call26 rfl ⟨.own rfl (by first | decide | exact List.not_mem_nil) rfl rfl, .t _, trivial⟩ rfl trivial (fun _ => ⟨trivial, flat_nil⟩) ?_
    refine PL.op rfl (Rd.pick_t rfl h_17) ?_
    refine PL.op rfl (Rd.moveT rfl) ?_
    refine PL.guard_on rfl h_22 ?_
    refine PL.op rfl (Rd.loadBox rfl rfl rfl) ?_
    refine PL.guard_on rfl h_22 ?_
    refine PL.callM true [] (w_I_PagesInUse N r4.1 r23 h_24) rfl Try.call20 rfl ⟨.aggL ⟨.t _, .own rfl (by first | decide | exact List.not_mem_nil) rfl rfl, .own rfl (by first | decide | exact List.not_mem_nil) rfl rfl, trivial⟩, trivial⟩ rfl trivial (fun _ => ⟨trivial, (flat_cons flat_ow flat_nil)⟩) ?_
    refine PL.nm (.os 12 0 r23.length) [some ⟨.tr (eL r2.1.held), 42, 2⟩, some ⟨.mx [iA r2.1.pages, sL r2.1.free, .os 0 0 r2.1.held.length], 30, 0⟩, some ⟨.tr (eL r4.1.free), 3, 1⟩, some ⟨.tr (eL r4.1.held), 42, 2⟩, some ⟨.mx [iA r4.1.pages, .os 2 0 r4.1.free.length, .os 3 0 r4.1.held.length], 30, 0⟩, some ⟨.tr (eL r6.1.free), 3, 1⟩, some ⟨.tr (eL r6.1.held), 42, 2⟩, some ⟨.mx [iA r6.1.pages, .os 5 0 r6.1.free.length, .os 6 0 r6.1.held.length], 30, 0⟩, some ⟨.tr (eL r13.1.free), 3, 1⟩, some ⟨.tr (eL r13.1.held), 42, 2⟩, some ⟨.mx [iA r13.1.pages, .os 8 0 r13.1.free.length, .os 9 0 r13.1.held.length], 30, 0⟩, some ⟨.tr (eL r18), 3, 1⟩, some ⟨.tr (eL r23), 3, 1⟩] rfl rfl ?_
    refine PL.guard_on rfl h_22 ?_
    refine PL.op rfl (Rd.moveT rfl) ?_
    refine PL.guard_on rfl h_22 ?_
    refine PL.callM true [] (w_L_isIn N r23 r2.2.1 r25 h_26) rfl Try.call26 rfl ⟨.own rfl (by first | decide | exact List.not_mem_nil) rfl rfl, .t _, trivial⟩ rfl trivial (fun _ => ⟨trivial, flat_nil⟩) ?_
    refine PL.guard_on rfl h_22 ?_
    refine PL.op rfl (Rd.unnot rfl) ?_
    refine PL.op rfl (Rd.pick_t rfl h_22) ?_
    refine PL.op rfl (Rd.moveT rfl) ?_
    refine PL.guard_off rfl rfl (not_t h_27) ?_
    refine PL.guard_off rfl rfl (not_t h_27) ?_
    refine PL.guard_off rfl rfl (not_t h_27) ?_
    refine PL.guard_un rfl rfl ?_
    refine PL.guard_un rfl rfl ?_
    refine PL.guard_un rfl rfl ?_
    refine PL.guard_off rfl rfl (not_t h_27) ?_
    refine PL.op rfl (Rd.pick_f rfl (not_t h_27)) ?_
    refine PL.op rfl (Rd.moveT rfl) ?_
    refine PL.guard_off rfl rfl rfl ?_
    refine PL.guard_off rfl rfl rfl ?_
    refine PL.guard_off rfl rfl rfl ?_
    refine PL.guard_off rfl rfl rfl ?_
    refine PL.guard_off rfl rfl rfl ?_
    refine PL.guard_off rfl rfl rfl ?_
    refine PL.guard_off rfl rfl rfl ?_
    refine PL.op rfl (Rd.pick_f rfl rfl) ?_
    refine PL.op rfl (Rd.moveT rfl) ?_
    refine PL.guard_off rfl rfl rfl ?_
    refine PL.guard_off rfl rfl rfl ?_
    refine PL.guard_off rfl rfl rfl ?_
    refine PL.guard_off rfl rfl rfl ?_
    refine PL.guard_off rfl rfl rfl ?_
    refine PL.guard_off rfl rfl rfl ?_
    refine PL.guard_off rfl rfl rfl ?_
    refine PL.op rfl (Rd.pick_f rfl rfl) ?_
    refine PL.op rfl (Rd.asnT rfl) ?_
    refine PL.nil ?_
    refine thA_n ?_
    refine PC.ret ?_
    obtain rfl := some_in hh0
    exact FinA.mk (r := bA false) (bl := []) [] (.inl rfl) rfl (rl := [.tmp 2]) (.tmp .nil) rfl rfl rfl (.t _) trivial ⟨rfl, rfl⟩
  rcases cond_some hh0 with ⟨h_28, hh0⟩ | ⟨h_28, hh0⟩
  rotate_left
  · obtain ⟨n41, h_42, hh0⟩ := bind_some hh0
    obtain ⟨r43, h_44, hh0⟩ := bind_some hh0
    obtain ⟨r45, h_46, hh0⟩ := bind_some hh0
    rcases cond_some hh0 with ⟨h_47, hh0⟩ | ⟨h_47, hh0⟩
    rotate_left
    · refine PC.region ?_
      refine PL.op rfl (Rd.loadBox rfl rfl rfl) ?_
      refine PL.callM true [] (w_I_ValidSpace N r4.1 r15 h_16) rfl Try.call17 rfl ⟨.aggL ⟨.t _, .own rfl (by first | decide | exact List.not_mem_nil) rfl rfl, .own rfl (by first | decide | exact List.not_mem_nil) rfl rfl, trivial⟩, trivial⟩ rfl trivial (fun _ => ⟨trivial, flat_nil⟩) ?_
      refine PL.op rfl (Rd.moveT rfl) ?_
      refine PL.guard_on rfl h_17 ?_
      refine PL.op rfl (Rd.loadBox rfl rfl rfl) ?_
      refine PL.guard_on rfl h_17 ?_
      refine PL.callM true [] (w_I_PagesInUse N r2.1 r18 h_19) rfl Try.call20 rfl ⟨.aggL ⟨.t _, .t _, .own rfl (by first | decide | exact List.not_mem_nil) rfl rfl, trivial⟩, trivial⟩ rfl trivial (fun _ => ⟨trivial, (flat_cons flat_ow flat_nil)⟩) ?_
      refine PL.nm (.os 11 0 r18.length) [some ⟨.tr (eL r2.1.held), 42, 2⟩, some ⟨.mx [iA r2.1.pages, sL r2.1.free, .os 0 0 r2.1.held.length], 30, 0⟩, some ⟨.tr (eL r4.1.free), 3, 1⟩, some ⟨.tr (eL r4.1.held), 42, 2⟩, some ⟨.mx [iA r4.1.pages, .os 2 0 r4.1.free.length, .os 3 0 r4.1.held.length], 30, 0⟩, some ⟨.tr (eL r6.1.free), 3, 1⟩, some ⟨.tr (eL r6.1.held), 42, 2⟩, some ⟨.mx [iA r6.1.pages, .os 5 0 r6.1.free.length, .os 6 0 r6.1.held.length], 30, 0⟩, some ⟨.tr (eL r13.1.free), 3, 1⟩, some ⟨.tr (eL r13.1.held), 42, 2⟩, some ⟨.mx [iA r13.1.pages, .os 8 0 r13.1.free.length, .os 9 0 r13.1.held.length], 30, 0⟩, some ⟨.tr (eL r18), 3, 1⟩] rfl rfl ?_
      refine PL.guard_on rfl h_17 ?_
      refine PL.op rfl (Rd.moveT rfl) ?_
      refine PL.guard_on rfl h_17 ?_
      refine PL.callM true [] (w_L_isIn N r18 r2.2.1 r20 h_21) rfl Try.call26 rfl ⟨.own rfl (by first | decide | exact List.not_mem_nil) rfl rfl, .t _, trivial⟩ rfl trivial (fun _ => ⟨trivial, flat_nil⟩) ?_
      refine PL.op rfl (Rd.pick_t rfl h_17) ?_
      refine PL.op rfl (Rd.moveT rfl) ?_
      refine PL.guard_on rfl h_22 ?_
      refine PL.op rfl (Rd.loadBox rfl rfl rfl) ?_
      refine PL.guard_on rfl h_22 ?_
      refine PL.callM true [] (w_I_PagesInUse N r4.1 r23 h_24) rfl Try.call20 rfl ⟨.aggL ⟨.t _, .own rfl (by first | decide | exact List.not_mem_nil) rfl rfl, .own rfl (by first | decide | exact List.not_mem_nil) rfl rfl, trivial⟩, trivial⟩ rfl trivial (fun _ => ⟨trivial, (flat_cons flat_ow flat_nil)⟩) ?_
      refine PL.nm (.os 12 0 r23.length) [some ⟨.tr (eL r2.1.held), 42, 2⟩, some ⟨.mx [iA r2.1.pages, sL r2.1.free, .os 0 0 r2.1.held.length], 30, 0⟩, some ⟨.tr (eL r4.1.free), 3, 1⟩, some ⟨.tr (eL r4.1.held), 42, 2⟩, some ⟨.mx [iA r4.1.pages, .os 2 0 r4.1.free.length, .os 3 0 r4.1.held.length], 30, 0⟩, some ⟨.tr (eL r6.1.free), 3, 1⟩, some ⟨.tr (eL r6.1.held), 42, 2⟩, some ⟨.mx [iA r6.1.pages, .os 5 0 r6.1.free.length, .os 6 0 r6.1.held.length], 30, 0⟩, some ⟨.tr (eL r13.1.free), 3, 1⟩, some ⟨.tr (eL r13.1.held), 42, 2⟩, some ⟨.mx [iA r13.1.pages, .os 8 0 r13.1.free.length, .os 9 0 r13.1.held.length], 30, 0⟩, some ⟨.tr (eL r18), 3, 1⟩, some ⟨.tr (eL r23), 3, 1⟩] rfl rfl ?_
      refine PL.guard_on rfl h_22 ?_
      refine PL.op rfl (Rd.moveT rfl) ?_
      refine PL.guard_on rfl h_22 ?_
      refine PL.callM true [] (w_L_isIn N r23 r2.2.1 r25 h_26) rfl Try.call26 rfl ⟨.own rfl (by first | decide | exact List.not_mem_nil) rfl rfl, .t _, trivial⟩ rfl trivial (fun _ => ⟨trivial, flat_nil⟩) ?_
      refine PL.guard_on rfl h_22 ?_
      refine PL.op rfl (Rd.unnot rfl) ?_
      refine PL.op rfl (Rd.pick_t rfl h_22) ?_
      refine PL.op rfl (Rd.moveT rfl) ?_
      refine PL.guard_on rfl (not_f h_27) ?_
      refine PL.op rfl (Rd.moveT rfl) ?_
      refine PL.guard_on rfl (not_f h_27) ?_
      refine PL.op rfl (Rd.unnot rfl) ?_
      refine PL.guard_on rfl (not_f h_27) ?_
      refine PL.op rfl (Rd.moveT rfl) ?_
      refine PL.guard_off rfl rfl (not_f h_28) ?_
      refine PL.guard_off rfl rfl (not_f h_28) ?_
      refine PL.guard_off rfl rfl (not_f h_28) ?_
      refine PL.guard_on rfl (not_f h_27) ?_
      refine PL.op rfl (Rd.pick_t rfl (not_f h_28)) ?_
      refine PL.op rfl (Rd.pick_t rfl (not_f h_27)) ?_
      refine PL.op rfl (Rd.moveT rfl) ?_
      refine PL.guard_on rfl rfl ?_
      refine PL.op rfl (Rd.loadBox rfl rfl rfl) ?_
      refine PL.guard_on rfl rfl ?_
      refine PL.op rfl (Rd.moveT rfl) ?_
      refine PL.guard_on rfl rfl ?_
      refine PL.op rfl (Rd.addM rfl rfl h_42) ?_
      refine PL.guard_on rfl rfl ?_
      refine PL.callM true [] (w_I_ReleasePages N r4.1 n41 r43 h_44) rfl Try.call38 rfl ⟨.aggL ⟨.t _, .own rfl (by first | decide | exact List.not_mem_nil) rfl rfl, .own rfl (by first | decide | exact List.not_mem_nil) rfl rfl, trivial⟩, .t _, trivial⟩ rfl trivial (fun _ => ⟨⟨trivial, trivial, trivial, trivial⟩, (flat_cons flat_ow (flat_cons flat_ow flat_nil))⟩) ?_
      refine PL.nm (.agg [iA r43.pages, .os 13 0 r43.free.length, .os 14 0 r43.held.length]) [some ⟨.tr (eL r2.1.held), 42, 2⟩, some ⟨.mx [iA r2.1.pages, sL r2.1.free, .os 0 0 r2.1.held.length], 30, 0⟩, some ⟨.tr (eL r4.1.free), 3, 1⟩, some ⟨.tr (eL r4.1.held), 42, 2⟩, some ⟨.mx [iA r4.1.pages, .os 2 0 r4.1.free.length, .os 3 0 r4.1.held.length], 30, 0⟩, some ⟨.tr (eL r6.1.free), 3, 1⟩, some ⟨.tr (eL r6.1.held), 42, 2⟩, some ⟨.mx [iA r6.1.pages, .os 5 0 r6.1.free.length, .os 6 0 r6.1.held.length], 30, 0⟩, some ⟨.tr (eL r13.1.free), 3, 1⟩, some ⟨.tr (eL r13.1.held), 42, 2⟩, some ⟨.mx [iA r13.1.pages, .os 8 0 r13.1.free.length, .os 9 0 r13.1.held.length], 30, 0⟩, some ⟨.tr (eL r18), 3, 1⟩, some ⟨.tr (eL r23), 3, 1⟩, some ⟨.tr (eL r43.free), 3, 1⟩, some ⟨.tr (eL r43.held), 42, 2⟩] rfl rfl ?_
      refine PL.guard_on rfl rfl ?_
      refine PL.op rfl (Rd.field1M (t' := 22) (off := 1) rfl (fun _ _ => by kernel_rfl) rfl) ?_
      refine PL.guard_on rfl rfl ?_
      refine PL.op rfl (Rd.moveT rfl) ?_
      refine PL.guard_on rfl rfl ?_
      refine PL.callM true [] (w_L_isIn N r43.free r2.2.1 r45 h_46) rfl Try.call26 rfl ⟨.own rfl (by first | decide | exact List.not_mem_nil) rfl rfl, .t _, trivial⟩ rfl trivial (fun _ => ⟨trivial, flat_nil⟩) ?_
      refine PL.op rfl (Rd.pick_t rfl rfl) ?_
      refine PL.op rfl (Rd.moveT rfl) ?_
      refine PL.guard_off rfl rfl h_47 ?_
      refine PL.guard_off rfl rfl h_47 ?_
      refine PL.guard_off rfl rfl h_47 ?_
      refine PL.guard_off rfl rfl h_47 ?_
      refine PL.guard_off rfl rfl h_47 ?_
      refine PL.guard_off rfl rfl h_47 ?_
      refine PL.guard_off rfl rfl h_47 ?_
      refine PL.op rfl (Rd.pick_f rfl h_47) ?_
      refine PL.op rfl (Rd.asnT rfl) ?_
      refine PL.nil ?_
      refine thA_n ?_
      refine PC.ret ?_
      obtain rfl := some_in hh0
      exact FinA.mk (r := bA false) (bl := []) [] (.inl rfl) rfl (rl := [.tmp 2]) (.tmp .nil) rfl rfl rfl (.t _) trivial ⟨rfl, rfl⟩
    obtain ⟨r48, h_49, hh0⟩ := bind_some hh0
    obtain ⟨r50, h_51, hh0⟩ := bind_some hh0
    refine PC.region ?_
    refine PL.op rfl (Rd.loadBox rfl rfl rfl) ?_
    refine PL.callM true [] (w_I_ValidSpace N r4.1 r15 h_16) rfl Try.call17 rfl ⟨.aggL ⟨.t _, .own rfl (by first | decide | exact List.not_mem_nil) rfl rfl, .own rfl (by first | decide | exact List.not_mem_nil) rfl rfl, trivial⟩, trivial⟩ rfl trivial (fun _ => ⟨trivial, flat_nil⟩) ?_
    refine PL.op rfl (Rd.moveT rfl) ?_
    refine PL.guard_on rfl h_17 ?_
    refine PL.op rfl (Rd.loadBox rfl rfl rfl) ?_
    refine PL.guard_on rfl h_17 ?_
    refine PL.callM true [] (w_I_PagesInUse N r2.1 r18 h_19) rfl Try.call20 rfl ⟨.aggL ⟨.t _, .t _, .own rfl (by first | decide | exact List.not_mem_nil) rfl rfl, trivial⟩, trivial⟩ rfl trivial (fun _ => ⟨trivial, (flat_cons flat_ow flat_nil)⟩) ?_
    refine PL.nm (.os 11 0 r18.length) [some ⟨.tr (eL r2.1.held), 42, 2⟩, some ⟨.mx [iA r2.1.pages, sL r2.1.free, .os 0 0 r2.1.held.length], 30, 0⟩, some ⟨.tr (eL r4.1.free), 3, 1⟩, some ⟨.tr (eL r4.1.held), 42, 2⟩, some ⟨.mx [iA r4.1.pages, .os 2 0 r4.1.free.length, .os 3 0 r4.1.held.length], 30, 0⟩, some ⟨.tr (eL r6.1.free), 3, 1⟩, some ⟨.tr (eL r6.1.held), 42, 2⟩, some ⟨.mx [iA r6.1.pages, .os 5 0 r6.1.free.length, .os 6 0 r6.1.held.length], 30, 0⟩, some ⟨.tr (eL r13.1.free), 3, 1⟩, some ⟨.tr (eL r13.1.held), 42, 2⟩, some ⟨.mx [iA r13.1.pages, .os 8 0 r13.1.free.length, .os 9 0 r13.1.held.length], 30, 0⟩, some ⟨.tr (eL r18), 3, 1⟩] rfl rfl ?_
    refine PL.guard_on rfl h_17 ?_
    refine PL.op rfl (Rd.moveT rfl) ?_
    refine PL.guard_on rfl h_17 ?_
    refine PL.callM true [] (w_L_isIn N r18 r2.2.1 r20 h_21) rfl Try.call26 rfl ⟨.own rfl (by first | decide | exact List.not_mem_nil) rfl rfl, .t _, trivial⟩ rfl trivial (fun _ => ⟨trivial, flat_nil⟩) ?_
    refine PL.op rfl (Rd.pick_t rfl h_17) ?_
    refine PL.op rfl (Rd.moveT rfl) ?_
    refine PL.guard_on rfl h_22 ?_
    refine PL.op rfl (Rd.loadBox rfl rfl rfl) ?_
    refine PL.guard_on rfl h_22 ?_
    refine PL.callM true [] (w_I_PagesInUse N r4.1 r23 h_24) rfl Try.call20 rfl ⟨.aggL ⟨.t _, .own rfl (by first | decide | exact List.not_mem_nil) rfl rfl, .own rfl (by first | decide | exact List.not_mem_nil) rfl rfl, trivial⟩, trivial⟩ rfl trivial (fun _ => ⟨trivial, (flat_cons flat_ow flat_nil)⟩) ?_
    refine PL.nm (.os 12 0 r23.length) [some ⟨.tr (eL r2.1.held), 42, 2⟩, some ⟨.mx [iA r2.1.pages, sL r2.1.free, .os 0 0 r2.1.held.length], 30, 0⟩, some ⟨.tr (eL r4.1.free), 3, 1⟩, some ⟨.tr (eL r4.1.held), 42, 2⟩, some ⟨.mx [iA r4.1.pages, .os 2 0 r4.1.free.length, .os 3 0 r4.1.held.length], 30, 0⟩, some ⟨.tr (eL r6.1.free), 3, 1⟩, some ⟨.tr (eL r6.1.held), 42, 2⟩, some ⟨.mx [iA r6.1.pages, .os 5 0 r6.1.free.length, .os 6 0 r6.1.held.length], 30, 0⟩, some ⟨.tr (eL r13.1.free), 3, 1⟩, some ⟨.tr (eL r13.1.held), 42, 2⟩, some ⟨.mx [iA r13.1.pages, .os 8 0 r13.1.free.length, .os 9 0 r13.1.held.length], 30, 0⟩, some ⟨.tr (eL r18), 3, 1⟩, some ⟨.tr (eL r23), 3, 1⟩] rfl rfl ?_
    refine PL.guard_on rfl h_22 ?_
    refine PL.op rfl (Rd.moveT rfl) ?_
    refine PL.guard_on rfl h_22 ?_
    refine PL.callM true [] (w_L_isIn N r23 r2.2.1 r25 h_26) rfl Try.call26 rfl ⟨.own rfl (by first | decide | exact List.not_mem_nil) rfl rfl, .t _, trivial⟩ rfl trivial (fun _ => ⟨trivial, flat_nil⟩) ?_
    refine PL.guard_on rfl h_22 ?_
    refine PL.op rfl (Rd.unnot rfl) ?_
    refine PL.op rfl (Rd.pick_t rfl h_22) ?_
    refine PL.op rfl (Rd.moveT rfl) ?_
    refine PL.guard_on rfl (not_f h_27) ?_
    refine PL.op rfl (Rd.moveT rfl) ?_
    refine PL.guard_on rfl (not_f h_27) ?_
    refine PL.op rfl (Rd.unnot rfl) ?_
    refine PL.guard_on rfl (not_f h_27) ?_
    refine PL.op rfl (Rd.moveT rfl) ?_
    refine PL.guard_off rfl rfl (not_f h_28) ?_
    refine PL.guard_off rfl rfl (not_f h_28) ?_
    refine PL.guard_off rfl rfl (not_f h_28) ?_
    refine PL.guard_on rfl (not_f h_27) ?_
    refine PL.op rfl (Rd.pick_t rfl (not_f h_28)) ?_
    refine PL.op rfl (Rd.pick_t rfl (not_f h_27)) ?_
    refine PL.op rfl (Rd.moveT rfl) ?_
    refine PL.guard_on rfl rfl ?_
    refine PL.op rfl (Rd.loadBox rfl rfl rfl) ?_
    refine PL.guard_on rfl rfl ?_
    refine PL.op rfl (Rd.moveT rfl) ?_
    refine PL.guard_on rfl rfl ?_
    refine PL.op rfl (Rd.addM rfl rfl h_42) ?_
    refine PL.guard_on rfl rfl ?_
    refine PL.callM true [] (w_I_ReleasePages N r4.1 n41 r43 h_44) rfl Try.call38 rfl ⟨.aggL ⟨.t _, .own rfl (by first | decide | exact List.not_mem_nil) rfl rfl, .own rfl (by first | decide | exact List.not_mem_nil) rfl rfl, trivial⟩, .t _, trivial⟩ rfl trivial (fun _ => ⟨⟨trivial, trivial, trivial, trivial⟩, (flat_cons flat_ow (flat_cons flat_ow flat_nil))⟩) ?_
    refine PL.nm (.agg [iA r43.pages, .os 13 0 r43.free.length, .os 14 0 r43.held.length]) [some ⟨.tr (eL r2.1.held), 42, 2⟩, some ⟨.mx [iA r2.1.pages, sL r2.1.free, .os 0 0 r2.1.held.length], 30, 0⟩, some ⟨.tr (eL r4.1.free), 3, 1⟩, some ⟨.tr (eL r4.1.held), 42, 2⟩, some ⟨.mx [iA r4.1.pages, .os 2 0 r4.1.free.length, .os 3 0 r4.1.held.length], 30, 0⟩, some ⟨.tr (eL r6.1.free), 3, 1⟩, some ⟨.tr (eL r6.1.held), 42, 2⟩, some ⟨.mx [iA r6.1.pages, .os 5 0 r6.1.free.length, .os 6 0 r6.1.held.length], 30, 0⟩, some ⟨.tr (eL r13.1.free), 3, 1⟩, some ⟨.tr (eL r13.1.held), 42, 2⟩, some ⟨.mx [iA r13.1.pages, .os 8 0 r13.1.free.length, .os 9 0 r13.1.held.length], 30, 0⟩, some ⟨.tr (eL r18), 3, 1⟩, some ⟨.tr (eL r23), 3, 1⟩, some ⟨.tr (eL r43.free), 3, 1⟩, some ⟨.tr (eL r43.held), 42, 2⟩] rfl rfl ?_
    refine PL.guard_on rfl rfl ?_
    refine PL.op rfl (Rd.field1M (t' := 22) (off := 1) rfl (fun _ _ => by kernel_rfl) rfl) ?_
    refine PL.guard_on rfl rfl ?_
    refine PL.op rfl (Rd.moveT rfl) ?_
    refine PL.guard_on rfl rfl ?_
    refine PL.callM true [] (w_L_isIn N r43.free r2.2.1 r45 h_46) rfl Try.call26 rfl ⟨.own rfl (by first | decide | exact List.not_mem_nil) rfl rfl, .t _, trivial⟩ rfl trivial (fun _ => ⟨trivial, flat_nil⟩) ?_
    refine PL.op rfl (Rd.pick_t rfl rfl) ?_
    refine PL.op rfl (Rd.moveT rfl) ?_
    refine PL.guard_on rfl h_47 ?_
    refine PL.op rfl (Rd.loadBox rfl rfl rfl) ?_
    refine PL.guard_on rfl h_47 ?_
    refine PL.op rfl (Rd.moveT rfl) ?_
    refine PL.guard_on rfl h_47 ?_
    refine PL.callM true [] (w_I_ReleasePages N r4.1 r2.2.2 r48 h_49) rfl Try.call38 rfl ⟨.aggL ⟨.t _, .own rfl (by first | decide | exact List.not_mem_nil) rfl rfl, .own rfl (by first | decide | exact List.not_mem_nil) rfl rfl, trivial⟩, .t _, trivial⟩ rfl trivial (fun _ => ⟨⟨trivial, trivial, trivial, trivial⟩, (flat_cons flat_ow (flat_cons flat_ow flat_nil))⟩) ?_
    refine PL.nm (.agg [iA r48.pages, .os 15 0 r48.free.length, .os 16 0 r48.held.length]) [some ⟨.tr (eL r2.1.held), 42, 2⟩, some ⟨.mx [iA r2.1.pages, sL r2.1.free, .os 0 0 r2.1.held.length], 30, 0⟩, some ⟨.tr (eL r4.1.free), 3, 1⟩, some ⟨.tr (eL r4.1.held), 42, 2⟩, some ⟨.mx [iA r4.1.pages, .os 2 0 r4.1.free.length, .os 3 0 r4.1.held.length], 30, 0⟩, some ⟨.tr (eL r6.1.free), 3, 1⟩, some ⟨.tr (eL r6.1.held), 42, 2⟩, some ⟨.mx [iA r6.1.pages, .os 5 0 r6.1.free.length, .os 6 0 r6.1.held.length], 30, 0⟩, some ⟨.tr (eL r13.1.free), 3, 1⟩, some ⟨.tr (eL r13.1.held), 42, 2⟩, some ⟨.mx [iA r13.1.pages, .os 8 0 r13.1.free.length, .os 9 0 r13.1.held.length], 30, 0⟩, some ⟨.tr (eL r18), 3, 1⟩, some ⟨.tr (eL r23), 3, 1⟩, some ⟨.tr (eL r43.free), 3, 1⟩, some ⟨.tr (eL r43.held), 42, 2⟩, some ⟨.tr (eL r48.free), 3, 1⟩, some ⟨.tr (eL r48.held), 42, 2⟩] rfl rfl ?_
    refine PL.guard_on rfl h_47 ?_
    refine PL.op rfl (Rd.field1M (t' := 22) (off := 1) rfl (fun _ _ => by kernel_rfl) rfl) ?_
    refine PL.guard_on rfl h_47 ?_
    refine PL.op rfl (Rd.moveT rfl) ?_
    refine PL.guard_on rfl h_47 ?_
    refine PL.callM true [] (w_L_isIn N r48.free r2.2.1 r50 h_51) rfl Try.call26 rfl ⟨.own rfl (by first | decide | exact List.not_mem_nil) rfl rfl, .t _, trivial⟩ rfl trivial (fun _ => ⟨trivial, flat_nil⟩) ?_
    refine PL.guard_on rfl h_47 ?_
    refine PL.op rfl (Rd.unnot rfl) ?_
    refine PL.op rfl (Rd.pick_t rfl h_47) ?_
    refine PL.op rfl (Rd.asnT rfl) ?_
    refine PL.nil ?_
    refine thA_n ?_
    refine PC.ret ?_
    obtain rfl := some_in hh0
    exact FinA.mk (r := bA (!r50)) (bl := []) [] (.inl rfl) rfl (rl := [.tmp 2]) (.tmp .nil) rfl rfl rfl (.t _) trivial ⟨rfl, rfl⟩
  rcases cond_some hh0 with ⟨h_29, hh0⟩ | ⟨h_29, hh0⟩
  · refine PC.region ?_
    refine PL.op rfl (Rd.loadBox rfl rfl rfl) ?_
    refine PL.callM true [] (w_I_ValidSpace N r4.1 r15 h_16) rfl Try.call17 rfl ⟨.aggL ⟨.t _, .own rfl (by first | decide | exact List.not_mem_nil) rfl rfl, .own rfl (by first | decide | exact List.not_mem_nil) rfl rfl, trivial⟩, trivial⟩ rfl trivial (fun _ => ⟨trivial, flat_nil⟩) ?_
    refine PL.op rfl (Rd.moveT rfl) ?_
    refine PL.guard_on rfl h_17 ?_
    refine PL.op rfl (Rd.loadBox rfl rfl rfl) ?_
    refine PL.guard_on rfl h_17 ?_
    refine PL.callM true [] (w_I_PagesInUse N r2.1 r18 h_19) rfl Try.call20 rfl ⟨.aggL ⟨.t _, .t _, .own rfl (by first | decide | exact List.not_mem_nil) rfl rfl, trivial⟩, trivial⟩ rfl trivial (fun _ => ⟨trivial, (flat_cons flat_ow flat_nil)⟩) ?_
    refine PL.nm (.os 11 0 r18.length) [some ⟨.tr (eL r2.1.held), 42, 2⟩, some ⟨.mx [iA r2.1.pages, sL r2.1.free, .os 0 0 r2.1.held.length], 30, 0⟩, some ⟨.tr (eL r4.1.free), 3, 1⟩, some ⟨.tr (eL r4.1.held), 42, 2⟩, some ⟨.mx [iA r4.1.pages, .os 2 0 r4.1.free.length, .os 3 0 r4.1.held.length], 30, 0⟩, some ⟨.tr (eL r6.1.free), 3, 1⟩, some ⟨.tr (eL r6.1.held), 42, 2⟩, some ⟨.mx [iA r6.1.pages, .os 5 0 r6.1.free.length, .os 6 0 r6.1.held.length], 30, 0⟩, some ⟨.tr (eL r13.1.free), 3, 1⟩, some ⟨.tr (eL r13.1.held), 42, 2⟩, some ⟨.mx [iA r13.1.pages, .os 8 0 r13.1.free.length, .os 9 0 r13.1.held.length], 30, 0⟩, some ⟨.tr (eL r18), 3, 1⟩] rfl rfl ?_
    refine PL.guard_on rfl h_17 ?_
    refine PL.op rfl (Rd.moveT rfl) ?_
    refine PL.guard_on rfl h_17 ?_
    refine PL.callM true [] (w_L_isIn N r18 r2.2.1 r20 h_21) rfl Try.call26 rfl ⟨.own rfl (by first | decide | exact List.not_mem_nil) rfl rfl, .t _, trivial⟩ rfl trivial (fun _ => ⟨trivial, flat_nil⟩) ?_
    refine PL.op rfl (Rd.pick_t rfl h_17) ?_
    refine PL.op rfl (Rd.moveT rfl) ?_
    refine PL.guard_on rfl h_22 ?_
    refine PL.op rfl (Rd.loadBox rfl rfl rfl) ?_
    refine PL.guard_on rfl h_22 ?_
    refine PL.callM true [] (w_I_PagesInUse N r4.1 r23 h_24) rfl Try.call20 rfl ⟨.aggL ⟨.t _, .own rfl (by first | decide | exact List.not_mem_nil) rfl rfl, .own rfl (by first | decide | exact List.not_mem_nil) rfl rfl, trivial⟩, trivial⟩ rfl trivial (fun _ => ⟨trivial, (flat_cons flat_ow flat_nil)⟩) ?_
    refine PL.nm (.os 12 0 r23.length) [some ⟨.tr (eL r2.1.held), 42, 2⟩, some ⟨.mx [iA r2.1.pages, sL r2.1.free, .os 0 0 r2.1.held.length], 30, 0⟩, some ⟨.tr (eL r4.1.free), 3, 1⟩, some ⟨.tr (eL r4.1.held), 42, 2⟩, some ⟨.mx [iA r4.1.pages, .os 2 0 r4.1.free.length, .os 3 0 r4.1.held.length], 30, 0⟩, some ⟨.tr (eL r6.1.free), 3, 1⟩, some ⟨.tr (eL r6.1.held), 42, 2⟩, some ⟨.mx [iA r6.1.pages, .os 5 0 r6.1.free.length, .os 6 0 r6.1.held.length], 30, 0⟩, some ⟨.tr (eL r13.1.free), 3, 1⟩, some ⟨.tr (eL r13.1.held), 42, 2⟩, some ⟨.mx [iA r13.1.pages, .os 8 0 r13.1.free.length, .os 9 0 r13.1.held.length], 30, 0⟩, some ⟨.tr (eL r18), 3, 1⟩, some ⟨.tr (eL r23), 3, 1⟩] rfl rfl ?_
    refine PL.guard_on rfl h_22 ?_
    refine PL.op rfl (Rd.moveT rfl) ?_
    refine PL.guard_on rfl h_22 ?_
    refine PL.callM true [] (w_L_isIn N r23 r2.2.1 r25 h_26) rfl Try.call26 rfl ⟨.own rfl (by first | decide | exact List.not_mem_nil) rfl rfl, .t _, trivial⟩ rfl trivial (fun _ => ⟨trivial, flat_nil⟩) ?_
    refine PL.guard_on rfl h_22 ?_
    refine PL.op rfl (Rd.unnot rfl) ?_
    refine PL.op rfl (Rd.pick_t rfl h_22) ?_
    refine PL.op rfl (Rd.moveT rfl) ?_
    refine PL.guard_on rfl (not_f h_27) ?_
    refine PL.op rfl (Rd.moveT rfl) ?_
    refine PL.guard_on rfl (not_f h_27) ?_
    refine PL.op rfl (Rd.unnot rfl) ?_
    refine PL.guard_on rfl (not_f h_27) ?_
    refine PL.op rfl (Rd.moveT rfl) ?_
    refine PL.guard_on rfl (not_t h_28) ?_
    refine PL.op rfl (Rd.moveT rfl) ?_
    refine PL.guard_on rfl (not_t h_28) ?_
    refine PL.op rfl (Rd.moveT rfl) ?_
    refine PL.guard_on rfl (not_t h_28) ?_
    refine PL.op rfl (Rd.neq rfl rfl) ?_
    refine PL.guard_on rfl (not_f h_27) ?_
    refine PL.op rfl (Rd.pick_f rfl (not_t h_28)) ?_
    refine PL.op rfl (Rd.pick_t rfl (not_f h_27)) ?_
    refine PL.op rfl (Rd.moveT rfl) ?_
    refine PL.guard_off rfl rfl (not_t h_29) ?_
    refine PL.guard_off rfl rfl (not_t h_29) ?_
    refine PL.guard_off rfl rfl (not_t h_29) ?_
    refine PL.guard_off rfl rfl (not_t h_29) ?_
    refine PL.guard_off rfl rfl (not_t h_29) ?_
    refine PL.guard_off rfl rfl (not_t h_29) ?_
    refine PL.guard_off rfl rfl (not_t h_29) ?_
    refine PL.op rfl (Rd.pick_f rfl (not_t h_29)) ?_
    refine PL.op rfl (Rd.moveT rfl) ?_
    refine PL.guard_off rfl rfl rfl ?_
    refine PL.guard_off rfl rfl rfl ?_
    refine PL.guard_off rfl rfl rfl ?_
    refine PL.guard_off rfl rfl rfl ?_
    refine PL.guard_off rfl rfl rfl ?_
    refine PL.guard_off rfl rfl rfl ?_
    refine PL.guard_off rfl rfl rfl ?_
    refine PL.op rfl (Rd.pick_f rfl rfl) ?_
    refine PL.op rfl (Rd.asnT rfl) ?_
    refine PL.nil ?_
    refine thA_n ?_
    refine PC.ret ?_
    obtain rfl := some_in hh0
    exact FinA.mk (r := bA false) (bl := []) [] (.inl rfl) rfl (rl := [.tmp 2]) (.tmp .nil) rfl rfl rfl (.t _) trivial ⟨rfl, rfl⟩
  obtain ⟨n30, h_31, hh0⟩ := bind_some hh0
  obtain ⟨r32, h_33, hh0⟩ := bind_some hh0
  obtain ⟨r34, h_35, hh0⟩ := bind_some hh0
  rcases cond_some hh0 with ⟨h_36, hh0⟩ | ⟨h_36, hh0⟩
  rotate_left
  · refine PC.region ?_
    refine PL.op rfl (Rd.loadBox rfl rfl rfl) ?_
    refine PL.callM true [] (w_I_ValidSpace N r4.1 r15 h_16) rfl Try.call17 rfl ⟨.aggL ⟨.t _, .own rfl (by first | decide | exact List.not_mem_nil) rfl rfl, .own rfl (by first | decide | exact List.not_mem_nil) rfl rfl, trivial⟩, trivial⟩ rfl trivial (fun _ => ⟨trivial, flat_nil⟩) ?_
    refine PL.op rfl (Rd.moveT rfl) ?_
    refine PL.guard_on rfl h_17 ?_
    refine PL.op rfl (Rd.loadBox rfl rfl rfl) ?_
    refine PL.guard_on rfl h_17 ?_
    refine PL.callM true [] (w_I_PagesInUse N r2.1 r18 h_19) rfl Try.call20 rfl ⟨.aggL ⟨.t _, .t _, .own rfl (by first | decide | exact List.not_mem_nil) rfl rfl, trivial⟩, trivial⟩ rfl trivial (fun _ => ⟨trivial, (flat_cons flat_ow flat_nil)⟩) ?_
    refine PL.nm (.os 11 0 r18.length) [some ⟨.tr (eL r2.1.held), 42, 2⟩, some ⟨.mx [iA r2.1.pages, sL r2.1.free, .os 0 0 r2.1.held.length], 30, 0⟩, some ⟨.tr (eL r4.1.free), 3, 1⟩, some ⟨.tr (eL r4.1.held), 42, 2⟩, some ⟨.mx [iA r4.1.pages, .os 2 0 r4.1.free.length, .os 3 0 r4.1.held.length], 30, 0⟩, some ⟨.tr (eL r6.1.free), 3, 1⟩, some ⟨.tr (eL r6.1.held), 42, 2⟩, some ⟨.mx [iA r6.1.pages, .os 5 0 r6.1.free.length, .os 6 0 r6.1.held.length], 30, 0⟩, some ⟨.tr (eL r13.1.free), 3, 1⟩, some ⟨.tr (eL r13.1.held), 42, 2⟩, some ⟨.mx [iA r13.1.pages, .os 8 0 r13.1.free.length, .os 9 0 r13.1.held.length], 30, 0⟩, some ⟨.tr (eL r18), 3, 1⟩] rfl rfl ?_
    refine PL.guard_on rfl h_17 ?_
    refine PL.op rfl (Rd.moveT rfl) ?_
    refine PL.guard_on rfl h_17 ?_
    refine PL.callM true [] (w_L_isIn N r18 r2.2.1 r20 h_21) rfl Try.call26 rfl ⟨.own rfl (by first | decide | exact List.not_mem_nil) rfl rfl, .t _, trivial⟩ rfl trivial (fun _ => ⟨trivial, flat_nil⟩) ?_
    refine PL.op rfl (Rd.pick_t rfl h_17) ?_
    refine PL.op rfl (Rd.moveT rfl) ?_
    refine PL.guard_on rfl h_22 ?_
    refine PL.op rfl (Rd.loadBox rfl rfl rfl) ?_
    refine PL.guard_on rfl h_22 ?_
    refine PL.callM true [] (w_I_PagesInUse N r4.1 r23 h_24) rfl Try.call20 rfl ⟨.aggL ⟨.t _, .own rfl (by first | decide | exact List.not_mem_nil) rfl rfl, .own rfl (by first | decide | exact List.not_mem_nil) rfl rfl, trivial⟩, trivial⟩ rfl trivial (fun _ => ⟨trivial, (flat_cons flat_ow flat_nil)⟩) ?_
    refine PL.nm (.os 12 0 r23.length) [some ⟨.tr (eL r2.1.held), 42, 2⟩, some ⟨.mx [iA r2.1.pages, sL r2.1.free, .os 0 0 r2.1.held.length], 30, 0⟩, some ⟨.tr (eL r4.1.free), 3, 1⟩, some ⟨.tr (eL r4.1.held), 42, 2⟩, some ⟨.mx [iA r4.1.pages, .os 2 0 r4.1.free.length, .os 3 0 r4.1.held.length], 30, 0⟩, some ⟨.tr (eL r6.1.free), 3, 1⟩, some ⟨.tr (eL r6.1.held), 42, 2⟩, some ⟨.mx [iA r6.1.pages, .os 5 0 r6.1.free.length, .os 6 0 r6.1.held.length], 30, 0⟩, some ⟨.tr (eL r13.1.free), 3, 1⟩, some ⟨.tr (eL r13.1.held), 42, 2⟩, some ⟨.mx [iA r13.1.pages, .os 8 0 r13.1.free.length, .os 9 0 r13.1.held.length], 30, 0⟩, some ⟨.tr (eL r18), 3, 1⟩, some ⟨.tr (eL r23), 3, 1⟩] rfl rfl ?_
    refine PL.guard_on rfl h_22 ?_
    refine PL.op rfl (Rd.moveT rfl) ?_
    refine PL.guard_on rfl h_22 ?_
    refine PL.callM true [] (w_L_isIn N r23 r2.2.1 r25 h_26) rfl Try.call26 rfl ⟨.own rfl (by first | decide | exact List.not_mem_nil) rfl rfl, .t _, trivial⟩ rfl trivial (fun _ => ⟨trivial, flat_nil⟩) ?_
    refine PL.guard_on rfl h_22 ?_
    refine PL.op rfl (Rd.unnot rfl) ?_
    refine PL.op rfl (Rd.pick_t rfl h_22) ?_
    refine PL.op rfl (Rd.moveT rfl) ?_
    refine PL.guard_on rfl (not_f h_27) ?_
    refine PL.op rfl (Rd.moveT rfl) ?_
    refine PL.guard_on rfl (not_f h_27) ?_
    refine PL.op rfl (Rd.unnot rfl) ?_
    refine PL.guard_on rfl (not_f h_27) ?_
    refine PL.op rfl (Rd.moveT rfl) ?_
    refine PL.guard_on rfl (not_t h_28) ?_
    refine PL.op rfl (Rd.moveT rfl) ?_
    refine PL.guard_on rfl (not_t h_28) ?_
    refine PL.op rfl (Rd.moveT rfl) ?_
    refine PL.guard_on rfl (not_t h_28) ?_
    refine PL.op rfl (Rd.neq rfl rfl) ?_
    refine PL.guard_on rfl (not_f h_27) ?_
    refine PL.op rfl (Rd.pick_f rfl (not_t h_28)) ?_
    refine PL.op rfl (Rd.pick_t rfl (not_f h_27)) ?_
    refine PL.op rfl (Rd.moveT rfl) ?_
    refine PL.guard_on rfl (not_f h_29) ?_
    refine PL.op rfl (Rd.loadBox rfl rfl rfl) ?_
    refine PL.guard_on rfl (not_f h_29) ?_
    refine PL.op rfl (Rd.moveT rfl) ?_
    refine PL.guard_on rfl (not_f h_29) ?_
    refine PL.op rfl (Rd.addM rfl rfl h_31) ?_
    refine PL.guard_on rfl (not_f h_29) ?_
    refine PL.callM true [] (w_I_ReleasePages N r4.1 n30 r32 h_33) rfl Try.call38 rfl ⟨.aggL ⟨.t _, .own rfl (by first | decide | exact List.not_mem_nil) rfl rfl, .own rfl (by first | decide | exact List.not_mem_nil) rfl rfl, trivial⟩, .t _, trivial⟩ rfl trivial (fun _ => ⟨⟨trivial, trivial, trivial, trivial⟩, (flat_cons flat_ow (flat_cons flat_ow flat_nil))⟩) ?_
    refine PL.nm (.agg [iA r32.pages, .os 13 0 r32.free.length, .os 14 0 r32.held.length]) [some ⟨.tr (eL r2.1.held), 42, 2⟩, some ⟨.mx [iA r2.1.pages, sL r2.1.free, .os 0 0 r2.1.held.length], 30, 0⟩, some ⟨.tr (eL r4.1.free), 3, 1⟩, some ⟨.tr (eL r4.1.held), 42, 2⟩, some ⟨.mx [iA r4.1.pages, .os 2 0 r4.1.free.length, .os 3 0 r4.1.held.length], 30, 0⟩, some ⟨.tr (eL r6.1.free), 3, 1⟩, some ⟨.tr (eL r6.1.held), 42, 2⟩, some ⟨.mx [iA r6.1.pages, .os 5 0 r6.1.free.length, .os 6 0 r6.1.held.length], 30, 0⟩, some ⟨.tr (eL r13.1.free), 3, 1⟩, some ⟨.tr (eL r13.1.held), 42, 2⟩, some ⟨.mx [iA r13.1.pages, .os 8 0 r13.1.free.length, .os 9 0 r13.1.held.length], 30, 0⟩, some ⟨.tr (eL r18), 3, 1⟩, some ⟨.tr (eL r23), 3, 1⟩, some ⟨.tr (eL r32.free), 3, 1⟩, some ⟨.tr (eL r32.held), 42, 2⟩] rfl rfl ?_
    refine PL.guard_on rfl (not_f h_29) ?_
    refine PL.op rfl (Rd.field1M (t' := 22) (off := 1) rfl (fun _ _ => by kernel_rfl) rfl) ?_
    refine PL.guard_on rfl (not_f h_29) ?_
    refine PL.op rfl (Rd.moveT rfl) ?_
    refine PL.guard_on rfl (not_f h_29) ?_
    refine PL.callM true [] (w_L_isIn N r32.free r2.2.1 r34 h_35) rfl Try.call26 rfl ⟨.own rfl (by first | decide | exact List.not_mem_nil) rfl rfl, .t _, trivial⟩ rfl trivial (fun _ => ⟨trivial, flat_nil⟩) ?_
    refine PL.op rfl (Rd.pick_t rfl (not_f h_29)) ?_
    refine PL.op rfl (Rd.moveT rfl) ?_
    refine PL.guard_off rfl rfl h_36 ?_
    refine PL.guard_off rfl rfl h_36 ?_
    refine PL.guard_off rfl rfl h_36 ?_
    refine PL.guard_off rfl rfl h_36 ?_
    refine PL.guard_off rfl rfl h_36 ?_
    refine PL.guard_off rfl rfl h_36 ?_
    refine PL.guard_off rfl rfl h_36 ?_
    refine PL.op rfl (Rd.pick_f rfl h_36) ?_
    refine PL.op rfl (Rd.asnT rfl) ?_
    refine PL.nil ?_
    refine thA_n ?_
    refine PC.ret ?_
    obtain rfl := some_in hh0
    exact FinA.mk (r := bA false) (bl := []) [] (.inl rfl) rfl (rl := [.tmp 2]) (.tmp .nil) rfl rfl rfl (.t _) trivial ⟨rfl, rfl⟩
  obtain ⟨r37, h_38, hh0⟩ := bind_some hh0
  obtain ⟨r39, h_40, hh0⟩ := bind_some hh0
  refine PC.region ?_
  refine PL.op rfl (Rd.loadBox rfl rfl rfl) ?_
  refine PL.callM true [] (w_I_ValidSpace N r4.1 r15 h_16) rfl Try.call17 rfl ⟨.aggL ⟨.t _, .own rfl (by first | decide | exact List.not_mem_nil) rfl rfl, .own rfl (by first | decide | exact List.not_mem_nil) rfl rfl, trivial⟩, trivial⟩ rfl trivial (fun _ => ⟨trivial, flat_nil⟩) ?_
  refine PL.op rfl (Rd.moveT rfl) ?_
  refine PL.guard_on rfl h_17 ?_
  refine PL.op rfl (Rd.loadBox rfl rfl rfl) ?_
  refine PL.guard_on rfl h_17 ?_
  refine PL.callM true [] (w_I_PagesInUse N r2.1 r18 h_19) rfl Try.call20 rfl ⟨.aggL ⟨.t _, .t _, .own rfl (by first | decide | exact List.not_mem_nil) rfl rfl, trivial⟩, trivial⟩ rfl trivial (fun _ => ⟨trivial, (flat_cons flat_ow flat_nil)⟩) ?_
  refine PL.nm (.os 11 0 r18.length) [some ⟨.tr (eL r2.1.held), 42, 2⟩, some ⟨.mx [iA r2.1.pages, sL r2.1.free, .os 0 0 r2.1.held.length], 30, 0⟩, some ⟨.tr (eL r4.1.free), 3, 1⟩, some ⟨.tr (eL r4.1.held), 42, 2⟩, some ⟨.mx [iA r4.1.pages, .os 2 0 r4.1.free.length, .os 3 0 r4.1.held.length], 30, 0⟩, some ⟨.tr (eL r6.1.free), 3, 1⟩, some ⟨.tr (eL r6.1.held), 42, 2⟩, some ⟨.mx [iA r6.1.pages, .os 5 0 r6.1.free.length, .os 6 0 r6.1.held.length], 30, 0⟩, some ⟨.tr (eL r13.1.free), 3, 1⟩, some ⟨.tr (eL r13.1.held), 42, 2⟩, some ⟨.mx [iA r13.1.pages, .os 8 0 r13.1.free.length, .os 9 0 r13.1.held.length], 30, 0⟩, some ⟨.tr (eL r18), 3, 1⟩] rfl rfl ?_
  refine PL.guard_on rfl h_17 ?_
  refine PL.op rfl (Rd.moveT rfl) ?_
  refine PL.guard_on rfl h_17 ?_
  refine PL.callM true [] (w_L_isIn N r18 r2.2.1 r20 h_21) rfl Try.call26 rfl ⟨.own rfl (by first | decide | exact List.not_mem_nil) rfl rfl, .t _, trivial⟩ rfl trivial (fun _ => ⟨trivial, flat_nil⟩) ?_
  refine PL.op rfl (Rd.pick_t rfl h_17) ?_
  refine PL.op rfl (Rd.moveT rfl) ?_
  refine PL.guard_on rfl h_22 ?_
  refine PL.op rfl (Rd.loadBox rfl rfl rfl) ?_
  refine PL.guard_on rfl h_22 ?_
  refine PL.callM true [] (w_I_PagesInUse N r4.1 r23 h_24) rfl Try.call20 rfl ⟨.aggL ⟨.t _, .own rfl (by first | decide | exact List.not_mem_nil) rfl rfl, .own rfl (by first | decide | exact List.not_mem_nil) rfl rfl, trivial⟩, trivial⟩ rfl trivial (fun _ => ⟨trivial, (flat_cons flat_ow flat_nil)⟩) ?_
  refine PL.nm (.os 12 0 r23.length) [some ⟨.tr (eL r2.1.held), 42, 2⟩, some ⟨.mx [iA r2.1.pages, sL r2.1.free, .os 0 0 r2.1.held.length], 30, 0⟩, some ⟨.tr (eL r4.1.free), 3, 1⟩, some ⟨.tr (eL r4.1.held), 42, 2⟩, some ⟨.mx [iA r4.1.pages, .os 2 0 r4.1.free.length, .os 3 0 r4.1.held.length], 30, 0⟩, some ⟨.tr (eL r6.1.free), 3, 1⟩, some ⟨.tr (eL r6.1.held), 42, 2⟩, some ⟨.mx [iA r6.1.pages, .os 5 0 r6.1.free.length, .os 6 0 r6.1.held.length], 30, 0⟩, some ⟨.tr (eL r13.1.free), 3, 1⟩, some ⟨.tr (eL r13.1.held), 42, 2⟩, some ⟨.mx [iA r13.1.pages, .os 8 0 r13.1.free.length, .os 9 0 r13.1.held.length], 30, 0⟩, some ⟨.tr (eL r18), 3, 1⟩, some ⟨.tr (eL r23), 3, 1⟩] rfl rfl ?_
  refine PL.guard_on rfl h_22 ?_
  refine PL.op rfl (Rd.moveT rfl) ?_
  refine PL.guard_on rfl h_22 ?_
  refine PL.callM true [] (w_L_isIn N r23 r2.2.1 r25 h_26) rfl Try.call26 rfl ⟨.own rfl (by first | decide | exact List.not_mem_nil) rfl rfl, .t _, trivial⟩ rfl trivial (fun _ => ⟨trivial, flat_nil⟩) ?_
  refine PL.guard_on rfl h_22 ?_
  refine PL.op rfl (Rd.unnot rfl) ?_
  refine PL.op rfl (Rd.pick_t rfl h_22) ?_
  refine PL.op rfl (Rd.moveT rfl) ?_
  refine PL.guard_on rfl (not_f h_27) ?_
  refine PL.op rfl (Rd.moveT rfl) ?_
  refine PL.guard_on rfl (not_f h_27) ?_
  refine PL.op rfl (Rd.unnot rfl) ?_
  refine PL.guard_on rfl (not_f h_27) ?_
  refine PL.op rfl (Rd.moveT rfl) ?_
  refine PL.guard_on rfl (not_t h_28) ?_
  refine PL.op rfl (Rd.moveT rfl) ?_
  refine PL.guard_on rfl (not_t h_28) ?_
  refine PL.op rfl (Rd.moveT rfl) ?_
  refine PL.guard_on rfl (not_t h_28) ?_
  refine PL.op rfl (Rd.neq rfl rfl) ?_
  refine PL.guard_on rfl (not_f h_27) ?_
  refine PL.op rfl (Rd.pick_f rfl (not_t h_28)) ?_
  refine PL.op rfl (Rd.pick_t rfl (not_f h_27)) ?_
  refine PL.op rfl (Rd.moveT rfl) ?_
  refine PL.guard_on rfl (not_f h_29) ?_
  refine PL.op rfl (Rd.loadBox rfl rfl rfl) ?_
  refine PL.guard_on rfl (not_f h_29) ?_
  refine PL.op rfl (Rd.moveT rfl) ?_
  refine PL.guard_on rfl (not_f h_29) ?_
  refine PL.op rfl (Rd.addM rfl rfl h_31) ?_
  refine PL.guard_on rfl (not_f h_29) ?_
  refine PL.callM true [] (w_I_ReleasePages N r4.1 n30 r32 h_33) rfl Try.call38 rfl ⟨.aggL ⟨.t _, .own rfl (by first | decide | exact List.not_mem_nil) rfl rfl, .own rfl (by first | decide | exact List.not_mem_nil) rfl rfl, trivial⟩, .t _, trivial⟩ rfl trivial (fun _ => ⟨⟨trivial, trivial, trivial, trivial⟩, (flat_cons flat_ow (flat_cons flat_ow flat_nil))⟩) ?_
  refine PL.nm (.agg [iA r32.pages, .os 13 0 r32.free.length, .os 14 0 r32.held.length]) [some ⟨.tr (eL r2.1.held), 42, 2⟩, some ⟨.mx [iA r2.1.pages, sL r2.1.free, .os 0 0 r2.1.held.length], 30, 0⟩, some ⟨.tr (eL r4.1.free), 3, 1⟩, some ⟨.tr (eL r4.1.held), 42, 2⟩, some ⟨.mx [iA r4.1.pages, .os 2 0 r4.1.free.length, .os 3 0 r4.1.held.length], 30, 0⟩, some ⟨.tr (eL r6.1.free), 3, 1⟩, some ⟨.tr (eL r6.1.held), 42, 2⟩, some ⟨.mx [iA r6.1.pages, .os 5 0 r6.1.free.length, .os 6 0 r6.1.held.length], 30, 0⟩, some ⟨.tr (eL r13.1.free), 3, 1⟩, some ⟨.tr (eL r13.1.held), 42, 2⟩, some ⟨.mx [iA r13.1.pages, .os 8 0 r13.1.free.length, .os 9 0 r13.1.held.length], 30, 0⟩, some ⟨.tr (eL r18), 3, 1⟩, some ⟨.tr (eL r23), 3, 1⟩, some ⟨.tr (eL r32.free), 3, 1⟩, some ⟨.tr (eL r32.held), 42, 2⟩] rfl rfl ?_
  refine PL.guard_on rfl (not_f h_29) ?_
  refine PL.op rfl (Rd.field1M (t' := 22) (off := 1) rfl (fun _ _ => by kernel_rfl) rfl) ?_
  refine PL.guard_on rfl (not_f h_29) ?_
  refine PL.op rfl (Rd.moveT rfl) ?_
  refine PL.guard_on rfl (not_f h_29) ?_
  refine PL.callM true [] (w_L_isIn N r32.free r2.2.1 r34 h_35) rfl Try.call26 rfl ⟨.own rfl (by first | decide | exact List.not_mem_nil) rfl rfl, .t _, trivial⟩ rfl trivial (fun _ => ⟨trivial, flat_nil⟩) ?_
  refine PL.op rfl (Rd.pick_t rfl (not_f h_29)) ?_
  refine PL.op rfl (Rd.moveT rfl) ?_
  refine PL.guard_on rfl h_36 ?_
  refine PL.op rfl (Rd.loadBox rfl rfl rfl) ?_
  refine PL.guard_on rfl h_36 ?_
  refine PL.op rfl (Rd.moveT rfl) ?_
  refine PL.guard_on rfl h_36 ?_
  refine PL.callM true [] (w_I_ReleasePages N r4.1 r2.2.2 r37 h_38) rfl Try.call38 rfl ⟨.aggL ⟨.t _, .own rfl (by first | decide | exact List.not_mem_nil) rfl rfl, .own rfl (by first | decide | exact List.not_mem_nil) rfl rfl, trivial⟩, .t _, trivial⟩ rfl trivial (fun _ => ⟨⟨trivial, trivial, trivial, trivial⟩, (flat_cons flat_ow (flat_cons flat_ow flat_nil))⟩) ?_
  refine PL.nm (.agg [iA r37.pages, .os 15 0 r37.free.length, .os 16 0 r37.held.length]) [some ⟨.tr (eL r2.1.held), 42, 2⟩, some ⟨.mx [iA r2.1.pages, sL r2.1.free, .os 0 0 r2.1.held.length], 30, 0⟩, some ⟨.tr (eL r4.1.free), 3, 1⟩, some ⟨.tr (eL r4.1.held), 42, 2⟩, some ⟨.mx [iA r4.1.pages, .os 2 0 r4.1.free.length, .os 3 0 r4.1.held.length], 30, 0⟩, some ⟨.tr (eL r6.1.free), 3, 1⟩, some ⟨.tr (eL r6.1.held), 42, 2⟩, some ⟨.mx [iA r6.1.pages, .os 5 0 r6.1.free.length, .os 6 0 r6.1.held.length], 30, 0⟩, some ⟨.tr (eL r13.1.free), 3, 1⟩, some ⟨.tr (eL r13.1.held), 42, 2⟩, some ⟨.mx [iA r13.1.pages, .os 8 0 r13.1.free.length, .os 9 0 r13.1.held.length], 30, 0⟩, some ⟨.tr (eL r18), 3, 1⟩, some ⟨.tr (eL r23), 3, 1⟩, some ⟨.tr (eL r32.free), 3, 1⟩, some ⟨.tr (eL r32.held), 42, 2⟩, some ⟨.tr (eL r37.free), 3, 1⟩, some ⟨.tr (eL r37.held), 42, 2⟩] rfl rfl ?_
  refine PL.guard_on rfl h_36 ?_
  refine PL.op rfl (Rd.field1M (t' := 22) (off := 1) rfl (fun _ _ => by kernel_rfl) rfl) ?_
  refine PL.guard_on rfl h_36 ?_
  refine PL.op rfl (Rd.moveT rfl) ?_
  refine PL.guard_on rfl h_36 ?_
  refine PL.callM true [] (w_L_isIn N r37.free r2.2.1 r39 h_40) rfl Try.call26 rfl ⟨.own rfl (by first | decide | exact List.not_mem_nil) rfl rfl, .t _, trivial⟩ rfl trivial (fun _ => ⟨trivial, flat_nil⟩) ?_
  refine PL.guard_on rfl h_36 ?_
  refine PL.op rfl (Rd.unnot rfl) ?_
  refine PL.op rfl (Rd.pick_t rfl h_36) ?_
  refine PL.op rfl (Rd.asnT rfl) ?_
  refine PL.nil ?_
  refine thA_n ?_
  refine PC.ret ?_
  obtain rfl := some_in hh0
  exact FinA.mk (r := bA (!r39)) (bl := []) [] (.inl rfl) rfl (rl := [.tmp 2]) (.tmp .nil) rfl rfl rfl (.t _) trivial ⟨rfl, rfl⟩

end V
end Go.Proofs.Ytambkpacecjheaa
