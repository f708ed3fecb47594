/- Space: a law's function. No condition. -/
import Derived.Test.YtambkpacecjheaaSpFa
namespace Go.Proofs.Ytambkpacecjheaa
namespace V
open Enc (enc)
set_option linter.unusedVariables false
set_option linter.unusedSimpArgs false
set_option maxHeartbeats 4000000
set_option maxRecDepth 100000
open Go.RowKit
attribute [local irreducible] thA inA FinA eL

def m_L_FnReleasePagesAll (N : Nat) (p_code : (List UInt8)) : Option (Bool) :=
  cond (decide ((1048576 : Int) < (p_code.length : Int)))
    (some true)
    ((m_S_DrawReleasePages N p_code).bind fun r2 =>
    (m_I_ReleasePages N r2.1 r2.2).bind fun r4 =>
    (m_S_ReleasePages N r2.1 r2.2).bind fun r6 =>
    (m_L_equalSpace N r4 r6).bind fun r8 =>
    cond r8
      ((m_I_ValidSpace N r2.1).bind fun r11 =>
      cond r11
        ((m_I_ReleasePages N r2.1 (10000 : Int)).bind fun r14 =>
        cond (decide ((r14.held.length : Int) = (0 : Int)))
          ((chk ((r2.1.free.length : Int) + (r2.1.held.length : Int))).bind fun n17 =>
          cond (decide ((r14.free.length : Int) = n17))
            ((m_I_ReleasePages N r2.1 (0 : Int)).bind fun r20 =>
            (m_L_equalSpace N r20 r2.1).bind fun r22 =>
            some r22)
            (some false))
          (some false))
        ((m_S_ReleasePages N r2.1 r2.2).bind fun r24 =>
        (m_L_equalSpace N r4 r24).bind fun r26 =>
        some r26))
      ((m_S_ReleasePages N r2.1 r2.2).bind fun r28 =>
      (m_L_equalSpace N r4 r28).bind fun r30 =>
      some r30))
theorem w_L_FnReleasePagesAll (N : Nat) (p_code : (List UInt8)) (r : Bool) (hh0 : m_L_FnReleasePagesAll N p_code = some r) : FnX Try.prog 10 [] [sL p_code] (RE (bA r) []) := by
  unfold m_L_FnReleasePagesAll at hh0
  refine FnX.mk Try.func10 rfl rfl ?_
  intro s hs
  refine PC.seq ?_
  refine PC.region ?_
  refine PL.op rfl (Rd.asnT rfl) ?_
  refine PL.nil ?_
  refine thA_n ?_
  refine PC.seq ?_
  refine PC.seq ?_
  refine PC.region ?_
  refine PL.op rfl (Rd.moveT rfl) ?_
  refine PL.op rfl (Rd.lenT rfl) ?_
  refine PL.op rfl (Rd.gtr rfl rfl) ?_
  refine PL.nil ?_
  refine thA_n ?_
  rcases cond_some hh0 with ⟨h_1, hh0⟩ | ⟨h_1, hh0⟩
  · refine PC.cond_true rfl h_1 ?_
    refine PC.seq ?_
    refine PC.region ?_
    refine PL.op rfl (Rd.asnT rfl) ?_
    refine PL.nil ?_
    refine thA_n ?_
    refine PC.ret ?_
    refine thA_r ?_
    obtain rfl := some_in hh0
    exact FinA.mk (r := bA true) (bl := []) [] (.inl rfl) rfl (rl := [.tmp 2]) (.tmp .nil) rfl rfl rfl (.t _) trivial ⟨rfl, rfl⟩
  refine PC.cond_false rfl h_1 ?_
  refine PC.skip ?_
  refine thA_n ?_
  refine PC.seq ?_
  obtain ⟨r2, h_3, hh0⟩ := bind_some hh0
  refine PC.region ?_
  refine PL.op rfl (Rd.moveT rfl) ?_
  refine PL.callM false [] (w_S_DrawReleasePages N p_code r2 h_3) rfl Try.call37 rfl ⟨.t _, trivial⟩ rfl trivial (fun h => by cases h) ?_
  refine PL.nm (.tup [.agg [iA r2.1.pages, sL r2.1.free, .os 0 0 r2.1.held.length], iA r2.2]) [some ⟨.tr (eL r2.1.held), 42, 2⟩] rfl rfl ?_
  refine PL.op rfl (Rd.moveU rfl) ?_
  refine PL.op rfl (Rd.extract rfl rfl) ?_
  refine PL.op rfl (Rd.extract rfl rfl) ?_
  refine PL.ef rfl (Ef.alloc rfl rfl) ?_
  refine PL.nm (.op 1 0) [some ⟨.tr (eL r2.1.held), 42, 2⟩, some ⟨.mx [iA (0 : Int), .t (.v (.slice none 0 0)), .t (.v (.slice none 0 0))], 30, 0⟩] rfl rfl ?_
  refine PL.store rfl rfl rfl rfl rfl rfl rfl ?_
  refine PL.nO [some ⟨.tr (eL r2.1.held), 42, 2⟩, some ⟨.mx [iA r2.1.pages, sL r2.1.free, .os 0 0 r2.1.held.length], 30, 0⟩] rfl ?_
  refine PL.op rfl (Rd.asnT rfl) ?_
  refine PL.nil ?_
  refine thA_n ?_
  refine PC.seq ?_
  obtain ⟨r4, h_5, hh0⟩ := bind_some hh0
  refine PC.region ?_
  refine PL.op rfl (Rd.loadBox rfl rfl rfl) ?_
  refine PL.op rfl (Rd.moveT rfl) ?_
  refine PL.callM true [] (w_I_ReleasePages N r2.1 r2.2 r4 h_5) rfl Try.call38 rfl ⟨.aggL ⟨.t _, .t _, .own rfl (by first | decide | exact List.not_mem_nil) rfl rfl, trivial⟩, .t _, trivial⟩ rfl trivial (fun _ => ⟨⟨trivial, trivial, trivial, trivial⟩, (flat_cons flat_ow (flat_cons flat_ow flat_nil))⟩) ?_
  refine PL.nm (.agg [iA r4.pages, .os 2 0 r4.free.length, .os 3 0 r4.held.length]) [some ⟨.tr (eL r2.1.held), 42, 2⟩, some ⟨.mx [iA r2.1.pages, sL r2.1.free, .os 0 0 r2.1.held.length], 30, 0⟩, some ⟨.tr (eL r4.free), 3, 1⟩, some ⟨.tr (eL r4.held), 42, 2⟩] rfl rfl ?_
  refine PL.ef rfl (Ef.alloc rfl rfl) ?_
  refine PL.nm (.op 4 0) [some ⟨.tr (eL r2.1.held), 42, 2⟩, some ⟨.mx [iA r2.1.pages, sL r2.1.free, .os 0 0 r2.1.held.length], 30, 0⟩, some ⟨.tr (eL r4.free), 3, 1⟩, some ⟨.tr (eL r4.held), 42, 2⟩, some ⟨.mx [iA (0 : Int), .t (.v (.slice none 0 0)), .t (.v (.slice none 0 0))], 30, 0⟩] rfl rfl ?_
  refine PL.store rfl rfl rfl rfl rfl rfl rfl ?_
  refine PL.nO [some ⟨.tr (eL r2.1.held), 42, 2⟩, some ⟨.mx [iA r2.1.pages, sL r2.1.free, .os 0 0 r2.1.held.length], 30, 0⟩, some ⟨.tr (eL r4.free), 3, 1⟩, some ⟨.tr (eL r4.held), 42, 2⟩, some ⟨.mx [iA r4.pages, .os 2 0 r4.free.length, .os 3 0 r4.held.length], 30, 0⟩] rfl ?_
  refine PL.nil ?_
  refine thA_n ?_
  refine PC.seq ?_
  obtain ⟨r6, h_7, hh0⟩ := bind_some hh0
  obtain ⟨r8, h_9, hh0⟩ := bind_some hh0
  rcases cond_some hh0 with ⟨h_10, hh0⟩ | ⟨h_10, hh0⟩
  rotate_left
  · refine PC.cut hs (fun _ : Unit => [(3, .op 0 0), (4, iA r2.2), (5, .op 2 0), (28, bA true)]) (fun _ => [⟨.mx [iA r2.1.pages, sL r2.1.free, .os 1 0 r2.1.held.length], 30, 0⟩, ⟨.tr (eL r2.1.held), 42, 2⟩, ⟨.mx [iA r4.pages, .os 3 0 r4.free.length, .os 4 0 r4.held.length], 30, 0⟩, ⟨.tr (eL r4.free), 3, 1⟩, ⟨.tr (eL r4.held), 42, 2⟩]) (fun _ => True) ?_ ?_
    · refine PC.any (id := 5) 11 (.seg [2] (.fork (.seg [0, 1, 3, 4, 5, 6, 7, 8, 9, 10] .done) (.seg [1] (.fork (.seg [0, 3, 4, 5, 6, 7, 8, 9, 10] .done) (.seg [3, 0, 4, 5, 6, 7, 8, 9, 10] .done))))) [] rfl (by kernel_rfl) rfl ?_
      refine PT.seg ?_
      refine PR.op rfl (Rd.moveT rfl) ?_
      refine PR.nil ?_
      refine PT.fork ?_ ?_
      · refine PT.seg ?_
        refine PR.rdE rfl rfl (Rd.loadBox rfl rfl rfl) ?_
        refine PR.rdE rfl rfl (Rd.loadBox rfl rfl rfl) ?_
        refine PR.callM true [] (w_S_ReleasePages N r2.1 r2.2 r6 h_7) rfl Try.call39 rfl ⟨.aggL ⟨.t _, .t _, .own rfl (by first | decide | exact List.not_mem_nil) rfl rfl, trivial⟩, .t _, trivial⟩ rfl trivial (fun _ => ⟨⟨trivial, trivial, trivial, trivial⟩, (flat_cons flat_ow (flat_cons flat_ow flat_nil))⟩) rfl ?_
        refine PR.nm (.agg [iA r6.pages, .os 5 0 r6.free.length, .os 6 0 r6.held.length]) [some ⟨.tr (eL r2.1.held), 42, 2⟩, some ⟨.mx [iA r2.1.pages, sL r2.1.free, .os 0 0 r2.1.held.length], 30, 0⟩, some ⟨.tr (eL r4.free), 3, 1⟩, some ⟨.tr (eL r4.held), 42, 2⟩, some ⟨.mx [iA r4.pages, .os 2 0 r4.free.length, .os 3 0 r4.held.length], 30, 0⟩, some ⟨.tr (eL r6.free), 3, 1⟩, some ⟨.tr (eL r6.held), 42, 2⟩] rfl rfl ?_
        refine PR.callM true [] (w_L_equalSpace N r4 r6 r8 h_9) rfl Try.call35 rfl ⟨.aggL ⟨.t _, .own rfl (by first | decide | exact List.not_mem_nil) rfl rfl, .own rfl (by first | decide | exact List.not_mem_nil) rfl rfl, trivial⟩, .aggL ⟨.t _, .own rfl (by first | decide | exact List.not_mem_nil) rfl rfl, .own rfl (by first | decide | exact List.not_mem_nil) rfl rfl, trivial⟩, trivial⟩ rfl trivial (fun _ => ⟨trivial, flat_nil⟩) rfl ?_
        refine PR.op rfl (Rd.unnot rfl) ?_
        refine PR.op rfl (Rd.moveT rfl) ?_
        refine PR.guard_off rfl rfl (not_f h_10) ?_
        refine PR.guard_off rfl rfl (not_f h_10) ?_
        refine PR.guard_off rfl rfl (not_f h_10) ?_
        refine PR.op rfl (Rd.pick_t rfl (not_f h_10)) ?_
        refine PR.nil ?_
        refine PT.done ?_
        refine PL.nil ?_
        refine thA_n ?_
        exact ⟨(), trivial, [some 1, some 0, some 4, some 2, some 3], ⟨rfl, rfl, ⟨⟨_, rfl, rfl, rfl, .mx ⟨.t _, .t _, .os rfl, trivial⟩⟩, ⟨_, rfl, rfl, rfl, .tr _⟩, ⟨_, rfl, rfl, rfl, .mx ⟨.t _, .os rfl, .os rfl, trivial⟩⟩, ⟨_, rfl, rfl, rfl, .tr _⟩, ⟨_, rfl, rfl, rfl, .tr _⟩, trivial⟩, ⟨.op rfl, .t _, .op rfl, .t _, trivial⟩⟩⟩
      refine PT.seg ?_
      refine PR.rdE rfl rfl (Rd.loadBox rfl rfl rfl) ?_
      refine PR.nil ?_
      refine PT.fork ?_ ?_
      · refine PT.seg ?_
        refine PR.rdE rfl rfl (Rd.loadBox rfl rfl rfl) ?_
        refine PR.callM true [] (w_S_ReleasePages N r2.1 r2.2 r6 h_7) rfl Try.call39 rfl ⟨.aggL ⟨.t _, .t _, .own rfl (by first | decide | exact List.not_mem_nil) rfl rfl, trivial⟩, .t _, trivial⟩ rfl trivial (fun _ => ⟨⟨trivial, trivial, trivial, trivial⟩, (flat_cons flat_ow (flat_cons flat_ow flat_nil))⟩) rfl ?_
        refine PR.nm (.agg [iA r6.pages, .os 5 0 r6.free.length, .os 6 0 r6.held.length]) [some ⟨.tr (eL r2.1.held), 42, 2⟩, some ⟨.mx [iA r2.1.pages, sL r2.1.free, .os 0 0 r2.1.held.length], 30, 0⟩, some ⟨.tr (eL r4.free), 3, 1⟩, some ⟨.tr (eL r4.held), 42, 2⟩, some ⟨.mx [iA r4.pages, .os 2 0 r4.free.length, .os 3 0 r4.held.length], 30, 0⟩, some ⟨.tr (eL r6.free), 3, 1⟩, some ⟨.tr (eL r6.held), 42, 2⟩] rfl rfl ?_
        refine PR.callM true [] (w_L_equalSpace N r4 r6 r8 h_9) rfl Try.call35 rfl ⟨.aggL ⟨.t _, .own rfl (by first | decide | exact List.not_mem_nil) rfl rfl, .own rfl (by first | decide | exact List.not_mem_nil) rfl rfl, trivial⟩, .aggL ⟨.t _, .own rfl (by first | decide | exact List.not_mem_nil) rfl rfl, .own rfl (by first | decide | exact List.not_mem_nil) rfl rfl, trivial⟩, trivial⟩ rfl trivial (fun _ => ⟨trivial, flat_nil⟩) rfl ?_
        refine PR.op rfl (Rd.unnot rfl) ?_
        refine PR.op rfl (Rd.moveT rfl) ?_
        refine PR.guard_off rfl rfl (not_f h_10) ?_
        refine PR.guard_off rfl rfl (not_f h_10) ?_
        refine PR.guard_off rfl rfl (not_f h_10) ?_
        refine PR.op rfl (Rd.pick_t rfl (not_f h_10)) ?_
        refine PR.nil ?_
        refine PT.done ?_
        refine PL.nil ?_
        refine thA_n ?_
        exact ⟨(), trivial, [some 1, some 0, some 4, some 2, some 3], ⟨rfl, rfl, ⟨⟨_, rfl, rfl, rfl, .mx ⟨.t _, .t _, .os rfl, trivial⟩⟩, ⟨_, rfl, rfl, rfl, .tr _⟩, ⟨_, rfl, rfl, rfl, .mx ⟨.t _, .os rfl, .os rfl, trivial⟩⟩, ⟨_, rfl, rfl, rfl, .tr _⟩, ⟨_, rfl, rfl, rfl, .tr _⟩, trivial⟩, ⟨.op rfl, .t _, .op rfl, .t _, trivial⟩⟩⟩
      refine PT.seg ?_
      refine PR.callM true [] (w_S_ReleasePages N r2.1 r2.2 r6 h_7) rfl Try.call39 rfl ⟨.aggL ⟨.t _, .t _, .own rfl (by first | decide | exact List.not_mem_nil) rfl rfl, trivial⟩, .t _, trivial⟩ rfl trivial (fun _ => ⟨⟨trivial, trivial, trivial, trivial⟩, (flat_cons flat_ow (flat_cons flat_ow flat_nil))⟩) rfl ?_
      refine PR.nm (.agg [iA r6.pages, .os 5 0 r6.free.length, .os 6 0 r6.held.length]) [some ⟨.tr (eL r2.1.held), 42, 2⟩, some ⟨.mx [iA r2.1.pages, sL r2.1.free, .os 0 0 r2.1.held.length], 30, 0⟩, some ⟨.tr (eL r4.free), 3, 1⟩, some ⟨.tr (eL r4.held), 42, 2⟩, some ⟨.mx [iA r4.pages, .os 2 0 r4.free.length, .os 3 0 r4.held.length], 30, 0⟩, some ⟨.tr (eL r6.free), 3, 1⟩, some ⟨.tr (eL r6.held), 42, 2⟩] rfl rfl ?_
      refine PR.rdE rfl rfl (Rd.loadBox rfl rfl rfl) ?_
      refine PR.callM true [] (w_L_equalSpace N r4 r6 r8 h_9) rfl Try.call35 rfl ⟨.aggL ⟨.t _, .own rfl (by first | decide | exact List.not_mem_nil) rfl rfl, .own rfl (by first | decide | exact List.not_mem_nil) rfl rfl, trivial⟩, .aggL ⟨.t _, .own rfl (by first | decide | exact List.not_mem_nil) rfl rfl, .own rfl (by first | decide | exact List.not_mem_nil) rfl rfl, trivial⟩, trivial⟩ rfl trivial (fun _ => ⟨trivial, flat_nil⟩) rfl ?_
      refine PR.op rfl (Rd.unnot rfl) ?_
      refine PR.op rfl (Rd.moveT rfl) ?_
      refine PR.guard_off rfl rfl (not_f h_10) ?_
      refine PR.guard_off rfl rfl (not_f h_10) ?_
      refine PR.guard_off rfl rfl (not_f h_10) ?_
      refine PR.op rfl (Rd.pick_t rfl (not_f h_10)) ?_
      refine PR.nil ?_
      refine PT.done ?_
      refine PL.nil ?_
      refine thA_n ?_
      exact ⟨(), trivial, [some 1, some 0, some 4, some 2, some 3], ⟨rfl, rfl, ⟨⟨_, rfl, rfl, rfl, .mx ⟨.t _, .t _, .os rfl, trivial⟩⟩, ⟨_, rfl, rfl, rfl, .tr _⟩, ⟨_, rfl, rfl, rfl, .mx ⟨.t _, .os rfl, .os rfl, trivial⟩⟩, ⟨_, rfl, rfl, rfl, .tr _⟩, ⟨_, rfl, rfl, rfl, .tr _⟩, trivial⟩, ⟨.op rfl, .t _, .op rfl, .t _, trivial⟩⟩⟩
    rintro ⟨⟩ -
    refine PC.cond_true rfl rfl ?_
    obtain ⟨r28, h_29, hh0⟩ := bind_some hh0
    obtain ⟨r30, h_31, hh0⟩ := bind_some hh0
    refine PC.cut hs (fun _ : Unit => [(2, bA r30)]) (fun _ => []) (fun _ => True) ?_ ?_
    · refine PC.any (id := 6) 6 (.seg [2] (.fork (.seg [0, 1, 3, 4, 5] .done) (.seg [1] (.fork (.seg [0, 3, 4, 5] .done) (.seg [3, 0, 4, 5] .done))))) [] rfl (by kernel_rfl) rfl ?_
      refine PT.seg ?_
      refine PR.op rfl (Rd.moveT rfl) ?_
      refine PR.nil ?_
      refine PT.fork ?_ ?_
      · refine PT.seg ?_
        refine PR.rdE rfl rfl (Rd.loadBox rfl rfl rfl) ?_
        refine PR.rdE rfl rfl (Rd.loadBox rfl rfl rfl) ?_
        refine PR.callM true [] (w_S_ReleasePages N r2.1 r2.2 r28 h_29) rfl Try.call39 rfl ⟨.aggL ⟨.t _, .t _, .own rfl (by first | decide | exact List.not_mem_nil) rfl rfl, trivial⟩, .t _, trivial⟩ rfl trivial (fun _ => ⟨⟨trivial, trivial, trivial, trivial⟩, (flat_cons flat_ow (flat_cons flat_ow flat_nil))⟩) rfl ?_
        refine PR.nm (.agg [iA r28.pages, .os 5 0 r28.free.length, .os 6 0 r28.held.length]) [some ⟨.mx [iA r2.1.pages, sL r2.1.free, .os 1 0 r2.1.held.length], 30, 0⟩, some ⟨.tr (eL r2.1.held), 42, 2⟩, some ⟨.mx [iA r4.pages, .os 3 0 r4.free.length, .os 4 0 r4.held.length], 30, 0⟩, some ⟨.tr (eL r4.free), 3, 1⟩, some ⟨.tr (eL r4.held), 42, 2⟩, some ⟨.tr (eL r28.free), 3, 1⟩, some ⟨.tr (eL r28.held), 42, 2⟩] rfl rfl ?_
        refine PR.callM true [] (w_L_equalSpace N r4 r28 r30 h_31) rfl Try.call35 rfl ⟨.aggL ⟨.t _, .own rfl (by first | decide | exact List.not_mem_nil) rfl rfl, .own rfl (by first | decide | exact List.not_mem_nil) rfl rfl, trivial⟩, .aggL ⟨.t _, .own rfl (by first | decide | exact List.not_mem_nil) rfl rfl, .own rfl (by first | decide | exact List.not_mem_nil) rfl rfl, trivial⟩, trivial⟩ rfl trivial (fun _ => ⟨trivial, flat_nil⟩) rfl ?_
        refine PR.op rfl (Rd.asnT rfl) ?_
        refine PR.nil ?_
        refine PT.done ?_
        refine PL.nil ?_
        refine thA_n ?_
        exact ⟨(), trivial, [], ⟨rfl, rfl, trivial, ⟨.t _, trivial⟩⟩⟩
      refine PT.seg ?_
      refine PR.rdE rfl rfl (Rd.loadBox rfl rfl rfl) ?_
      refine PR.nil ?_
      refine PT.fork ?_ ?_
      · refine PT.seg ?_
        refine PR.rdE rfl rfl (Rd.loadBox rfl rfl rfl) ?_
        refine PR.callM true [] (w_S_ReleasePages N r2.1 r2.2 r28 h_29) rfl Try.call39 rfl ⟨.aggL ⟨.t _, .t _, .own rfl (by first | decide | exact List.not_mem_nil) rfl rfl, trivial⟩, .t _, trivial⟩ rfl trivial (fun _ => ⟨⟨trivial, trivial, trivial, trivial⟩, (flat_cons flat_ow (flat_cons flat_ow flat_nil))⟩) rfl ?_
        refine PR.nm (.agg [iA r28.pages, .os 5 0 r28.free.length, .os 6 0 r28.held.length]) [some ⟨.mx [iA r2.1.pages, sL r2.1.free, .os 1 0 r2.1.held.length], 30, 0⟩, some ⟨.tr (eL r2.1.held), 42, 2⟩, some ⟨.mx [iA r4.pages, .os 3 0 r4.free.length, .os 4 0 r4.held.length], 30, 0⟩, some ⟨.tr (eL r4.free), 3, 1⟩, some ⟨.tr (eL r4.held), 42, 2⟩, some ⟨.tr (eL r28.free), 3, 1⟩, some ⟨.tr (eL r28.held), 42, 2⟩] rfl rfl ?_
        refine PR.callM true [] (w_L_equalSpace N r4 r28 r30 h_31) rfl Try.call35 rfl ⟨.aggL ⟨.t _, .own rfl (by first | decide | exact List.not_mem_nil) rfl rfl, .own rfl (by first | decide | exact List.not_mem_nil) rfl rfl, trivial⟩, .aggL ⟨.t _, .own rfl (by first | decide | exact List.not_mem_nil) rfl rfl, .own rfl (by first | decide | exact List.not_mem_nil) rfl rfl, trivial⟩, trivial⟩ rfl trivial (fun _ => ⟨trivial, flat_nil⟩) rfl ?_
        refine PR.op rfl (Rd.asnT rfl) ?_
        refine PR.nil ?_
        refine PT.done ?_
        refine PL.nil ?_
        refine thA_n ?_
        exact ⟨(), trivial, [], ⟨rfl, rfl, trivial, ⟨.t _, trivial⟩⟩⟩
      refine PT.seg ?_
      refine PR.callM true [] (w_S_ReleasePages N r2.1 r2.2 r28 h_29) rfl Try.call39 rfl ⟨.aggL ⟨.t _, .t _, .own rfl (by first | decide | exact List.not_mem_nil) rfl rfl, trivial⟩, .t _, trivial⟩ rfl trivial (fun _ => ⟨⟨trivial, trivial, trivial, trivial⟩, (flat_cons flat_ow (flat_cons flat_ow flat_nil))⟩) rfl ?_
      refine PR.nm (.agg [iA r28.pages, .os 5 0 r28.free.length, .os 6 0 r28.held.length]) [some ⟨.mx [iA r2.1.pages, sL r2.1.free, .os 1 0 r2.1.held.length], 30, 0⟩, some ⟨.tr (eL r2.1.held), 42, 2⟩, some ⟨.mx [iA r4.pages, .os 3 0 r4.free.length, .os 4 0 r4.held.length], 30, 0⟩, some ⟨.tr (eL r4.free), 3, 1⟩, some ⟨.tr (eL r4.held), 42, 2⟩, some ⟨.tr (eL r28.free), 3, 1⟩, some ⟨.tr (eL r28.held), 42, 2⟩] rfl rfl ?_
      refine PR.rdE rfl rfl (Rd.loadBox rfl rfl rfl) ?_
      refine PR.callM true [] (w_L_equalSpace N r4 r28 r30 h_31) rfl Try.call35 rfl ⟨.aggL ⟨.t _, .own rfl (by first | decide | exact List.not_mem_nil) rfl rfl, .own rfl (by first | decide | exact List.not_mem_nil) rfl rfl, trivial⟩, .aggL ⟨.t _, .own rfl (by first | decide | exact List.not_mem_nil) rfl rfl, .own rfl (by first | decide | exact List.not_mem_nil) rfl rfl, trivial⟩, trivial⟩ rfl trivial (fun _ => ⟨trivial, flat_nil⟩) rfl ?_
      refine PR.op rfl (Rd.asnT rfl) ?_
      refine PR.nil ?_
      refine PT.done ?_
      refine PL.nil ?_
      refine thA_n ?_
      exact ⟨(), trivial, [], ⟨rfl, rfl, trivial, ⟨.t _, trivial⟩⟩⟩
    rintro ⟨⟩ -
    refine PC.ret ?_
    refine thA_r ?_
    obtain rfl := some_in hh0
    exact FinA.mk (r := bA r30) (bl := []) [] (.inl rfl) rfl (rl := [.tmp 2]) (.tmp .nil) rfl rfl rfl (.t _) trivial ⟨rfl, rfl⟩
  obtain ⟨r11, h_12, hh0⟩ := bind_some hh0
  refine PC.cut hs (fun _ : Unit => [(3, .op 0 0), (4, iA r2.2), (5, .op 2 0), (28, bA (!r11))]) (fun _ => [⟨.mx [iA r2.1.pages, sL r2.1.free, .os 1 0 r2.1.held.length], 30, 0⟩, ⟨.tr (eL r2.1.held), 42, 2⟩, ⟨.mx [iA r4.pages, .os 3 0 r4.free.length, .os 4 0 r4.held.length], 30, 0⟩, ⟨.tr (eL r4.free), 3, 1⟩, ⟨.tr (eL r4.held), 42, 2⟩]) (fun _ => True) ?_ ?_
  · refine PC.any (id := 5) 11 (.seg [2] (.fork (.seg [0, 1, 3, 4, 5, 6, 7, 8, 9, 10] .done) (.seg [1] (.fork (.seg [0, 3, 4, 5, 6, 7, 8, 9, 10] .done) (.seg [3, 0, 4, 5, 6, 7, 8, 9, 10] .done))))) [] rfl (by kernel_rfl) rfl ?_
    refine PT.seg ?_
    refine PR.op rfl (Rd.moveT rfl) ?_
    refine PR.nil ?_
    refine PT.fork ?_ ?_
    · refine PT.seg ?_
      refine PR.rdE rfl rfl (Rd.loadBox rfl rfl rfl) ?_
      refine PR.rdE rfl rfl (Rd.loadBox rfl rfl rfl) ?_
      refine PR.callM true [] (w_S_ReleasePages N r2.1 r2.2 r6 h_7) rfl Try.call39 rfl ⟨.aggL ⟨.t _, .t _, .own rfl (by first | decide | exact List.not_mem_nil) rfl rfl, trivial⟩, .t _, trivial⟩ rfl trivial (fun _ => ⟨⟨trivial, trivial, trivial, trivial⟩, (flat_cons flat_ow (flat_cons flat_ow flat_nil))⟩) rfl ?_
      refine PR.nm (.agg [iA r6.pages, .os 5 0 r6.free.length, .os 6 0 r6.held.length]) [some ⟨.tr (eL r2.1.held), 42, 2⟩, some ⟨.mx [iA r2.1.pages, sL r2.1.free, .os 0 0 r2.1.held.length], 30, 0⟩, some ⟨.tr (eL r4.free), 3, 1⟩, some ⟨.tr (eL r4.held), 42, 2⟩, some ⟨.mx [iA r4.pages, .os 2 0 r4.free.length, .os 3 0 r4.held.length], 30, 0⟩, some ⟨.tr (eL r6.free), 3, 1⟩, some ⟨.tr (eL r6.held), 42, 2⟩] rfl rfl ?_
      refine PR.callM true [] (w_L_equalSpace N r4 r6 r8 h_9) rfl Try.call35 rfl ⟨.aggL ⟨.t _, .own rfl (by first | decide | exact List.not_mem_nil) rfl rfl, .own rfl (by first | decide | exact List.not_mem_nil) rfl rfl, trivial⟩, .aggL ⟨.t _, .own rfl (by first | decide | exact List.not_mem_nil) rfl rfl, .own rfl (by first | decide | exact List.not_mem_nil) rfl rfl, trivial⟩, trivial⟩ rfl trivial (fun _ => ⟨trivial, flat_nil⟩) rfl ?_
      refine PR.op rfl (Rd.unnot rfl) ?_
      refine PR.op rfl (Rd.moveT rfl) ?_
      refine PR.guard_on rfl rfl (not_t h_10) ?_
      refine PR.rdE rfl rfl (Rd.loadBox rfl rfl rfl) ?_
      refine PR.guard_on rfl rfl (not_t h_10) ?_
      refine PR.callM true [] (w_I_ValidSpace N r2.1 r11 h_12) rfl Try.call17 rfl ⟨.aggL ⟨.t _, .t _, .own rfl (by first | decide | exact List.not_mem_nil) rfl rfl, trivial⟩, trivial⟩ rfl trivial (fun _ => ⟨trivial, flat_nil⟩) rfl ?_
      refine PR.guard_on rfl rfl (not_t h_10) ?_
      refine PR.op rfl (Rd.unnot rfl) ?_
      refine PR.op rfl (Rd.pick_f rfl (not_t h_10)) ?_
      refine PR.nil ?_
      refine PT.done ?_
      refine PL.nil ?_
      refine thA_n ?_
      exact ⟨(), trivial, [some 1, some 0, some 4, some 2, some 3], ⟨rfl, rfl, ⟨⟨_, rfl, rfl, rfl, .mx ⟨.t _, .t _, .os rfl, trivial⟩⟩, ⟨_, rfl, rfl, rfl, .tr _⟩, ⟨_, rfl, rfl, rfl, .mx ⟨.t _, .os rfl, .os rfl, trivial⟩⟩, ⟨_, rfl, rfl, rfl, .tr _⟩, ⟨_, rfl, rfl, rfl, .tr _⟩, trivial⟩, ⟨.op rfl, .t _, .op rfl, .t _, trivial⟩⟩⟩
    refine PT.seg ?_
    refine PR.rdE rfl rfl (Rd.loadBox rfl rfl rfl) ?_
    refine PR.nil ?_
    refine PT.fork ?_ ?_
    · refine PT.seg ?_
      refine PR.rdE rfl rfl (Rd.loadBox rfl rfl rfl) ?_
      refine PR.callM true [] (w_S_ReleasePages N r2.1 r2.2 r6 h_7) rfl Try.call39 rfl ⟨.aggL ⟨.t _, .t _, .own rfl (by first | decide | exact List.not_mem_nil) rfl rfl, trivial⟩, .t _, trivial⟩ rfl trivial (fun _ => ⟨⟨trivial, trivial, trivial, trivial⟩, (flat_cons flat_ow (flat_cons flat_ow flat_nil))⟩) rfl ?_
      refine PR.nm (.agg [iA r6.pages, .os 5 0 r6.free.length, .os 6 0 r6.held.length]) [some ⟨.tr (eL r2.1.held), 42, 2⟩, some ⟨.mx [iA r2.1.pages, sL r2.1.free, .os 0 0 r2.1.held.length], 30, 0⟩, some ⟨.tr (eL r4.free), 3, 1⟩, some ⟨.tr (eL r4.held), 42, 2⟩, some ⟨.mx [iA r4.pages, .os 2 0 r4.free.length, .os 3 0 r4.held.length], 30, 0⟩, some ⟨.tr (eL r6.free), 3, 1⟩, some ⟨.tr (eL r6.held), 42, 2⟩] rfl rfl ?_
      refine PR.callM true [] (w_L_equalSpace N r4 r6 r8 h_9) rfl Try.call35 rfl ⟨.aggL ⟨.t _, .own rfl (by first | decide | exact List.not_mem_nil) rfl rfl, .own rfl (by first | decide | exact List.not_mem_nil) rfl rfl, trivial⟩, .aggL ⟨.t _, .own rfl (by first | decide | exact List.not_mem_nil) rfl rfl, .own rfl (by first | decide | exact List.not_mem_nil) rfl rfl, trivial⟩, trivial⟩ rfl trivial (fun _ => ⟨trivial, flat_nil⟩) rfl ?_
      refine PR.op rfl (Rd.unnot rfl) ?_
      refine PR.op rfl (Rd.moveT rfl) ?_
      refine PR.guard_on rfl rfl (not_t h_10) ?_
      refine PR.rdE rfl rfl (Rd.loadBox rfl rfl rfl) ?_
      refine PR.guard_on rfl rfl (not_t h_10) ?_
      refine PR.callM true [] (w_I_ValidSpace N r2.1 r11 h_12) rfl Try.call17 rfl ⟨.aggL ⟨.t _, .t _, .own rfl (by first | decide | exact List.not_mem_nil) rfl rfl, trivial⟩, trivial⟩ rfl trivial (fun _ => ⟨trivial, flat_nil⟩) rfl ?_
      refine PR.guard_on rfl rfl (not_t h_10) ?_
      refine PR.op rfl (Rd.unnot rfl) ?_
      refine PR.op rfl (Rd.pick_f rfl (not_t h_10)) ?_
      refine PR.nil ?_
      refine PT.done ?_
      refine PL.nil ?_
      refine thA_n ?_
      exact ⟨(), trivial, [some 1, some 0, some 4, some 2, some 3], ⟨rfl, rfl, ⟨⟨_, rfl, rfl, rfl, .mx ⟨.t _, .t _, .os rfl, trivial⟩⟩, ⟨_, rfl, rfl, rfl, .tr _⟩, ⟨_, rfl, rfl, rfl, .mx ⟨.t _, .os rfl, .os rfl, trivial⟩⟩, ⟨_, rfl, rfl, rfl, .tr _⟩, ⟨_, rfl, rfl, rfl, .tr _⟩, trivial⟩, ⟨.op rfl, .t _, .op rfl, .t _, trivial⟩⟩⟩
    refine PT.seg ?_
    refine PR.callM true [] (w_S_ReleasePages N r2.1 r2.2 r6 h_7) rfl Try.call39 rfl ⟨.aggL ⟨.t _, .t _, .own rfl (by first | decide | exact List.not_mem_nil) rfl rfl, trivial⟩, .t _, trivial⟩ rfl trivial (fun _ => ⟨⟨trivial, trivial, trivial, trivial⟩, (flat_cons flat_ow (flat_cons flat_ow flat_nil))⟩) rfl ?_
    refine PR.nm (.agg [iA r6.pages, .os 5 0 r6.free.length, .os 6 0 r6.held.length]) [some ⟨.tr (eL r2.1.held), 42, 2⟩, some ⟨.mx [iA r2.1.pages, sL r2.1.free, .os 0 0 r2.1.held.length], 30, 0⟩, some ⟨.tr (eL r4.free), 3, 1⟩, some ⟨.tr (eL r4.held), 42, 2⟩, some ⟨.mx [iA r4.pages, .os 2 0 r4.free.length, .os 3 0 r4.held.length], 30, 0⟩, some ⟨.tr (eL r6.free), 3, 1⟩, some ⟨.tr (eL r6.held), 42, 2⟩] rfl rfl ?_
    refine PR.rdE rfl rfl (Rd.loadBox rfl rfl rfl) ?_
    refine PR.callM true [] (w_L_equalSpace N r4 r6 r8 h_9) rfl Try.call35 rfl ⟨.aggL ⟨.t _, .own rfl (by first | decide | exact List.not_mem_nil) rfl rfl, .own rfl (by first | decide | exact List.not_mem_nil) rfl rfl, trivial⟩, .aggL ⟨.t _, .own rfl (by first | decide | exact List.not_mem_nil) rfl rfl, .own rfl (by first | decide | exact List.not_mem_nil) rfl rfl, trivial⟩, trivial⟩ rfl trivial (fun _ => ⟨trivial, flat_nil⟩) rfl ?_
    refine PR.op rfl (Rd.unnot rfl) ?_
    refine PR.op rfl (Rd.moveT rfl) ?_
    refine PR.guard_on rfl rfl (not_t h_10) ?_
    refine PR.rdE rfl rfl (Rd.loadBox rfl rfl rfl) ?_
    refine PR.guard_on rfl rfl (not_t h_10) ?_
    refine PR.callM true [] (w_I_ValidSpace N r2.1 r11 h_12) rfl Try.call17 rfl ⟨.aggL ⟨.t _, .t _, .own rfl (by first | decide | exact List.not_mem_nil) rfl rfl, trivial⟩, trivial⟩ rfl trivial (fun _ => ⟨trivial, flat_nil⟩) rfl ?_
    refine PR.guard_on rfl rfl (not_t h_10) ?_
    refine PR.op rfl (Rd.unnot rfl) ?_
    refine PR.op rfl (Rd.pick_f rfl (not_t h_10)) ?_
    refine PR.nil ?_
    refine PT.done ?_
    refine PL.nil ?_
    refine thA_n ?_
    exact ⟨(), trivial, [some 1, some 0, some 4, some 2, some 3], ⟨rfl, rfl, ⟨⟨_, rfl, rfl, rfl, .mx ⟨.t _, .t _, .os rfl, trivial⟩⟩, ⟨_, rfl, rfl, rfl, .tr _⟩, ⟨_, rfl, rfl, rfl, .mx ⟨.t _, .os rfl, .os rfl, trivial⟩⟩, ⟨_, rfl, rfl, rfl, .tr _⟩, ⟨_, rfl, rfl, rfl, .tr _⟩, trivial⟩, ⟨.op rfl, .t _, .op rfl, .t _, trivial⟩⟩⟩
  rintro ⟨⟩ -
  rcases cond_some hh0 with ⟨h_13, hh0⟩ | ⟨h_13, hh0⟩
  rotate_left
  · refine PC.cond_true rfl (not_f h_13) ?_
    obtain ⟨r24, h_25, hh0⟩ := bind_some hh0
    obtain ⟨r26, h_27, hh0⟩ := bind_some hh0
    refine PC.cut hs (fun _ : Unit => [(2, bA r26)]) (fun _ => []) (fun _ => True) ?_ ?_
    · refine PC.any (id := 6) 6 (.seg [2] (.fork (.seg [0, 1, 3, 4, 5] .done) (.seg [1] (.fork (.seg [0, 3, 4, 5] .done) (.seg [3, 0, 4, 5] .done))))) [] rfl (by kernel_rfl) rfl ?_
      refine PT.seg ?_
      refine PR.op rfl (Rd.moveT rfl) ?_
      refine PR.nil ?_
      refine PT.fork ?_ ?_
      · refine PT.seg ?_
        refine PR.rdE rfl rfl (Rd.loadBox rfl rfl rfl) ?_
        refine PR.rdE rfl rfl (Rd.loadBox rfl rfl rfl) ?_
        refine PR.callM true [] (w_S_ReleasePages N r2.1 r2.2 r24 h_25) rfl Try.call39 rfl ⟨.aggL ⟨.t _, .t _, .own rfl (by first | decide | exact List.not_mem_nil) rfl rfl, trivial⟩, .t _, trivial⟩ rfl trivial (fun _ => ⟨⟨trivial, trivial, trivial, trivial⟩, (flat_cons flat_ow (flat_cons flat_ow flat_nil))⟩) rfl ?_
        refine PR.nm (.agg [iA r24.pages, .os 5 0 r24.free.length, .os 6 0 r24.held.length]) [some ⟨.mx [iA r2.1.pages, sL r2.1.free, .os 1 0 r2.1.held.length], 30, 0⟩, some ⟨.tr (eL r2.1.held), 42, 2⟩, some ⟨.mx [iA r4.pages, .os 3 0 r4.free.length, .os 4 0 r4.held.length], 30, 0⟩, some ⟨.tr (eL r4.free), 3, 1⟩, some ⟨.tr (eL r4.held), 42, 2⟩, some ⟨.tr (eL r24.free), 3, 1⟩, some ⟨.tr (eL r24.held), 42, 2⟩] rfl rfl ?_
        refine PR.callM true [] (w_L_equalSpace N r4 r24 r26 h_27) rfl Try.call35 rfl ⟨.aggL ⟨.t _, .own rfl (by first | decide | exact List.not_mem_nil) rfl rfl, .own rfl (by first | decide | exact List.not_mem_nil) rfl rfl, trivial⟩, .aggL ⟨.t _, .own rfl (by first | decide | exact List.not_mem_nil) rfl rfl, .own rfl (by first | decide | exact List.not_mem_nil) rfl rfl, trivial⟩, trivial⟩ rfl trivial (fun _ => ⟨trivial, flat_nil⟩) rfl ?_
        refine PR.op rfl (Rd.asnT rfl) ?_
        refine PR.nil ?_
        refine PT.done ?_
        refine PL.nil ?_
        refine thA_n ?_
        exact ⟨(), trivial, [], ⟨rfl, rfl, trivial, ⟨.t _, trivial⟩⟩⟩
      refine PT.seg ?_
      refine PR.rdE rfl rfl (Rd.loadBox rfl rfl rfl) ?_
      refine PR.nil ?_
      refine PT.fork ?_ ?_
      · refine PT.seg ?_
        refine PR.rdE rfl rfl (Rd.loadBox rfl rfl rfl) ?_
        refine PR.callM true [] (w_S_ReleasePages N r2.1 r2.2 r24 h_25) rfl Try.call39 rfl ⟨.aggL ⟨.t _, .t _, .own rfl (by first | decide | exact List.not_mem_nil) rfl rfl, trivial⟩, .t _, trivial⟩ rfl trivial (fun _ => ⟨⟨trivial, trivial, trivial, trivial⟩, (flat_cons flat_ow (flat_cons flat_ow flat_nil))⟩) rfl ?_
        refine PR.nm (.agg [iA r24.pages, .os 5 0 r24.free.length, .os 6 0 r24.held.length]) [some ⟨.mx [iA r2.1.pages, sL r2.1.free, .os 1 0 r2.1.held.length], 30, 0⟩, some ⟨.tr (eL r2.1.held), 42, 2⟩, some ⟨.mx [iA r4.pages, .os 3 0 r4.free.length, .os 4 0 r4.held.length], 30, 0⟩, some ⟨.tr (eL r4.free), 3, 1⟩, some ⟨.tr (eL r4.held), 42, 2⟩, some ⟨.tr (eL r24.free), 3, 1⟩, some ⟨.tr (eL r24.held), 42, 2⟩] rfl rfl ?_
        refine PR.callM true [] (w_L_equalSpace N r4 r24 r26 h_27) rfl Try.call35 rfl ⟨.aggL ⟨.t _, .own rfl (by first | decide | exact List.not_mem_nil) rfl rfl, .own rfl (by first | decide | exact List.not_mem_nil) rfl rfl, trivial⟩, .aggL ⟨.t _, .own rfl (by first | decide | exact List.not_mem_nil) rfl rfl, .own rfl (by first | decide | exact List.not_mem_nil) rfl rfl, trivial⟩, trivial⟩ rfl trivial (fun _ => ⟨trivial, flat_nil⟩) rfl ?_
        refine PR.op rfl (Rd.asnT rfl) ?_
        refine PR.nil ?_
        refine PT.done ?_
        refine PL.nil ?_
        refine thA_n ?_
        exact ⟨(), trivial, [], ⟨rfl, rfl, trivial, ⟨.t _, trivial⟩⟩⟩
      refine PT.seg ?_
      refine PR.callM true [] (w_S_ReleasePages N r2.1 r2.2 r24 h_25) rfl Try.call39 rfl ⟨.aggL ⟨.t _, .t _, .own rfl (by first | decide | exact List.not_mem_nil) rfl rfl, trivial⟩, .t _, trivial⟩ rfl trivial (fun _ => ⟨⟨trivial, trivial, trivial, trivial⟩, (flat_cons flat_ow (flat_cons flat_ow flat_nil))⟩) rfl ?_
      refine PR.nm (.agg [iA r24.pages, .os 5 0 r24.free.length, .os 6 0 r24.held.length]) [some ⟨.mx [iA r2.1.pages, sL r2.1.free, .os 1 0 r2.1.held.length], 30, 0⟩, some ⟨.tr (eL r2.1.held), 42, 2⟩, some ⟨.mx [iA r4.pages, .os 3 0 r4.free.length, .os 4 0 r4.held.length], 30, 0⟩, some ⟨.tr (eL r4.free), 3, 1⟩, some ⟨.tr (eL r4.held), 42, 2⟩, some ⟨.tr (eL r24.free), 3, 1⟩, some ⟨.tr (eL r24.held), 42, 2⟩] rfl rfl ?_
      refine PR.rdE rfl rfl (Rd.loadBox rfl rfl rfl) ?_
      refine PR.callM true [] (w_L_equalSpace N r4 r24 r26 h_27) rfl Try.call35 rfl ⟨.aggL ⟨.t _, .own rfl (by first | decide | exact List.not_mem_nil) rfl rfl, .own rfl (by first | decide | exact List.not_mem_nil) rfl rfl, trivial⟩, .aggL ⟨.t _, .own rfl (by first | decide | exact List.not_mem_nil) rfl rfl, .own rfl (by first | decide | exact List.not_mem_nil) rfl rfl, trivial⟩, trivial⟩ rfl trivial (fun _ => ⟨trivial, flat_nil⟩) rfl ?_
      refine PR.op rfl (Rd.asnT rfl) ?_
      refine PR.nil ?_
      refine PT.done ?_
      refine PL.nil ?_
      refine thA_n ?_
      exact ⟨(), trivial, [], ⟨rfl, rfl, trivial, ⟨.t _, trivial⟩⟩⟩
    rintro ⟨⟩ -
    refine PC.ret ?_
    refine thA_r ?_
    obtain rfl := some_in hh0
    exact FinA.mk (r := bA r26) (bl := []) [] (.inl rfl) rfl (rl := [.tmp 2]) (.tmp .nil) rfl rfl rfl (.t _) trivial ⟨rfl, rfl⟩
  refine PC.cond_false rfl (not_t h_13) ?_
  refine PC.skip ?_
  refine thA_n ?_
  refine PC.seq ?_
  obtain ⟨r14, h_15, hh0⟩ := bind_some hh0
  refine PC.region ?_
  refine PL.op rfl (Rd.loadBox rfl rfl rfl) ?_
  refine PL.callM true [] (w_I_ReleasePages N r2.1 (10000 : Int) r14 h_15) rfl Try.call38 rfl ⟨.aggL ⟨.t _, .t _, .own rfl (by first | decide | exact List.not_mem_nil) rfl rfl, trivial⟩, .t _, trivial⟩ rfl trivial (fun _ => ⟨⟨trivial, trivial, trivial, trivial⟩, (flat_cons flat_ow (flat_cons flat_ow flat_nil))⟩) ?_
  refine PL.nm (.agg [iA r14.pages, .os 5 0 r14.free.length, .os 6 0 r14.held.length]) [some ⟨.mx [iA r2.1.pages, sL r2.1.free, .os 1 0 r2.1.held.length], 30, 0⟩, some ⟨.tr (eL r2.1.held), 42, 2⟩, some ⟨.mx [iA r4.pages, .os 3 0 r4.free.length, .os 4 0 r4.held.length], 30, 0⟩, some ⟨.tr (eL r4.free), 3, 1⟩, some ⟨.tr (eL r4.held), 42, 2⟩, some ⟨.tr (eL r14.free), 3, 1⟩, some ⟨.tr (eL r14.held), 42, 2⟩] rfl rfl ?_
  refine PL.ef rfl (Ef.alloc rfl rfl) ?_
  refine PL.nm (.op 7 0) [some ⟨.mx [iA r2.1.pages, sL r2.1.free, .os 1 0 r2.1.held.length], 30, 0⟩, some ⟨.tr (eL r2.1.held), 42, 2⟩, some ⟨.mx [iA r4.pages, .os 3 0 r4.free.length, .os 4 0 r4.held.length], 30, 0⟩, some ⟨.tr (eL r4.free), 3, 1⟩, some ⟨.tr (eL r4.held), 42, 2⟩, some ⟨.tr (eL r14.free), 3, 1⟩, some ⟨.tr (eL r14.held), 42, 2⟩, some ⟨.mx [iA (0 : Int), .t (.v (.slice none 0 0)), .t (.v (.slice none 0 0))], 30, 0⟩] rfl rfl ?_
  refine PL.store rfl rfl rfl rfl rfl rfl rfl ?_
  refine PL.nO [some ⟨.mx [iA r2.1.pages, sL r2.1.free, .os 1 0 r2.1.held.length], 30, 0⟩, some ⟨.tr (eL r2.1.held), 42, 2⟩, some ⟨.mx [iA r4.pages, .os 3 0 r4.free.length, .os 4 0 r4.held.length], 30, 0⟩, some ⟨.tr (eL r4.free), 3, 1⟩, some ⟨.tr (eL r4.held), 42, 2⟩, some ⟨.tr (eL r14.free), 3, 1⟩, some ⟨.tr (eL r14.held), 42, 2⟩, some ⟨.mx [iA r14.pages, .os 5 0 r14.free.length, .os 6 0 r14.held.length], 30, 0⟩] rfl ?_
  refine PL.nil ?_
  refine thA_n ?_
  rcases cond_some hh0 with ⟨h_16, hh0⟩ | ⟨h_16, hh0⟩
  rotate_left
  · refine PC.cut hs (fun _ : Unit => [(2, bA false)]) (fun _ => []) (fun _ => True) ?_ ?_
    · refine PC.any (id := 8) 24 (.seg [0, 1, 2, 3, 4, 5, 6, 7, 8, 9, 10, 11, 12, 13, 14, 15, 16, 17] (.fork (.seg [18] (.fork (.seg [19, 20, 21, 22, 23] .done) (.seg [20, 19, 21, 22, 23] .done))) (.seg [20, 18, 19, 21, 22, 23] .done))) [] rfl (by kernel_rfl) rfl ?_
      refine PT.seg ?_
      refine PR.op rfl (Rd.fieldO rfl rfl) ?_
      refine PR.op rfl (Rd.loadO rfl rfl rfl) ?_
      refine PR.op rfl (Rd.lenO rfl rfl) ?_
      refine PR.op rfl (Rd.eql rfl rfl) ?_
      refine PR.op rfl (Rd.moveT rfl) ?_
      refine PR.guard_off rfl rfl h_16 ?_
      refine PR.guard_off rfl rfl h_16 ?_
      refine PR.guard_off rfl rfl h_16 ?_
      refine PR.guard_off rfl rfl h_16 ?_
      refine PR.guard_off rfl rfl h_16 ?_
      refine PR.guard_off rfl rfl h_16 ?_
      refine PR.guard_off rfl rfl h_16 ?_
      refine PR.guard_off rfl rfl h_16 ?_
      refine PR.guard_off rfl rfl h_16 ?_
      refine PR.guard_off rfl rfl h_16 ?_
      refine PR.guard_off rfl rfl h_16 ?_
      refine PR.op rfl (Rd.pick_f rfl h_16) ?_
      refine PR.op rfl (Rd.moveT rfl) ?_
      refine PR.nil ?_
      refine PT.fork ?_ ?_
      rotate_left
      · refine PT.seg ?_
        refine PR.guard_off rfl rfl rfl ?_
        refine PR.guard_off rfl rfl rfl ?_
        refine PR.guard_off rfl rfl rfl ?_
        refine PR.guard_off rfl rfl rfl ?_
        refine PR.op rfl (Rd.pick_f rfl rfl) ?_
        refine PR.op rfl (Rd.asnT rfl) ?_
        refine PR.nil ?_
        refine PT.done ?_
        refine PL.nil ?_
        refine thA_n ?_
        exact ⟨(), trivial, [], ⟨rfl, rfl, trivial, ⟨.t _, trivial⟩⟩⟩
      refine PT.seg ?_
      refine PR.guard_off rfl rfl rfl ?_
      refine PR.nil ?_
      refine PT.fork ?_ ?_
      · refine PT.seg ?_
        refine PR.guard_off rfl rfl rfl ?_
        refine PR.guard_off rfl rfl rfl ?_
        refine PR.guard_off rfl rfl rfl ?_
        refine PR.op rfl (Rd.pick_f rfl rfl) ?_
        refine PR.op rfl (Rd.asnT rfl) ?_
        refine PR.nil ?_
        refine PT.done ?_
        refine PL.nil ?_
        refine thA_n ?_
        exact ⟨(), trivial, [], ⟨rfl, rfl, trivial, ⟨.t _, trivial⟩⟩⟩
      refine PT.seg ?_
      refine PR.guard_off rfl rfl rfl ?_
      refine PR.guard_off rfl rfl rfl ?_
      refine PR.guard_off rfl rfl rfl ?_
      refine PR.op rfl (Rd.pick_f rfl rfl) ?_
      refine PR.op rfl (Rd.asnT rfl) ?_
      refine PR.nil ?_
      refine PT.done ?_
      refine PL.nil ?_
      refine thA_n ?_
      exact ⟨(), trivial, [], ⟨rfl, rfl, trivial, ⟨.t _, trivial⟩⟩⟩
    rintro ⟨⟩ -
    refine PC.ret ?_
    obtain rfl := some_in hh0
    exact FinA.mk (r := bA false) (bl := []) [] (.inl rfl) rfl (rl := [.tmp 2]) (.tmp .nil) rfl rfl rfl (.t _) trivial ⟨rfl, rfl⟩
  obtain ⟨n17, h_18, hh0⟩ := bind_some hh0
  rcases cond_some hh0 with ⟨h_19, hh0⟩ | ⟨h_19, hh0⟩
  rotate_left
  · refine PC.cut hs (fun _ : Unit => [(2, bA false)]) (fun _ => []) (fun _ => True) ?_ ?_
    · refine PC.any (id := 8) 24 (.seg [0, 1, 2, 3, 4, 5, 6, 7, 8, 9, 10, 11, 12, 13, 14, 15, 16, 17] (.fork (.seg [18] (.fork (.seg [19, 20, 21, 22, 23] .done) (.seg [20, 19, 21, 22, 23] .done))) (.seg [20, 18, 19, 21, 22, 23] .done))) [] rfl (by kernel_rfl) rfl ?_
      refine PT.seg ?_
      refine PR.op rfl (Rd.fieldO rfl rfl) ?_
      refine PR.op rfl (Rd.loadO rfl rfl rfl) ?_
      refine PR.op rfl (Rd.lenO rfl rfl) ?_
      refine PR.op rfl (Rd.eql rfl rfl) ?_
      refine PR.op rfl (Rd.moveT rfl) ?_
      refine PR.guard_on rfl rfl h_16 ?_
      refine PR.op rfl (Rd.fieldO rfl rfl) ?_
      refine PR.guard_on rfl rfl h_16 ?_
      refine PR.op rfl (Rd.loadO rfl rfl rfl) ?_
      refine PR.guard_on rfl rfl h_16 ?_
      refine PR.op rfl (Rd.lenO rfl rfl) ?_
      refine PR.guard_on rfl rfl h_16 ?_
      refine PR.op rfl (Rd.fieldO rfl rfl) ?_
      refine PR.guard_on rfl rfl h_16 ?_
      refine PR.op rfl (Rd.loadO rfl rfl rfl) ?_
      refine PR.guard_on rfl rfl h_16 ?_
      refine PR.op rfl (Rd.lenT rfl) ?_
      refine PR.guard_on rfl rfl h_16 ?_
      refine PR.op rfl (Rd.fieldO rfl rfl) ?_
      refine PR.guard_on rfl rfl h_16 ?_
      refine PR.op rfl (Rd.loadO rfl rfl rfl) ?_
      refine PR.guard_on rfl rfl h_16 ?_
      refine PR.op rfl (Rd.lenO rfl rfl) ?_
      refine PR.guard_on rfl rfl h_16 ?_
      refine PR.op rfl (Rd.addM rfl rfl h_18) ?_
      refine PR.guard_on rfl rfl h_16 ?_
      refine PR.op rfl (Rd.eql rfl rfl) ?_
      refine PR.op rfl (Rd.pick_t rfl h_16) ?_
      refine PR.op rfl (Rd.moveT rfl) ?_
      refine PR.nil ?_
      refine PT.fork ?_ ?_
      rotate_left
      · refine PT.seg ?_
        refine PR.guard_off rfl rfl h_19 ?_
        refine PR.guard_off rfl rfl h_19 ?_
        refine PR.guard_off rfl rfl h_19 ?_
        refine PR.guard_off rfl rfl h_19 ?_
        refine PR.op rfl (Rd.pick_f rfl h_19) ?_
        refine PR.op rfl (Rd.asnT rfl) ?_
        refine PR.nil ?_
        refine PT.done ?_
        refine PL.nil ?_
        refine thA_n ?_
        exact ⟨(), trivial, [], ⟨rfl, rfl, trivial, ⟨.t _, trivial⟩⟩⟩
      refine PT.seg ?_
      refine PR.guard_off rfl rfl h_19 ?_
      refine PR.nil ?_
      refine PT.fork ?_ ?_
      · refine PT.seg ?_
        refine PR.guard_off rfl rfl h_19 ?_
        refine PR.guard_off rfl rfl h_19 ?_
        refine PR.guard_off rfl rfl h_19 ?_
        refine PR.op rfl (Rd.pick_f rfl h_19) ?_
        refine PR.op rfl (Rd.asnT rfl) ?_
        refine PR.nil ?_
        refine PT.done ?_
        refine PL.nil ?_
        refine thA_n ?_
        exact ⟨(), trivial, [], ⟨rfl, rfl, trivial, ⟨.t _, trivial⟩⟩⟩
      refine PT.seg ?_
      refine PR.guard_off rfl rfl h_19 ?_
      refine PR.guard_off rfl rfl h_19 ?_
      refine PR.guard_off rfl rfl h_19 ?_
      refine PR.op rfl (Rd.pick_f rfl h_19) ?_
      refine PR.op rfl (Rd.asnT rfl) ?_
      refine PR.nil ?_
      refine PT.done ?_
      refine PL.nil ?_
      refine thA_n ?_
      exact ⟨(), trivial, [], ⟨rfl, rfl, trivial, ⟨.t _, trivial⟩⟩⟩
    rintro ⟨⟩ -
    refine PC.ret ?_
    obtain rfl := some_in hh0
    exact FinA.mk (r := bA false) (bl := []) [] (.inl rfl) rfl (rl := [.tmp 2]) (.tmp .nil) rfl rfl rfl (.t _) trivial ⟨rfl, rfl⟩
  obtain ⟨r20, h_21, hh0⟩ := bind_some hh0
  obtain ⟨r22, h_23, hh0⟩ := bind_some hh0
  refine PC.cut hs (fun _ : Unit => [(2, bA r22)]) (fun _ => []) (fun _ => True) ?_ ?_
  · refine PC.any (id := 8) 24 (.seg [0, 1, 2, 3, 4, 5, 6, 7, 8, 9, 10, 11, 12, 13, 14, 15, 16, 17] (.fork (.seg [18] (.fork (.seg [19, 20, 21, 22, 23] .done) (.seg [20, 19, 21, 22, 23] .done))) (.seg [20, 18, 19, 21, 22, 23] .done))) [] rfl (by kernel_rfl) rfl ?_
    refine PT.seg ?_
    refine PR.op rfl (Rd.fieldO rfl rfl) ?_
    refine PR.op rfl (Rd.loadO rfl rfl rfl) ?_
    refine PR.op rfl (Rd.lenO rfl rfl) ?_
    refine PR.op rfl (Rd.eql rfl rfl) ?_
    refine PR.op rfl (Rd.moveT rfl) ?_
    refine PR.guard_on rfl rfl h_16 ?_
    refine PR.op rfl (Rd.fieldO rfl rfl) ?_
    refine PR.guard_on rfl rfl h_16 ?_
    refine PR.op rfl (Rd.loadO rfl rfl rfl) ?_
    refine PR.guard_on rfl rfl h_16 ?_
    refine PR.op rfl (Rd.lenO rfl rfl) ?_
    refine PR.guard_on rfl rfl h_16 ?_
    refine PR.op rfl (Rd.fieldO rfl rfl) ?_
    refine PR.guard_on rfl rfl h_16 ?_
    refine PR.op rfl (Rd.loadO rfl rfl rfl) ?_
    refine PR.guard_on rfl rfl h_16 ?_
    refine PR.op rfl (Rd.lenT rfl) ?_
    refine PR.guard_on rfl rfl h_16 ?_
    refine PR.op rfl (Rd.fieldO rfl rfl) ?_
    refine PR.guard_on rfl rfl h_16 ?_
    refine PR.op rfl (Rd.loadO rfl rfl rfl) ?_
    refine PR.guard_on rfl rfl h_16 ?_
    refine PR.op rfl (Rd.lenO rfl rfl) ?_
    refine PR.guard_on rfl rfl h_16 ?_
    refine PR.op rfl (Rd.addM rfl rfl h_18) ?_
    refine PR.guard_on rfl rfl h_16 ?_
    refine PR.op rfl (Rd.eql rfl rfl) ?_
    refine PR.op rfl (Rd.pick_t rfl h_16) ?_
    refine PR.op rfl (Rd.moveT rfl) ?_
    refine PR.nil ?_
    refine PT.fork ?_ ?_
    rotate_left
    · refine PT.seg ?_
      refine PR.guard_on rfl rfl h_19 ?_
      refine PR.rdE rfl rfl (Rd.loadBox rfl rfl rfl) ?_
      refine PR.guard_on rfl rfl h_19 ?_
      refine PR.rdE rfl rfl (Rd.loadBox rfl rfl rfl) ?_
      refine PR.guard_on rfl rfl h_19 ?_
      refine PR.callM true [] (w_I_ReleasePages N r2.1 (0 : Int) r20 h_21) rfl Try.call38 rfl ⟨.aggL ⟨.t _, .t _, .own rfl (by first | decide | exact List.not_mem_nil) rfl rfl, trivial⟩, .t _, trivial⟩ rfl trivial (fun _ => ⟨⟨trivial, trivial, trivial, trivial⟩, (flat_cons flat_ow (flat_cons flat_ow flat_nil))⟩) rfl ?_
      refine PR.nm (.agg [iA r20.pages, .os 8 0 r20.free.length, .os 9 0 r20.held.length]) [some ⟨.mx [iA r2.1.pages, sL r2.1.free, .os 1 0 r2.1.held.length], 30, 0⟩, some ⟨.tr (eL r2.1.held), 42, 2⟩, some ⟨.mx [iA r4.pages, .os 3 0 r4.free.length, .os 4 0 r4.held.length], 30, 0⟩, some ⟨.tr (eL r4.free), 3, 1⟩, some ⟨.tr (eL r4.held), 42, 2⟩, some ⟨.tr (eL r14.free), 3, 1⟩, some ⟨.tr (eL r14.held), 42, 2⟩, some ⟨.mx [iA r14.pages, .os 5 0 r14.free.length, .os 6 0 r14.held.length], 30, 0⟩, some ⟨.tr (eL r20.free), 3, 1⟩, some ⟨.tr (eL r20.held), 42, 2⟩] rfl rfl ?_
      refine PR.guard_on rfl rfl h_19 ?_
      refine PR.callM true [] (w_L_equalSpace N r20 r2.1 r22 h_23) rfl Try.call35 rfl ⟨.aggL ⟨.t _, .own rfl (by first | decide | exact List.not_mem_nil) rfl rfl, .own rfl (by first | decide | exact List.not_mem_nil) rfl rfl, trivial⟩, .aggL ⟨.t _, .t _, .own rfl (by first | decide | exact List.not_mem_nil) rfl rfl, trivial⟩, trivial⟩ rfl trivial (fun _ => ⟨trivial, flat_nil⟩) rfl ?_
      refine PR.op rfl (Rd.pick_t rfl h_19) ?_
      refine PR.op rfl (Rd.asnT rfl) ?_
      refine PR.nil ?_
      refine PT.done ?_
      refine PL.nil ?_
      refine thA_n ?_
      exact ⟨(), trivial, [], ⟨rfl, rfl, trivial, ⟨.t _, trivial⟩⟩⟩
    refine PT.seg ?_
    refine PR.guard_on rfl rfl h_19 ?_
    refine PR.rdE rfl rfl (Rd.loadBox rfl rfl rfl) ?_
    refine PR.nil ?_
    refine PT.fork ?_ ?_
    · refine PT.seg ?_
      refine PR.guard_on rfl rfl h_19 ?_
      refine PR.callM true [] (w_I_ReleasePages N r2.1 (0 : Int) r20 h_21) rfl Try.call38 rfl ⟨.aggL ⟨.t _, .t _, .own rfl (by first | decide | exact List.not_mem_nil) rfl rfl, trivial⟩, .t _, trivial⟩ rfl trivial (fun _ => ⟨⟨trivial, trivial, trivial, trivial⟩, (flat_cons flat_ow (flat_cons flat_ow flat_nil))⟩) rfl ?_
      refine PR.nm (.agg [iA r20.pages, .os 8 0 r20.free.length, .os 9 0 r20.held.length]) [some ⟨.mx [iA r2.1.pages, sL r2.1.free, .os 1 0 r2.1.held.length], 30, 0⟩, some ⟨.tr (eL r2.1.held), 42, 2⟩, some ⟨.mx [iA r4.pages, .os 3 0 r4.free.length, .os 4 0 r4.held.length], 30, 0⟩, some ⟨.tr (eL r4.free), 3, 1⟩, some ⟨.tr (eL r4.held), 42, 2⟩, some ⟨.tr (eL r14.free), 3, 1⟩, some ⟨.tr (eL r14.held), 42, 2⟩, some ⟨.mx [iA r14.pages, .os 5 0 r14.free.length, .os 6 0 r14.held.length], 30, 0⟩, some ⟨.tr (eL r20.free), 3, 1⟩, some ⟨.tr (eL r20.held), 42, 2⟩] rfl rfl ?_
      refine PR.guard_on rfl rfl h_19 ?_
      refine PR.rdE rfl rfl (Rd.loadBox rfl rfl rfl) ?_
      refine PR.guard_on rfl rfl h_19 ?_
      refine PR.callM true [] (w_L_equalSpace N r20 r2.1 r22 h_23) rfl Try.call35 rfl ⟨.aggL ⟨.t _, .own rfl (by first | decide | exact List.not_mem_nil) rfl rfl, .own rfl (by first | decide | exact List.not_mem_nil) rfl rfl, trivial⟩, .aggL ⟨.t _, .t _, .own rfl (by first | decide | exact List.not_mem_nil) rfl rfl, trivial⟩, trivial⟩ rfl trivial (fun _ => ⟨trivial, flat_nil⟩) rfl ?_
      refine PR.op rfl (Rd.pick_t rfl h_19) ?_
      refine PR.op rfl (Rd.asnT rfl) ?_
      refine PR.nil ?_
      refine PT.done ?_
      refine PL.nil ?_
      refine thA_n ?_
      exact ⟨(), trivial, [], ⟨rfl, rfl, trivial, ⟨.t _, trivial⟩⟩⟩
    refine PT.seg ?_
    refine PR.guard_on rfl rfl h_19 ?_
    refine PR.rdE rfl rfl (Rd.loadBox rfl rfl rfl) ?_
    refine PR.guard_on rfl rfl h_19 ?_
    refine PR.callM true [] (w_I_ReleasePages N r2.1 (0 : Int) r20 h_21) rfl Try.call38 rfl ⟨.aggL ⟨.t _, .t _, .own rfl (by first | decide | exact List.not_mem_nil) rfl rfl, trivial⟩, .t _, trivial⟩ rfl trivial (fun _ => ⟨⟨trivial, trivial, trivial, trivial⟩, (flat_cons flat_ow (flat_cons flat_ow flat_nil))⟩) rfl ?_
    refine PR.nm (.agg [iA r20.pages, .os 8 0 r20.free.length, .os 9 0 r20.held.length]) [some ⟨.mx [iA r2.1.pages, sL r2.1.free, .os 1 0 r2.1.held.length], 30, 0⟩, some ⟨.tr (eL r2.1.held), 42, 2⟩, some ⟨.mx [iA r4.pages, .os 3 0 r4.free.length, .os 4 0 r4.held.length], 30, 0⟩, some ⟨.tr (eL r4.free), 3, 1⟩, some ⟨.tr (eL r4.held), 42, 2⟩, some ⟨.tr (eL r14.free), 3, 1⟩, some ⟨.tr (eL r14.held), 42, 2⟩, some ⟨.mx [iA r14.pages, .os 5 0 r14.free.length, .os 6 0 r14.held.length], 30, 0⟩, some ⟨.tr (eL r20.free), 3, 1⟩, some ⟨.tr (eL r20.held), 42, 2⟩] rfl rfl ?_
    refine PR.guard_on rfl rfl h_19 ?_
    refine PR.callM true [] (w_L_equalSpace N r20 r2.1 r22 h_23) rfl Try.call35 rfl ⟨.aggL ⟨.t _, .own rfl (by first | decide | exact List.not_mem_nil) rfl rfl, .own rfl (by first | decide | exact List.not_mem_nil) rfl rfl, trivial⟩, .aggL ⟨.t _, .t _, .own rfl (by first | decide | exact List.not_mem_nil) rfl rfl, trivial⟩, trivial⟩ rfl trivial (fun _ => ⟨trivial, flat_nil⟩) rfl ?_
    refine PR.op rfl (Rd.pick_t rfl h_19) ?_
    refine PR.op rfl (Rd.asnT rfl) ?_
    refine PR.nil ?_
    refine PT.done ?_
    refine PL.nil ?_
    refine thA_n ?_
    exact ⟨(), trivial, [], ⟨rfl, rfl, trivial, ⟨.t _, trivial⟩⟩⟩
  rintro ⟨⟩ -
  refine PC.ret ?_
  obtain rfl := some_in hh0
  exact FinA.mk (r := bA r22) (bl := []) [] (.inl rfl) rfl (rl := [.tmp 2]) (.tmp .nil) rfl rfl rfl (.t _) trivial ⟨rfl, rfl⟩

end V
end Go.Proofs.Ytambkpacecjheaa
