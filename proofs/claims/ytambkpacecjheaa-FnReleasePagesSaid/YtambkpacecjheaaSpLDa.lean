/- Space: a law's function. No condition. -/
import Derived.Test.YtambkpacecjheaaSpFa
namespace Go.Proofs.Ytambkpacecjheaa
namespace V
open Enc (enc)
set_option linter.unusedVariables false
set_option linter.unusedSimpArgs false
set_option maxHeartbeats 4000000
set_option maxRecDepth 100000
open Go.RowKit
attribute [local irreducible] thA inA FinA eL

def m_L_FnReleasePages (N : Nat) (p_code : (List UInt8)) : Option (Bool) :=
  cond (decide ((1048576 : Int) < (p_code.length : Int)))
    (some true)
    ((m_S_DrawReleasePages N p_code).bind fun r2 =>
    (m_I_ReleasePages N r2.1 r2.2).bind fun r4 =>
    (m_S_ReleasePages N r2.1 r2.2).bind fun r6 =>
    (m_L_equalSpace N r4 r6).bind fun r8 =>
    cond r8
      ((m_I_ValidSpace N r2.1).bind fun r11 =>
      cond r11
        (cond (decide ((989901 : Int) < r2.2))
          ((m_S_ReleasePages N r2.1 r2.2).bind fun r15 =>
          (m_L_equalSpace N r4 r15).bind fun r17 =>
          some r17)
          ((chk (r2.2 + (1 : Int))).bind fun n19 =>
          (m_I_ReleasePages N r2.1 n19).bind fun r21 =>
          (m_I_ValidSpace N r4).bind fun r23 =>
          cond r23
            ((m_I_PagesInUse N r4).bind fun r26 =>
            (m_I_PagesInUse N r2.1).bind fun r28 =>
            (m_L_equalInts N r26 r28).bind fun r30 =>
            cond r30
              (cond (decide ((r4.free.length : Int) ≤ (r21.free.length : Int)))
                ((m_I_ReleasePages N r4 r2.2).bind fun r34 =>
                (m_L_equalSpace N r34 r4).bind fun r36 =>
                some r36)
                (some false))
              (some false))
            (some false)))
        ((m_S_ReleasePages N r2.1 r2.2).bind fun r38 =>
        (m_L_equalSpace N r4 r38).bind fun r40 =>
        some r40))
      ((m_S_ReleasePages N r2.1 r2.2).bind fun r42 =>
      (m_L_equalSpace N r4 r42).bind fun r44 =>
      some r44))
theorem w_L_FnReleasePages (N : Nat) (p_code : (List UInt8)) (r : Bool) (hh0 : m_L_FnReleasePages N p_code = some r) : FnX Try.prog 12 [] [sL p_code] (RE (bA r) []) := by
  unfold m_L_FnReleasePages at hh0
  refine FnX.mk Try.func12 rfl rfl ?_
  intro s hs
  refine PC.seq ?_
  refine PC.region ?_
  refine PL.op rfl (Rd.asnT rfl) ?_
  refine PL.nil ?_
  refine thA_n ?_
  refine PC.seq ?_
  refine PC.seq ?_
  refine PC.region ?_
  refine PL.op rfl (Rd.moveT rfl) ?_
  refine PL.op rfl (Rd.lenT rfl) ?_
  refine PL.op rfl (Rd.gtr rfl rfl) ?_
  refine PL.nil ?_
  refine thA_n ?_
  rcases cond_some hh0 with ⟨h_1, hh0⟩ | ⟨h_1, hh0⟩
  · refine PC.cond_true rfl h_1 ?_
    refine PC.seq ?_
    refine PC.region ?_
    refine PL.op rfl (Rd.asnT rfl) ?_
    refine PL.nil ?_
    refine thA_n ?_
    refine PC.ret ?_
    refine thA_r ?_
    obtain rfl := some_in hh0
    exact FinA.mk (r := bA true) (bl := []) [] (.inl rfl) rfl (rl := [.tmp 2]) (.tmp .nil) rfl rfl rfl (.t _) trivial ⟨rfl, rfl⟩
  refine PC.cond_false rfl h_1 ?_
  refine PC.skip ?_
  refine thA_n ?_
  refine PC.seq ?_
  obtain ⟨r2, h_3, hh0⟩ := bind_some hh0
  refine PC.region ?_
  refine PL.op rfl (Rd.moveT rfl) ?_
  refine PL.callM false [] (w_S_DrawReleasePages N p_code r2 h_3) rfl Try.call37 rfl ⟨.t _, trivial⟩ rfl trivial (fun h => by cases h) ?_
  refine PL.nm (.tup [.agg [iA r2.1.pages, sL r2.1.free, .os 0 0 r2.1.held.length], iA r2.2]) [some ⟨.tr (eL r2.1.held), 42, 2⟩] rfl rfl ?_
  refine PL.op rfl (Rd.moveU rfl) ?_
  refine PL.op rfl (Rd.extract rfl rfl) ?_
  refine PL.op rfl (Rd.extract rfl rfl) ?_
  refine PL.ef rfl (Ef.alloc rfl rfl) ?_
  refine PL.nm (.op 1 0) [some ⟨.tr (eL r2.1.held), 42, 2⟩, some ⟨.mx [iA (0 : Int), .t (.v (.slice none 0 0)), .t (.v (.slice none 0 0))], 30, 0⟩] rfl rfl ?_
  refine PL.store rfl rfl rfl rfl rfl rfl rfl ?_
  refine PL.nO [some ⟨.tr (eL r2.1.held), 42, 2⟩, some ⟨.mx [iA r2.1.pages, sL r2.1.free, .os 0 0 r2.1.held.length], 30, 0⟩] rfl ?_
  refine PL.op rfl (Rd.asnT rfl) ?_
  refine PL.nil ?_
  refine thA_n ?_
  refine PC.seq ?_
  obtain ⟨r4, h_5, hh0⟩ := bind_some hh0
  refine PC.region ?_
  refine PL.op rfl (Rd.loadBox rfl rfl rfl) ?_
  refine PL.op rfl (Rd.moveT rfl) ?_
  refine PL.callM true [] (w_I_ReleasePages N r2.1 r2.2 r4 h_5) rfl Try.call38 rfl ⟨.aggL ⟨.t _, .t _, .own rfl (by first | decide | exact List.not_mem_nil) rfl rfl, trivial⟩, .t _, trivial⟩ rfl trivial (fun _ => ⟨⟨trivial, trivial, trivial, trivial⟩, (flat_cons flat_ow (flat_cons flat_ow flat_nil))⟩) ?_
  refine PL.nm (.agg [iA r4.pages, .os 2 0 r4.free.length, .os 3 0 r4.held.length]) [some ⟨.tr (eL r2.1.held), 42, 2⟩, some ⟨.mx [iA r2.1.pages, sL r2.1.free, .os 0 0 r2.1.held.length], 30, 0⟩, some ⟨.tr (eL r4.free), 3, 1⟩, some ⟨.tr (eL r4.held), 42, 2⟩] rfl rfl ?_
  refine PL.ef rfl (Ef.alloc rfl rfl) ?_
  refine PL.nm (.op 4 0) [some ⟨.tr (eL r2.1.held), 42, 2⟩, some ⟨.mx [iA r2.1.pages, sL r2.1.free, .os 0 0 r2.1.held.length], 30, 0⟩, some ⟨.tr (eL r4.free), 3, 1⟩, some ⟨.tr (eL r4.held), 42, 2⟩, some ⟨.mx [iA (0 : Int), .t (.v (.slice none 0 0)), .t (.v (.slice none 0 0))], 30, 0⟩] rfl rfl ?_
  refine PL.store rfl rfl rfl rfl rfl rfl rfl ?_
  refine PL.nO [some ⟨.tr (eL r2.1.held), 42, 2⟩, some ⟨.mx [iA r2.1.pages, sL r2.1.free, .os 0 0 r2.1.held.length], 30, 0⟩, some ⟨.tr (eL r4.free), 3, 1⟩, some ⟨.tr (eL r4.held), 42, 2⟩, some ⟨.mx [iA r4.pages, .os 2 0 r4.free.length, .os 3 0 r4.held.length], 30, 0⟩] rfl ?_
  refine PL.nil ?_
  refine thA_n ?_
  refine PC.seq ?_
  obtain ⟨r6, h_7, hh0⟩ := bind_some hh0
  obtain ⟨r8, h_9, hh0⟩ := bind_some hh0
  rcases cond_some hh0 with ⟨h_10, hh0⟩ | ⟨h_10, hh0⟩
  rotate_left
  · refine PC.cut hs (fun _ : Unit => [(3, .op 0 0), (4, iA r2.2), (5, .op 2 0), (32, bA true)]) (fun _ => [⟨.mx [iA r2.1.pages, sL r2.1.free, .os 1 0 r2.1.held.length], 30, 0⟩, ⟨.tr (eL r2.1.held), 42, 2⟩, ⟨.mx [iA r4.pages, .os 3 0 r4.free.length, .os 4 0 r4.held.length], 30, 0⟩, ⟨.tr (eL r4.free), 3, 1⟩, ⟨.tr (eL r4.held), 42, 2⟩]) (fun _ => True) ?_ ?_
    · refine PC.any (id := 5) 15 (.seg [2] (.fork (.seg [0, 1, 3, 4, 5, 6, 7, 8, 9, 10, 11, 12, 13, 14] .done) (.seg [1] (.fork (.seg [0, 3, 4, 5, 6, 7, 8, 9, 10, 11, 12, 13, 14] .done) (.seg [3, 0, 4, 5, 6, 7, 8, 9, 10, 11, 12, 13, 14] .done))))) [] rfl (by kernel_rfl) rfl ?_
      refine PT.seg ?_
      refine PR.op rfl (Rd.moveT rfl) ?_
      refine PR.nil ?_
      refine PT.fork ?_ ?_
      · refine PT.seg ?_
        refine PR.rdE rfl rfl (Rd.loadBox rfl rfl rfl) ?_
        refine PR.rdE rfl rfl (Rd.loadBox rfl rfl rfl) ?_
        refine PR.callM true [] (w_S_ReleasePages N r2.1 r2.2 r6 h_7) rfl Try.call39 rfl ⟨.aggL ⟨.t _, .t _, .own rfl (by first | decide | exact List.not_mem_nil) rfl rfl, trivial⟩, .t _, trivial⟩ rfl trivial (fun _ => ⟨⟨trivial, trivial, trivial, trivial⟩, (flat_cons flat_ow (flat_cons flat_ow flat_nil))⟩) rfl ?_
        refine PR.nm (.agg [iA r6.pages, .os 5 0 r6.free.length, .os 6 0 r6.held.length]) [some ⟨.tr (eL r2.1.held), 42, 2⟩, some ⟨.mx [iA r2.1.pages, sL r2.1.free, .os 0 0 r2.1.held.length], 30, 0⟩, some ⟨.tr (eL r4.free), 3, 1⟩, some ⟨.tr (eL r4.held), 42, 2⟩, some ⟨.mx [iA r4.pages, .os 2 0 r4.free.length, .os 3 0 r4.held.length], 30, 0⟩, some ⟨.tr (eL r6.free), 3, 1⟩, some ⟨.tr (eL r6.held), 42, 2⟩] rfl rfl ?_
        refine PR.callM true [] (w_L_equalSpace N r4 r6 r8 h_9) rfl Try.call35 rfl ⟨.aggL ⟨.t _, .own rfl (by first | decide | exact List.not_mem_nil) rfl rfl, .own rfl (by first | decide | exact List.not_mem_nil) rfl rfl, trivial⟩, .aggL ⟨.t _, .own rfl (by first | decide | exact List.not_mem_nil) rfl rfl, .own rfl (by first | decide | exact List.not_mem_nil) rfl rfl, trivial⟩, trivial⟩ rfl trivial (fun _ => ⟨trivial, flat_nil⟩) rfl ?_
        refine PR.op rfl (Rd.unnot rfl) ?_
        refine PR.op rfl (Rd.moveT rfl) ?_
        refine PR.guard_off rfl rfl (not_f h_10) ?_
        refine PR.guard_off rfl rfl (not_f h_10) ?_
        refine PR.guard_off rfl rfl (not_f h_10) ?_
        refine PR.op rfl (Rd.pick_t rfl (not_f h_10)) ?_
        refine PR.op rfl (Rd.moveT rfl) ?_
        refine PR.guard_off rfl rfl rfl ?_
        refine PR.guard_off rfl rfl rfl ?_
        refine PR.op rfl (Rd.pick_t rfl rfl) ?_
        refine PR.nil ?_
        refine PT.done ?_
        refine PL.nil ?_
        refine thA_n ?_
        exact ⟨(), trivial, [some 1, some 0, some 4, some 2, some 3], ⟨rfl, rfl, ⟨⟨_, rfl, rfl, rfl, .mx ⟨.t _, .t _, .os rfl, trivial⟩⟩, ⟨_, rfl, rfl, rfl, .tr _⟩, ⟨_, rfl, rfl, rfl, .mx ⟨.t _, .os rfl, .os rfl, trivial⟩⟩, ⟨_, rfl, rfl, rfl, .tr _⟩, ⟨_, rfl, rfl, rfl, .tr _⟩, trivial⟩, ⟨.op rfl, .t _, .op rfl, .t _, trivial⟩⟩⟩
      refine PT.seg ?_
      refine PR.rdE rfl rfl (Rd.loadBox rfl rfl rfl) ?_
      refine PR.nil ?_
      refine PT.fork ?_ ?_
      · refine PT.seg ?_
        refine PR.rdE rfl rfl (Rd.loadBox rfl rfl rfl) ?_
        refine PR.callM true [] (w_S_ReleasePages N r2.1 r2.2 r6 h_7) rfl Try.call39 rfl ⟨.aggL ⟨.t _, .t _, .own rfl (by first | decide | exact List.not_mem_nil) rfl rfl, trivial⟩, .t _, trivial⟩ rfl trivial (fun _ => ⟨⟨trivial, trivial, trivial, trivial⟩, (flat_cons flat_ow (flat_cons flat_ow flat_nil))⟩) rfl ?_
        refine PR.nm (.agg [iA r6.pages, .os 5 0 r6.free.length, .os 6 0 r6.held.length]) [some ⟨.tr (eL r2.1.held), 42, 2⟩, some ⟨.mx [iA r2.1.pages, sL r2.1.free, .os 0 0 r2.1.held.length], 30, 0⟩, some ⟨.tr (eL r4.free), 3, 1⟩, some ⟨.tr (eL r4.held), 42, 2⟩, some ⟨.mx [iA r4.pages, .os 2 0 r4.free.length, .os 3 0 r4.held.length], 30, 0⟩, some ⟨.tr (eL r6.free), 3, 1⟩, some ⟨.tr (eL r6.held), 42, 2⟩] rfl rfl ?_
        refine PR.callM true [] (w_L_equalSpace N r4 r6 r8 h_9) rfl Try.call35 rfl ⟨.aggL ⟨.t _, .own rfl (by first | decide | exact List.not_mem_nil) rfl rfl, .own rfl (by first | decide | exact List.not_mem_nil) rfl rfl, trivial⟩, .aggL ⟨.t _, .own rfl (by first | decide | exact List.not_mem_nil) rfl rfl, .own rfl (by first | decide | exact List.not_mem_nil) rfl rfl, trivial⟩, trivial⟩ rfl trivial (fun _ => ⟨trivial, flat_nil⟩) rfl ?_
        refine PR.op rfl (Rd.unnot rfl) ?_
        refine PR.op rfl (Rd.moveT rfl) ?_
        refine PR.guard_off rfl rfl (not_f h_10) ?_
        refine PR.guard_off rfl rfl (not_f h_10) ?_
        refine PR.guard_off rfl rfl (not_f h_10) ?_
        refine PR.op rfl (Rd.pick_t rfl (not_f h_10)) ?_
        refine PR.op rfl (Rd.moveT rfl) ?_
        refine PR.guard_off rfl rfl rfl ?_
        refine PR.guard_off rfl rfl rfl ?_
        refine PR.op rfl (Rd.pick_t rfl rfl) ?_
        refine PR.nil ?_
        refine PT.done ?_
        refine PL.nil ?_
        refine thA_n ?_
        exact ⟨(), trivial, [some 1, some 0, some 4, some 2, some 3], ⟨rfl, rfl, ⟨⟨_, rfl, rfl, rfl, .mx ⟨.t _, .t _, .os rfl, trivial⟩⟩, ⟨_, rfl, rfl, rfl, .tr _⟩, ⟨_, rfl, rfl, rfl, .mx ⟨.t _, .os rfl, .os rfl, trivial⟩⟩, ⟨_, rfl, rfl, rfl, .tr _⟩, ⟨_, rfl, rfl, rfl, .tr _⟩, trivial⟩, ⟨.op rfl, .t _, .op rfl, .t _, trivial⟩⟩⟩
      refine PT.seg ?_
      refine PR.callM true [] (w_S_ReleasePages N r2.1 r2.2 r6 h_7) rfl Try.call39 rfl ⟨.aggL ⟨.t _, .t _, .own rfl (by first | decide | exact List.not_mem_nil) rfl rfl, trivial⟩, .t _, trivial⟩ rfl trivial (fun _ => ⟨⟨trivial, trivial, trivial, trivial⟩, (flat_cons flat_ow (flat_cons flat_ow flat_nil))⟩) rfl ?_
      refine PR.nm (.agg [iA r6.pages, .os 5 0 r6.free.length, .os 6 0 r6.held.length]) [some ⟨.tr (eL r2.1.held), 42, 2⟩, some ⟨.mx [iA r2.1.pages, sL r2.1.free, .os 0 0 r2.1.held.length], 30, 0⟩, some ⟨.tr (eL r4.free), 3, 1⟩, some ⟨.tr (eL r4.held), 42, 2⟩, some ⟨.mx [iA r4.pages, .os 2 0 r4.free.length, .os 3 0 r4.held.length], 30, 0⟩, some ⟨.tr (eL r6.free), 3, 1⟩, some ⟨.tr (eL r6.held), 42, 2⟩] rfl rfl ?_
      refine PR.rdE rfl rfl (Rd.loadBox rfl rfl rfl) ?_
      refine PR.callM true [] (w_L_equalSpace N r4 r6 r8 h_9) rfl Try.call35 rfl ⟨.aggL ⟨.t _, .own rfl (by first | decide | exact List.not_mem_nil) rfl rfl, .own rfl (by first | decide | exact List.not_mem_nil) rfl rfl, trivial⟩, .aggL ⟨.t _, .own rfl (by first | decide | exact List.not_mem_nil) rfl rfl, .own rfl (by first | decide | exact List.not_mem_nil) rfl rfl, trivial⟩, trivial⟩ rfl trivial (fun _ => ⟨trivial, flat_nil⟩) rfl ?_
      refine PR.op rfl (Rd.unnot rfl) ?_
      refine PR.op rfl (Rd.moveT rfl) ?_
      refine PR.guard_off rfl rfl (not_f h_10) ?_
      refine PR.guard_off rfl rfl (not_f h_10) ?_
      refine PR.guard_off rfl rfl (not_f h_10) ?_
      refine PR.op rfl (Rd.pick_t rfl (not_f h_10)) ?_
      refine PR.op rfl (Rd.moveT rfl) ?_
      refine PR.guard_off rfl rfl rfl ?_
      refine PR.guard_off rfl rfl rfl ?_
      refine PR.op rfl (Rd.pick_t rfl rfl) ?_
      refine PR.nil ?_
      refine PT.done ?_
      refine PL.nil ?_
      refine thA_n ?_
      exact ⟨(), trivial, [some 1, some 0, some 4, some 2, some 3], ⟨rfl, rfl, ⟨⟨_, rfl, rfl, rfl, .mx ⟨.t _, .t _, .os rfl, trivial⟩⟩, ⟨_, rfl, rfl, rfl, .tr _⟩, ⟨_, rfl, rfl, rfl, .mx ⟨.t _, .os rfl, .os rfl, trivial⟩⟩, ⟨_, rfl, rfl, rfl, .tr _⟩, ⟨_, rfl, rfl, rfl, .tr _⟩, trivial⟩, ⟨.op rfl, .t _, .op rfl, .t _, trivial⟩⟩⟩
    rintro ⟨⟩ -
    refine PC.cond_true rfl rfl ?_
    obtain ⟨r42, h_43, hh0⟩ := bind_some hh0
    obtain ⟨r44, h_45, hh0⟩ := bind_some hh0
    refine PC.cut hs (fun _ : Unit => [(2, bA r44)]) (fun _ => []) (fun _ => True) ?_ ?_
    · refine PC.any (id := 6) 6 (.seg [2] (.fork (.seg [0, 1, 3, 4, 5] .done) (.seg [1] (.fork (.seg [0, 3, 4, 5] .done) (.seg [3, 0, 4, 5] .done))))) [] rfl (by kernel_rfl) rfl ?_
      refine PT.seg ?_
      refine PR.op rfl (Rd.moveT rfl) ?_
      refine PR.nil ?_
      refine PT.fork ?_ ?_
      · refine PT.seg ?_
        refine PR.rdE rfl rfl (Rd.loadBox rfl rfl rfl) ?_
        refine PR.rdE rfl rfl (Rd.loadBox rfl rfl rfl) ?_
        refine PR.callM true [] (w_S_ReleasePages N r2.1 r2.2 r42 h_43) rfl Try.call39 rfl ⟨.aggL ⟨.t _, .t _, .own rfl (by first | decide | exact List.not_mem_nil) rfl rfl, trivial⟩, .t _, trivial⟩ rfl trivial (fun _ => ⟨⟨trivial, trivial, trivial, trivial⟩, (flat_cons flat_ow (flat_cons flat_ow flat_nil))⟩) rfl ?_
        refine PR.nm (.agg [iA r42.pages, .os 5 0 r42.free.length, .os 6 0 r42.held.length]) [some ⟨.mx [iA r2.1.pages, sL r2.1.free, .os 1 0 r2.1.held.length], 30, 0⟩, some ⟨.tr (eL r2.1.held), 42, 2⟩, some ⟨.mx [iA r4.pages, .os 3 0 r4.free.length, .os 4 0 r4.held.length], 30, 0⟩, some ⟨.tr (eL r4.free), 3, 1⟩, some ⟨.tr (eL r4.held), 42, 2⟩, some ⟨.tr (eL r42.free), 3, 1⟩, some ⟨.tr (eL r42.held), 42, 2⟩] rfl rfl ?_
        refine PR.callM true [] (w_L_equalSpace N r4 r42 r44 h_45) rfl Try.call35 rfl ⟨.aggL ⟨.t _, .own rfl (by first | decide | exact List.not_mem_nil) rfl rfl, .own rfl (by first | decide | exact List.not_mem_nil) rfl rfl, trivial⟩, .aggL ⟨.t _, .own rfl (by first | decide | exact List.not_mem_nil) rfl rfl, .own rfl (by first | decide | exact List.not_mem_nil) rfl rfl, trivial⟩, trivial⟩ rfl trivial (fun _ => ⟨trivial, flat_nil⟩) rfl ?_
        refine PR.op rfl (Rd.asnT rfl) ?_
        refine PR.nil ?_
        refine PT.done ?_
        refine PL.nil ?_
        refine thA_n ?_
        exact ⟨(), trivial, [], ⟨rfl, rfl, trivial, ⟨.t _, trivial⟩⟩⟩
      refine PT.seg ?_
      refine PR.rdE rfl rfl (Rd.loadBox rfl rfl rfl) ?_
      refine PR.nil ?_
      refine PT.fork ?_ ?_
      · refine PT.seg ?_
        refine PR.rdE rfl rfl (Rd.loadBox rfl rfl rfl) ?_
        refine PR.callM true [] (w_S_ReleasePages N r2.1 r2.2 r42 h_43) rfl Try.call39 rfl ⟨.aggL ⟨.t _, .t _, .own rfl (by first | decide | exact List.not_mem_nil) rfl rfl, trivial⟩, .t _, trivial⟩ rfl trivial (fun _ => ⟨⟨trivial, trivial, trivial, trivial⟩, (flat_cons flat_ow (flat_cons flat_ow flat_nil))⟩) rfl ?_
        refine PR.nm (.agg [iA r42.pages, .os 5 0 r42.free.length, .os 6 0 r42.held.length]) [some ⟨.mx [iA r2.1.pages, sL r2.1.free, .os 1 0 r2.1.held.length], 30, 0⟩, some ⟨.tr (eL r2.1.held), 42, 2⟩, some ⟨.mx [iA r4.pages, .os 3 0 r4.free.length, .os 4 0 r4.held.length], 30, 0⟩, some ⟨.tr (eL r4.free), 3, 1⟩, some ⟨.tr (eL r4.held), 42, 2⟩, some ⟨.tr (eL r42.free), 3, 1⟩, some ⟨.tr (eL r42.held), 42, 2⟩] rfl rfl ?_
        refine PR.callM true [] (w_L_equalSpace N r4 r42 r44 h_45) rfl Try.call35 rfl ⟨.aggL ⟨.t _, .own rfl (by first | decide | exact List.not_mem_nil) rfl rfl, .own rfl (by first | decide | exact List.not_mem_nil) rfl rfl, trivial⟩, .aggL ⟨.t _, .own rfl (by first | decide | exact List.not_mem_nil) rfl rfl, .own rfl (by first | decide | exact List.not_mem_nil) rfl rfl, trivial⟩, trivial⟩ rfl trivial (fun _ => ⟨trivial, flat_nil⟩) rfl ?_
        refine PR.op rfl (Rd.asnT rfl) ?_
        refine PR.nil ?_
        refine PT.done ?_
        refine PL.nil ?_
        refine thA_n ?_
        exact ⟨(), trivial, [], ⟨rfl, rfl, trivial, ⟨.t _, trivial⟩⟩⟩
      refine PT.seg ?_
      refine PR.callM true [] (w_S_ReleasePages N r2.1 r2.2 r42 h_43) rfl Try.call39 rfl ⟨.aggL ⟨.t _, .t _, .own rfl (by first | decide | exact List.not_mem_nil) rfl rfl, trivial⟩, .t _, trivial⟩ rfl trivial (fun _ => ⟨⟨trivial, trivial, trivial, trivial⟩, (flat_cons flat_ow (flat_cons flat_ow flat_nil))⟩) rfl ?_
      refine PR.nm (.agg [iA r42.pages, .os 5 0 r42.free.length, .os 6 0 r42.held.length]) [some ⟨.mx [iA r2.1.pages, sL r2.1.free, .os 1 0 r2.1.held.length], 30, 0⟩, some ⟨.tr (eL r2.1.held), 42, 2⟩, some ⟨.mx [iA r4.pages, .os 3 0 r4.free.length, .os 4 0 r4.held.length], 30, 0⟩, some ⟨.tr (eL r4.free), 3, 1⟩, some ⟨.tr (eL r4.held), 42, 2⟩, some ⟨.tr (eL r42.free), 3, 1⟩, some ⟨.tr (eL r42.held), 42, 2⟩] rfl rfl ?_
      refine PR.rdE rfl rfl (Rd.loadBox rfl rfl rfl) ?_
      refine PR.callM true [] (w_L_equalSpace N r4 r42 r44 h_45) rfl Try.call35 rfl ⟨.aggL ⟨.t _, .own rfl (by first | decide | exact List.not_mem_nil) rfl rfl, .own rfl (by first | decide | exact List.not_mem_nil) rfl rfl, trivial⟩, .aggL ⟨.t _, .own rfl (by first | decide | exact List.not_mem_nil) rfl rfl, .own rfl (by first | decide | exact List.not_mem_nil) rfl rfl, trivial⟩, trivial⟩ rfl trivial (fun _ => ⟨trivial, flat_nil⟩) rfl ?_
      refine PR.op rfl (Rd.asnT rfl) ?_
      refine PR.nil ?_
      refine PT.done ?_
      refine PL.nil ?_
      refine thA_n ?_
      exact ⟨(), trivial, [], ⟨rfl, rfl, trivial, ⟨.t _, trivial⟩⟩⟩
    rintro ⟨⟩ -
    refine PC.ret ?_
    refine thA_r ?_
    obtain rfl := some_in hh0
    exact FinA.mk (r := bA r44) (bl := []) [] (.inl rfl) rfl (rl := [.tmp 2]) (.tmp .nil) rfl rfl rfl (.t _) trivial ⟨rfl, rfl⟩
  obtain ⟨r11, h_12, hh0⟩ := bind_some hh0
  rcases cond_some hh0 with ⟨h_13, hh0⟩ | ⟨h_13, hh0⟩
  rotate_left
  · refine PC.cut hs (fun _ : Unit => [(3, .op 0 0), (4, iA r2.2), (5, .op 2 0), (32, bA true)]) (fun _ => [⟨.mx [iA r2.1.pages, sL r2.1.free, .os 1 0 r2.1.held.length], 30, 0⟩, ⟨.tr (eL r2.1.held), 42, 2⟩, ⟨.mx [iA r4.pages, .os 3 0 r4.free.length, .os 4 0 r4.held.length], 30, 0⟩, ⟨.tr (eL r4.free), 3, 1⟩, ⟨.tr (eL r4.held), 42, 2⟩]) (fun _ => True) ?_ ?_
    · refine PC.any (id := 5) 15 (.seg [2] (.fork (.seg [0, 1, 3, 4, 5, 6, 7, 8, 9, 10, 11, 12, 13, 14] .done) (.seg [1] (.fork (.seg [0, 3, 4, 5, 6, 7, 8, 9, 10, 11, 12, 13, 14] .done) (.seg [3, 0, 4, 5, 6, 7, 8, 9, 10, 11, 12, 13, 14] .done))))) [] rfl (by kernel_rfl) rfl ?_
      refine PT.seg ?_
      refine PR.op rfl (Rd.moveT rfl) ?_
      refine PR.nil ?_
      refine PT.fork ?_ ?_
      · refine PT.seg ?_
        refine PR.rdE rfl rfl (Rd.loadBox rfl rfl rfl) ?_
        refine PR.rdE rfl rfl (Rd.loadBox rfl rfl rfl) ?_
        refine PR.callM true [] (w_S_ReleasePages N r2.1 r2.2 r6 h_7) rfl Try.call39 rfl ⟨.aggL ⟨.t _, .t _, .own rfl (by first | decide | exact List.not_mem_nil) rfl rfl, trivial⟩, .t _, trivial⟩ rfl trivial (fun _ => ⟨⟨trivial, trivial, trivial, trivial⟩, (flat_cons flat_ow (flat_cons flat_ow flat_nil))⟩) rfl ?_
        refine PR.nm (.agg [iA r6.pages, .os 5 0 r6.free.length, .os 6 0 r6.held.length]) [some ⟨.tr (eL r2.1.held), 42, 2⟩, some ⟨.mx [iA r2.1.pages, sL r2.1.free, .os 0 0 r2.1.held.length], 30, 0⟩, some ⟨.tr (eL r4.free), 3, 1⟩, some ⟨.tr (eL r4.held), 42, 2⟩, some ⟨.mx [iA r4.pages, .os 2 0 r4.free.length, .os 3 0 r4.held.length], 30, 0⟩, some ⟨.tr (eL r6.free), 3, 1⟩, some ⟨.tr (eL r6.held), 42, 2⟩] rfl rfl ?_
        refine PR.callM true [] (w_L_equalSpace N r4 r6 r8 h_9) rfl Try.call35 rfl ⟨.aggL ⟨.t _, .own rfl (by first | decide | exact List.not_mem_nil) rfl rfl, .own rfl (by first | decide | exact List.not_mem_nil) rfl rfl, trivial⟩, .aggL ⟨.t _, .own rfl (by first | decide | exact List.not_mem_nil) rfl rfl, .own rfl (by first | decide | exact List.not_mem_nil) rfl rfl, trivial⟩, trivial⟩ rfl trivial (fun _ => ⟨trivial, flat_nil⟩) rfl ?_
        refine PR.op rfl (Rd.unnot rfl) ?_
        refine PR.op rfl (Rd.moveT rfl) ?_
        refine PR.guard_on rfl rfl (not_t h_10) ?_
        refine PR.rdE rfl rfl (Rd.loadBox rfl rfl rfl) ?_
        refine PR.guard_on rfl rfl (not_t h_10) ?_
        refine PR.callM true [] (w_I_ValidSpace N r2.1 r11 h_12) rfl Try.call17 rfl ⟨.aggL ⟨.t _, .t _, .own rfl (by first | decide | exact List.not_mem_nil) rfl rfl, trivial⟩, trivial⟩ rfl trivial (fun _ => ⟨trivial, flat_nil⟩) rfl ?_
        refine PR.guard_on rfl rfl (not_t h_10) ?_
        refine PR.op rfl (Rd.unnot rfl) ?_
        refine PR.op rfl (Rd.pick_f rfl (not_t h_10)) ?_
        refine PR.op rfl (Rd.moveT rfl) ?_
        refine PR.guard_off rfl rfl (not_f h_13) ?_
        refine PR.guard_off rfl rfl (not_f h_13) ?_
        refine PR.op rfl (Rd.pick_t rfl (not_f h_13)) ?_
        refine PR.nil ?_
        refine PT.done ?_
        refine PL.nil ?_
        refine thA_n ?_
        exact ⟨(), trivial, [some 1, some 0, some 4, some 2, some 3], ⟨rfl, rfl, ⟨⟨_, rfl, rfl, rfl, .mx ⟨.t _, .t _, .os rfl, trivial⟩⟩, ⟨_, rfl, rfl, rfl, .tr _⟩, ⟨_, rfl, rfl, rfl, .mx ⟨.t _, .os rfl, .os rfl, trivial⟩⟩, ⟨_, rfl, rfl, rfl, .tr _⟩, ⟨_, rfl, rfl, rfl, .tr _⟩, trivial⟩, ⟨.op rfl, .t _, .op rfl, .t _, trivial⟩⟩⟩
      refine PT.seg ?_
      refine PR.rdE rfl rfl (Rd.loadBox rfl rfl rfl) ?_
      refine PR.nil ?_
      refine PT.fork ?_ ?_
      · refine PT.seg ?_
        refine PR.rdE rfl rfl (Rd.loadBox rfl rfl rfl) ?_
        refine PR.callM true [] (w_S_ReleasePages N r2.1 r2.2 r6 h_7) rfl Try.call39 rfl ⟨.aggL ⟨.t _, .t _, .own rfl (by first | decide | exact List.not_mem_nil) rfl rfl, trivial⟩, .t _, trivial⟩ rfl trivial (fun _ => ⟨⟨trivial, trivial, trivial, trivial⟩, (flat_cons flat_ow (flat_cons flat_ow flat_nil))⟩) rfl ?_
        refine PR.nm (.agg [iA r6.pages, .os 5 0 r6.free.length, .os 6 0 r6.held.length]) [some ⟨.tr (eL r2.1.held), 42, 2⟩, some ⟨.mx [iA r2.1.pages, sL r2.1.free, .os 0 0 r2.1.held.length], 30, 0⟩, some ⟨.tr (eL r4.free), 3, 1⟩, some ⟨.tr (eL r4.held), 42, 2⟩, some ⟨.mx [iA r4.pages, .os 2 0 r4.free.length, .os 3 0 r4.held.length], 30, 0⟩, some ⟨.tr (eL r6.free), 3, 1⟩, some ⟨.tr (eL r6.held), 42, 2⟩] rfl rfl ?_
        refine PR.callM true [] (w_L_equalSpace N r4 r6 r8 h_9) rfl Try.call35 rfl ⟨.aggL ⟨.t _, .own rfl (by first | decide | exact List.not_mem_nil) rfl rfl, .own rfl (by first | decide | exact List.not_mem_nil) rfl rfl, trivial⟩, .aggL ⟨.t _, .own rfl (by first | decide | exact List.not_mem_nil) rfl rfl, .own rfl (by first | decide | exact List.not_mem_nil) rfl rfl, trivial⟩, trivial⟩ rfl trivial (fun _ => ⟨trivial, flat_nil⟩) rfl ?_
        refine PR.op rfl (Rd.unnot rfl) ?_
        refine PR.op rfl (Rd.moveT rfl) ?_
        refine PR.guard_on rfl rfl (not_t h_10) ?_
        refine PR.rdE rfl rfl (Rd.loadBox rfl rfl rfl) ?_
        refine PR.guard_on rfl rfl (not_t h_10) ?_
        refine PR.callM true [] (w_I_ValidSpace N r2.1 r11 h_12) rfl Try.call17 rfl ⟨.aggL ⟨.t _, .t _, .own rfl (by first | decide | exact List.not_mem_nil) rfl rfl, trivial⟩, trivial⟩ rfl trivial (fun _ => ⟨trivial, flat_nil⟩) rfl ?_
        refine PR.guard_on rfl rfl (not_t h_10) ?_
        refine PR.op rfl (Rd.unnot rfl) ?_
        refine PR.op rfl (Rd.pick_f rfl (not_t h_10)) ?_
        refine PR.op rfl (Rd.moveT rfl) ?_
        refine PR.guard_off rfl rfl (not_f h_13) ?_
        refine PR.guard_off rfl rfl (not_f h_13) ?_
        refine PR.op rfl (Rd.pick_t rfl (not_f h_13)) ?_
        refine PR.nil ?_
        refine PT.done ?_
        refine PL.nil ?_
        refine thA_n ?_
        exact ⟨(), trivial, [some 1, some 0, some 4, some 2, some 3], ⟨rfl, rfl, ⟨⟨_, rfl, rfl, rfl, .mx ⟨.t _, .t _, .os rfl, trivial⟩⟩, ⟨_, rfl, rfl, rfl, .tr _⟩, ⟨_, rfl, rfl, rfl, .mx ⟨.t _, .os rfl, .os rfl, trivial⟩⟩, ⟨_, rfl, rfl, rfl, .tr _⟩, ⟨_, rfl, rfl, rfl, .tr _⟩, trivial⟩, ⟨.op rfl, .t _, .op rfl, .t _, trivial⟩⟩⟩
      refine PT.seg ?_
      refine PR.callM true [] (w_S_ReleasePages N r2.1 r2.2 r6 h_7) rfl Try.call39 rfl ⟨.aggL ⟨.t _, .t _, .own rfl (by first | decide | exact List.not_mem_nil) rfl rfl, trivial⟩, .t _, trivial⟩ rfl trivial (fun _ => ⟨⟨trivial, trivial, trivial, trivial⟩, (flat_cons flat_ow (flat_cons flat_ow flat_nil))⟩) rfl ?_
      refine PR.nm (.agg [iA r6.pages, .os 5 0 r6.free.length, .os 6 0 r6.held.length]) [some ⟨.tr (eL r2.1.held), 42, 2⟩, some ⟨.mx [iA r2.1.pages, sL r2.1.free, .os 0 0 r2.1.held.length], 30, 0⟩, some ⟨.tr (eL r4.free), 3, 1⟩, some ⟨.tr (eL r4.held), 42, 2⟩, some ⟨.mx [iA r4.pages, .os 2 0 r4.free.length, .os 3 0 r4.held.length], 30, 0⟩, some ⟨.tr (eL r6.free), 3, 1⟩, some ⟨.tr (eL r6.held), 42, 2⟩] rfl rfl ?_
      refine PR.rdE rfl rfl (Rd.loadBox rfl rfl rfl) ?_
      refine PR.callM true [] (w_L_equalSpace N r4 r6 r8 h_9) rfl Try.call35 rfl ⟨.aggL ⟨.t _, .own rfl (by first | decide | exact List.not_mem_nil) rfl rfl, .own rfl (by first | decide | exact List.not_mem_nil) rfl rfl, trivial⟩, .aggL ⟨.t _, .own rfl (by first | decide | exact List.not_mem_nil) rfl rfl, .own rfl (by first | decide | exact List.not_mem_nil) rfl rfl, trivial⟩, trivial⟩ rfl trivial (fun _ => ⟨trivial, flat_nil⟩) rfl ?_
      refine PR.op rfl (Rd.unnot rfl) ?_
      refine PR.op rfl (Rd.moveT rfl) ?_
      refine PR.guard_on rfl rfl (not_t h_10) ?_
      refine PR.rdE rfl rfl (Rd.loadBox rfl rfl rfl) ?_
      refine PR.guard_on rfl rfl (not_t h_10) ?_
      refine PR.callM true [] (w_I_ValidSpace N r2.1 r11 h_12) rfl Try.call17 rfl ⟨.aggL ⟨.t _, .t _, .own rfl (by first | decide | exact List.not_mem_nil) rfl rfl, trivial⟩, trivial⟩ rfl trivial (fun _ => ⟨trivial, flat_nil⟩) rfl ?_
      refine PR.guard_on rfl rfl (not_t h_10) ?_
      refine PR.op rfl (Rd.unnot rfl) ?_
      refine PR.op rfl (Rd.pick_f rfl (not_t h_10)) ?_
      refine PR.op rfl (Rd.moveT rfl) ?_
      refine PR.guard_off rfl rfl (not_f h_13) ?_
      refine PR.guard_off rfl rfl (not_f h_13) ?_
      refine PR.op rfl (Rd.pick_t rfl (not_f h_13)) ?_
      refine PR.nil ?_
      refine PT.done ?_
      refine PL.nil ?_
      refine thA_n ?_
      exact ⟨(), trivial, [some 1, some 0, some 4, some 2, some 3], ⟨rfl, rfl, ⟨⟨_, rfl, rfl, rfl, .mx ⟨.t _, .t _, .os rfl, trivial⟩⟩, ⟨_, rfl, rfl, rfl, .tr _⟩, ⟨_, rfl, rfl, rfl, .mx ⟨.t _, .os rfl, .os rfl, trivial⟩⟩, ⟨_, rfl, rfl, rfl, .tr _⟩, ⟨_, rfl, rfl, rfl, .tr _⟩, trivial⟩, ⟨.op rfl, .t _, .op rfl, .t _, trivial⟩⟩⟩
    rintro ⟨⟩ -
    refine PC.cond_true rfl rfl ?_
    obtain ⟨r38, h_39, hh0⟩ := bind_some hh0
    obtain ⟨r40, h_41, hh0⟩ := bind_some hh0
    refine PC.cut hs (fun _ : Unit => [(2, bA r40)]) (fun _ => []) (fun _ => True) ?_ ?_
    · refine PC.any (id := 6) 6 (.seg [2] (.fork (.seg [0, 1, 3, 4, 5] .done) (.seg [1] (.fork (.seg [0, 3, 4, 5] .done) (.seg [3, 0, 4, 5] .done))))) [] rfl (by kernel_rfl) rfl ?_
      refine PT.seg ?_
      refine PR.op rfl (Rd.moveT rfl) ?_
      refine PR.nil ?_
      refine PT.fork ?_ ?_
      · refine PT.seg ?_
        refine PR.rdE rfl rfl (Rd.loadBox rfl rfl rfl) ?_
        refine PR.rdE rfl rfl (Rd.loadBox rfl rfl rfl) ?_
        refine PR.callM true [] (w_S_ReleasePages N r2.1 r2.2 r38 h_39) rfl Try.call39 rfl ⟨.aggL ⟨.t _, .t _, .own rfl (by first | decide | exact List.not_mem_nil) rfl rfl, trivial⟩, .t _, trivial⟩ rfl trivial (fun _ => ⟨⟨trivial, trivial, trivial, trivial⟩, (flat_cons flat_ow (flat_cons flat_ow flat_nil))⟩) rfl ?_
        refine PR.nm (.agg [iA r38.pages, .os 5 0 r38.free.length, .os 6 0 r38.held.length]) [some ⟨.mx [iA r2.1.pages, sL r2.1.free, .os 1 0 r2.1.held.length], 30, 0⟩, some ⟨.tr (eL r2.1.held), 42, 2⟩, some ⟨.mx [iA r4.pages, .os 3 0 r4.free.length, .os 4 0 r4.held.length], 30, 0⟩, some ⟨.tr (eL r4.free), 3, 1⟩, some ⟨.tr (eL r4.held), 42, 2⟩, some ⟨.tr (eL r38.free), 3, 1⟩, some ⟨.tr (eL r38.held), 42, 2⟩] rfl rfl ?_
        refine PR.callM true [] (w_L_equalSpace N r4 r38 r40 h_41) rfl Try.call35 rfl ⟨.aggL ⟨.t _, .own rfl (by first | decide | exact List.not_mem_nil) rfl rfl, .own rfl (by first | decide | exact List.not_mem_nil) rfl rfl, trivial⟩, .aggL ⟨.t _, .own rfl (by first | decide | exact List.not_mem_nil) rfl rfl, .own rfl (by first | decide | exact List.not_mem_nil) rfl rfl, trivial⟩, trivial⟩ rfl trivial (fun _ => ⟨trivial, flat_nil⟩) rfl ?_
        refine PR.op rfl (Rd.asnT rfl) ?_
        refine PR.nil ?_
        refine PT.done ?_
        refine PL.nil ?_
        refine thA_n ?_
        exact ⟨(), trivial, [], ⟨rfl, rfl, trivial, ⟨.t _, trivial⟩⟩⟩
      refine PT.seg ?_
      refine PR.rdE rfl rfl (Rd.loadBox rfl rfl rfl) ?_
      refine PR.nil ?_
      refine PT.fork ?_ ?_
      · refine PT.seg ?_
        refine PR.rdE rfl rfl (Rd.loadBox rfl rfl rfl) ?_
        refine PR.callM true [] (w_S_ReleasePages N r2.1 r2.2 r38 h_39) rfl Try.call39 rfl ⟨.aggL ⟨.t _, .t _, .own rfl (by first | decide | exact List.not_mem_nil) rfl rfl, trivial⟩, .t _, trivial⟩ rfl trivial (fun _ => ⟨⟨trivial, trivial, trivial, trivial⟩, (flat_cons flat_ow (flat_cons flat_ow flat_nil))⟩) rfl ?_
        refine PR.nm (.agg [iA r38.pages, .os 5 0 r38.free.length, .os 6 0 r38.held.length]) [some ⟨.mx [iA r2.1.pages, sL r2.1.free, .os 1 0 r2.1.held.length], 30, 0⟩, some ⟨.tr (eL r2.1.held), 42, 2⟩, some ⟨.mx [iA r4.pages, .os 3 0 r4.free.length, .os 4 0 r4.held.length], 30, 0⟩, some ⟨.tr (eL r4.free), 3, 1⟩, some ⟨.tr (eL r4.held), 42, 2⟩, some ⟨.tr (eL r38.free), 3, 1⟩, some ⟨.tr (eL r38.held), 42, 2⟩] rfl rfl ?_
        refine PR.callM true [] (w_L_equalSpace N r4 r38 r40 h_41) rfl Try.call35 rfl ⟨.aggL ⟨.t _, .own rfl (by first | decide | exact List.not_mem_nil) rfl rfl, .own rfl (by first | decide | exact List.not_mem_nil) rfl rfl, trivial⟩, .aggL ⟨.t _, .own rfl (by first | decide | exact List.not_mem_nil) rfl rfl, .own rfl (by first | decide | exact List.not_mem_nil) rfl rfl, trivial⟩, trivial⟩ rfl trivial (fun _ => ⟨trivial, flat_nil⟩) rfl ?_
        refine PR.op rfl (Rd.asnT rfl) ?_
        refine PR.nil ?_
        refine PT.done ?_
        refine PL.nil ?_
        refine thA_n ?_
        exact ⟨(), trivial, [], ⟨rfl, rfl, trivial, ⟨.t _, trivial⟩⟩⟩
      refine PT.seg ?_
      refine PR.callM true [] (w_S_ReleasePages N r2.1 r2.2 r38 h_39) rfl Try.call39 rfl ⟨.aggL ⟨.t _, .t _, .own rfl (by first | decide | exact List.not_mem_nil) rfl rfl, trivial⟩, .t _, trivial⟩ rfl trivial (fun _ => ⟨⟨trivial, trivial, trivial, trivial⟩, (flat_cons flat_ow (flat_cons flat_ow flat_nil))⟩) rfl ?_
      refine PR.nm (.agg [iA r38.pages, .os 5 0 r38.free.length, .os 6 0 r38.held.length]) [some ⟨.mx [iA r2.1.pages, sL r2.1.free, .os 1 0 r2.1.held.length], 30, 0⟩, some ⟨.tr (eL r2.1.held), 42, 2⟩, some ⟨.mx [iA r4.pages, .os 3 0 r4.free.length, .os 4 0 r4.held.length], 30, 0⟩, some ⟨.tr (eL r4.free), 3, 1⟩, some ⟨.tr (eL r4.held), 42, 2⟩, some ⟨.tr (eL r38.free), 3, 1⟩, some ⟨.tr (eL r38.held), 42, 2⟩] rfl rfl ?_
      refine PR.rdE rfl rfl (Rd.loadBox rfl rfl rfl) ?_
      refine PR.callM true [] (w_L_equalSpace N r4 r38 r40 h_41) rfl Try.call35 rfl ⟨.aggL ⟨.t _, .own rfl (by first | decide | exact List.not_mem_nil) rfl rfl, .own rfl (by first | decide | exact List.not_mem_nil) rfl rfl, trivial⟩, .aggL ⟨.t _, .own rfl (by first | decide | exact List.not_mem_nil) rfl rfl, .own rfl (by first | decide | exact List.not_mem_nil) rfl rfl, trivial⟩, trivial⟩ rfl trivial (fun _ => ⟨trivial, flat_nil⟩) rfl ?_
      refine PR.op rfl (Rd.asnT rfl) ?_
      refine PR.nil ?_
      refine PT.done ?_
      refine PL.nil ?_
      refine thA_n ?_
      exact ⟨(), trivial, [], ⟨rfl, rfl, trivial, ⟨.t _, trivial⟩⟩⟩
    rintro ⟨⟩ -
    refine PC.ret ?_
    refine thA_r ?_
    obtain rfl := some_in hh0
    exact FinA.mk (r := bA r40) (bl := []) [] (.inl rfl) rfl (rl := [.tmp 2]) (.tmp .nil) rfl rfl rfl (.t _) trivial ⟨rfl, rfl⟩
  refine PC.cut hs (fun _ : Unit => [(3, .op 0 0), (4, iA r2.2), (5, .op 2 0), (32, bA (decide ((989901 : Int) < r2.2)))]) (fun _ => [⟨.mx [iA r2.1.pages, sL r2.1.free, .os 1 0 r2.1.held.length], 30, 0⟩, ⟨.tr (eL r2.1.held), 42, 2⟩, ⟨.mx [iA r4.pages, .os 3 0 r4.free.length, .os 4 0 r4.held.length], 30, 0⟩, ⟨.tr (eL r4.free), 3, 1⟩, ⟨.tr (eL r4.held), 42, 2⟩]) (fun _ => True) ?_ ?_
  · refine PC.any (id := 5) 15 (.seg [2] (.fork (.seg [0, 1, 3, 4, 5, 6, 7, 8, 9, 10, 11, 12, 13, 14] .done) (.seg [1] (.fork (.seg [0, 3, 4, 5, 6, 7, 8, 9, 10, 11, 12, 13, 14] .done) (.seg [3, 0, 4, 5, 6, 7, 8, 9, 10, 11, 12, 13, 14] .done))))) [] rfl (by kernel_rfl) rfl ?_
    refine PT.seg ?_
    refine PR.op rfl (Rd.moveT rfl) ?_
    refine PR.nil ?_
    refine PT.fork ?_ ?_
    · refine PT.seg ?_
      refine PR.rdE rfl rfl (Rd.loadBox rfl rfl rfl) ?_
      refine PR.rdE rfl rfl (Rd.loadBox rfl rfl rfl) ?_
      refine PR.callM true [] (w_S_ReleasePages N r2.1 r2.2 r6 h_7) rfl Try.call39 rfl ⟨.aggL ⟨.t _, .t _, .own rfl (by first | decide | exact List.not_mem_nil) rfl rfl, trivial⟩, .t _, trivial⟩ rfl trivial (fun _ => ⟨⟨trivial, trivial, trivial, trivial⟩, (flat_cons flat_ow (flat_cons flat_ow flat_nil))⟩) rfl ?_
      refine PR.nm (.agg [iA r6.pages, .os 5 0 r6.free.length, .os 6 0 r6.held.length]) [some ⟨.tr (eL r2.1.held), 42, 2⟩, some ⟨.mx [iA r2.1.pages, sL r2.1.free, .os 0 0 r2.1.held.length], 30, 0⟩, some ⟨.tr (eL r4.free), 3, 1⟩, some ⟨.tr (eL r4.held), 42, 2⟩, some ⟨.mx [iA r4.pages, .os 2 0 r4.free.length, .os 3 0 r4.held.length], 30, 0⟩, some ⟨.tr (eL r6.free), 3, 1⟩, some ⟨.tr (eL r6.held), 42, 2⟩] rfl rfl ?_
      refine PR.callM true [] (w_L_equalSpace N r4 r6 r8 h_9) rfl Try.call35 rfl ⟨.aggL ⟨.t _, .own rfl (by first | decide | exact List.not_mem_nil) rfl rfl, .own rfl (by first | decide | exact List.not_mem_nil) rfl rfl, trivial⟩, .aggL ⟨.t _, .own rfl (by first | decide | exact List.not_mem_nil) rfl rfl, .own rfl (by first | decide | exact List.not_mem_nil) rfl rfl, trivial⟩, trivial⟩ rfl trivial (fun _ => ⟨trivial, flat_nil⟩) rfl ?_
      refine PR.op rfl (Rd.unnot rfl) ?_
      refine PR.op rfl (Rd.moveT rfl) ?_
      refine PR.guard_on rfl rfl (not_t h_10) ?_
      refine PR.rdE rfl rfl (Rd.loadBox rfl rfl rfl) ?_
      refine PR.guard_on rfl rfl (not_t h_10) ?_
      refine PR.callM true [] (w_I_ValidSpace N r2.1 r11 h_12) rfl Try.call17 rfl ⟨.aggL ⟨.t _, .t _, .own rfl (by first | decide | exact List.not_mem_nil) rfl rfl, trivial⟩, trivial⟩ rfl trivial (fun _ => ⟨trivial, flat_nil⟩) rfl ?_
      refine PR.guard_on rfl rfl (not_t h_10) ?_
      refine PR.op rfl (Rd.unnot rfl) ?_
      refine PR.op rfl (Rd.pick_f rfl (not_t h_10)) ?_
      refine PR.op rfl (Rd.moveT rfl) ?_
      refine PR.guard_on rfl rfl (not_t h_13) ?_
      refine PR.op rfl (Rd.moveT rfl) ?_
      refine PR.guard_on rfl rfl (not_t h_13) ?_
      refine PR.op rfl (Rd.gtr rfl rfl) ?_
      refine PR.op rfl (Rd.pick_f rfl (not_t h_13)) ?_
      refine PR.nil ?_
      refine PT.done ?_
      refine PL.nil ?_
      refine thA_n ?_
      exact ⟨(), trivial, [some 1, some 0, some 4, some 2, some 3], ⟨rfl, rfl, ⟨⟨_, rfl, rfl, rfl, .mx ⟨.t _, .t _, .os rfl, trivial⟩⟩, ⟨_, rfl, rfl, rfl, .tr _⟩, ⟨_, rfl, rfl, rfl, .mx ⟨.t _, .os rfl, .os rfl, trivial⟩⟩, ⟨_, rfl, rfl, rfl, .tr _⟩, ⟨_, rfl, rfl, rfl, .tr _⟩, trivial⟩, ⟨.op rfl, .t _, .op rfl, .t _, trivial⟩⟩⟩
    refine PT.seg ?_
    refine PR.rdE rfl rfl (Rd.loadBox rfl rfl rfl) ?_
    refine PR.nil ?_
    refine PT.fork ?_ ?_
    · refine PT.seg ?_
      refine PR.rdE rfl rfl (Rd.loadBox rfl rfl rfl) ?_
      refine PR.callM true [] (w_S_ReleasePages N r2.1 r2.2 r6 h_7) rfl Try.call39 rfl ⟨.aggL ⟨.t _, .t _, .own rfl (by first | decide | exact List.not_mem_nil) rfl rfl, trivial⟩, .t _, trivial⟩ rfl trivial (fun _ => ⟨⟨trivial, trivial, trivial, trivial⟩, (flat_cons flat_ow (flat_cons flat_ow flat_nil))⟩) rfl ?_
      refine PR.nm (.agg [iA r6.pages, .os 5 0 r6.free.length, .os 6 0 r6.held.length]) [some ⟨.tr (eL r2.1.held), 42, 2⟩, some ⟨.mx [iA r2.1.pages, sL r2.1.free, .os 0 0 r2.1.held.length], 30, 0⟩, some ⟨.tr (eL r4.free), 3, 1⟩, some ⟨.tr (eL r4.held), 42, 2⟩, some ⟨.mx [iA r4.pages, .os 2 0 r4.free.length, .os 3 0 r4.held.length], 30, 0⟩, some ⟨.tr (eL r6.free), 3, 1⟩, some ⟨.tr (eL r6.held), 42, 2⟩] rfl rfl ?_
      refine PR.callM true [] (w_L_equalSpace N r4 r6 r8 h_9) rfl Try.call35 rfl ⟨.aggL ⟨.t _, .own rfl (by first | decide | exact List.not_mem_nil) rfl rfl, .own rfl (by first | decide | exact List.not_mem_nil) rfl rfl, trivial⟩, .aggL ⟨.t _, .own rfl (by first | decide | exact List.not_mem_nil) rfl rfl, .own rfl (by first | decide | exact List.not_mem_nil) rfl rfl, trivial⟩, trivial⟩ rfl trivial (fun _ => ⟨trivial, flat_nil⟩) rfl ?_
      refine PR.op rfl (Rd.unnot rfl) ?_
      refine PR.op rfl (Rd.moveT rfl) ?_
      refine PR.guard_on rfl rfl (not_t h_10) ?_
      refine PR.rdE rfl rfl (Rd.loadBox rfl rfl rfl) ?_
      refine PR.guard_on rfl rfl (not_t h_10) ?_
      refine PR.callM true [] (w_I_ValidSpace N r2.1 r11 h_12) rfl Try.call17 rfl ⟨.aggL ⟨.t _, .t _, .own rfl (by first | decide | exact List.not_mem_nil) rfl rfl, trivial⟩, trivial⟩ rfl trivial (fun _ => ⟨trivial, flat_nil⟩) rfl ?_
      refine PR.guard_on rfl rfl (not_t h_10) ?_
      refine PR.op rfl (Rd.unnot rfl) ?_
      refine PR.op rfl (Rd.pick_f rfl (not_t h_10)) ?_
      refine PR.op rfl (Rd.moveT rfl) ?_
      refine PR.guard_on rfl rfl (not_t h_13) ?_
      refine PR.op rfl (Rd.moveT rfl) ?_
      refine PR.guard_on rfl rfl (not_t h_13) ?_
      refine PR.op rfl (Rd.gtr rfl rfl) ?_
      refine PR.op rfl (Rd.pick_f rfl (not_t h_13)) ?_
      refine PR.nil ?_
      refine PT.done ?_
      refine PL.nil ?_
      refine thA_n ?_
      exact ⟨(), trivial, [some 1, some 0, some 4, some 2, some 3], ⟨rfl, rfl, ⟨⟨_, rfl, rfl, rfl, .mx ⟨.t _, .t _, .os rfl, trivial⟩⟩, ⟨_, rfl, rfl, rfl, .tr _⟩, ⟨_, rfl, rfl, rfl, .mx ⟨.t _, .os rfl, .os rfl, trivial⟩⟩, ⟨_, rfl, rfl, rfl, .tr _⟩, ⟨_, rfl, rfl, rfl, .tr _⟩, trivial⟩, ⟨.op rfl, .t _, .op rfl, .t _, trivial⟩⟩⟩
    refine PT.seg ?_
    refine PR.callM true [] (w_S_ReleasePages N r2.1 r2.2 r6 h_7) rfl Try.call39 rfl ⟨.aggL ⟨.t _, .t _, .own rfl (by first | decide | exact List.not_mem_nil) rfl rfl, trivial⟩, .t _, trivial⟩ rfl trivial (fun _ => ⟨⟨trivial, trivial, trivial, trivial⟩, (flat_cons flat_ow (flat_cons flat_ow flat_nil))⟩) rfl ?_
    refine PR.nm (.agg [iA r6.pages, .os 5 0 r6.free.length, .os 6 0 r6.held.length]) [some ⟨.tr (eL r2.1.held), 42, 2⟩, some ⟨.mx [iA r2.1.pages, sL r2.1.free, .os 0 0 r2.1.held.length], 30, 0⟩, some ⟨.tr (eL r4.free), 3, 1⟩, some ⟨.tr (eL r4.held), 42, 2⟩, some ⟨.mx [iA r4.pages, .os 2 0 r4.free.length, .os 3 0 r4.held.length], 30, 0⟩, some ⟨.tr (eL r6.free), 3, 1⟩, some ⟨.tr (eL r6.held), 42, 2⟩] rfl rfl ?_
    refine PR.rdE rfl rfl (Rd.loadBox rfl rfl rfl) ?_
    refine PR.callM true [] (w_L_equalSpace N r4 r6 r8 h_9) rfl Try.call35 rfl ⟨.aggL ⟨.t _, .own rfl (by first | decide | exact List.not_mem_nil) rfl rfl, .own rfl (by first | decide | exact List.not_mem_nil) rfl rfl, trivial⟩, .aggL ⟨.t _, .own rfl (by first | decide | exact List.not_mem_nil) rfl rfl, .own rfl (by first | decide | exact List.not_mem_nil) rfl rfl, trivial⟩, trivial⟩ rfl trivial (fun _ => ⟨trivial, flat_nil⟩) rfl ?_
    refine PR.op rfl (Rd.unnot rfl) ?_
    refine PR.op rfl (Rd.moveT rfl) ?_
    refine PR.guard_on rfl rfl (not_t h_10) ?_
    refine PR.rdE rfl rfl (Rd.loadBox rfl rfl rfl) ?_
    refine PR.guard_on rfl rfl (not_t h_10) ?_
    refine PR.callM true [] (w_I_ValidSpace N r2.1 r11 h_12) rfl Try.call17 rfl ⟨.aggL ⟨.t _, .t _, .own rfl (by first | decide | exact List.not_mem_nil) rfl rfl, trivial⟩, trivial⟩ rfl trivial (fun _ => ⟨trivial, flat_nil⟩) rfl ?_
    refine PR.guard_on rfl rfl (not_t h_10) ?_
    refine PR.op rfl (Rd.unnot rfl) ?_
    refine PR.op rfl (Rd.pick_f rfl (not_t h_10)) ?_
    refine PR.op rfl (Rd.moveT rfl) ?_
    refine PR.guard_on rfl rfl (not_t h_13) ?_
    refine PR.op rfl (Rd.moveT rfl) ?_
    refine PR.guard_on rfl rfl (not_t h_13) ?_
    refine PR.op rfl (Rd.gtr rfl rfl) ?_
    refine PR.op rfl (Rd.pick_f rfl (not_t h_13)) ?_
    refine PR.nil ?_
    refine PT.done ?_
    refine PL.nil ?_
    refine thA_n ?_
    exact ⟨(), trivial, [some 1, some 0, some 4, some 2, some 3], ⟨rfl, rfl, ⟨⟨_, rfl, rfl, rfl, .mx ⟨.t _, .t _, .os rfl, trivial⟩⟩, ⟨_, rfl, rfl, rfl, .tr _⟩, ⟨_, rfl, rfl, rfl, .mx ⟨.t _, .os rfl, .os rfl, trivial⟩⟩, ⟨_, rfl, rfl, rfl, .tr _⟩, ⟨_, rfl, rfl, rfl, .tr _⟩, trivial⟩, ⟨.op rfl, .t _, .op rfl, .t _, trivial⟩⟩⟩
  rintro ⟨⟩ -
  rcases cond_some hh0 with ⟨h_14, hh0⟩ | ⟨h_14, hh0⟩
  · refine PC.cond_true rfl h_14 ?_
    obtain ⟨r15, h_16, hh0⟩ := bind_some hh0
    obtain ⟨r17, h_18, hh0⟩ := bind_some hh0
    refine PC.cut hs (fun _ : Unit => [(2, bA r17)]) (fun _ => []) (fun _ => True) ?_ ?_
    · refine PC.any (id := 6) 6 (.seg [2] (.fork (.seg [0, 1, 3, 4, 5] .done) (.seg [1] (.fork (.seg [0, 3, 4, 5] .done) (.seg [3, 0, 4, 5] .done))))) [] rfl (by kernel_rfl) rfl ?_
      refine PT.seg ?_
      refine PR.op rfl (Rd.moveT rfl) ?_
      refine PR.nil ?_
      refine PT.fork ?_ ?_
      · refine PT.seg ?_
        refine PR.rdE rfl rfl (Rd.loadBox rfl rfl rfl) ?_
        refine PR.rdE rfl rfl (Rd.loadBox rfl rfl rfl) ?_
        refine PR.callM true [] (w_S_ReleasePages N r2.1 r2.2 r15 h_16) rfl Try.call39 rfl ⟨.aggL ⟨.t _, .t _, .own rfl (by first | decide | exact List.not_mem_nil) rfl rfl, trivial⟩, .t _, trivial⟩ rfl trivial (fun _ => ⟨⟨trivial, trivial, trivial, trivial⟩, (flat_cons flat_ow (flat_cons flat_ow flat_nil))⟩) rfl ?_
        refine PR.nm (.agg [iA r15.pages, .os 5 0 r15.free.length, .os 6 0 r15.held.length]) [some ⟨.mx [iA r2.1.pages, sL r2.1.free, .os 1 0 r2.1.held.length], 30, 0⟩, some ⟨.tr (eL r2.1.held), 42, 2⟩, some ⟨.mx [iA r4.pages, .os 3 0 r4.free.length, .os 4 0 r4.held.length], 30, 0⟩, some ⟨.tr (eL r4.free), 3, 1⟩, some ⟨.tr (eL r4.held), 42, 2⟩, some ⟨.tr (eL r15.free), 3, 1⟩, some ⟨.tr (eL r15.held), 42, 2⟩] rfl rfl ?_
        refine PR.callM true [] (w_L_equalSpace N r4 r15 r17 h_18) rfl Try.call35 rfl ⟨.aggL ⟨.t _, .own rfl (by first | decide | exact List.not_mem_nil) rfl rfl, .own rfl (by first | decide | exact List.not_mem_nil) rfl rfl, trivial⟩, .aggL ⟨.t _, .own rfl (by first | decide | exact List.not_mem_nil) rfl rfl, .own rfl (by first | decide | exact List.not_mem_nil) rfl rfl, trivial⟩, trivial⟩ rfl trivial (fun _ => ⟨trivial, flat_nil⟩) rfl ?_
        refine PR.op rfl (Rd.asnT rfl) ?_
        refine PR.nil ?_
        refine PT.done ?_
        refine PL.nil ?_
        refine thA_n ?_
        exact ⟨(), trivial, [], ⟨rfl, rfl, trivial, ⟨.t _, trivial⟩⟩⟩
      refine PT.seg ?_
      refine PR.rdE rfl rfl (Rd.loadBox rfl rfl rfl) ?_
      refine PR.nil ?_
      refine PT.fork ?_ ?_
      · refine PT.seg ?_
        refine PR.rdE rfl rfl (Rd.loadBox rfl rfl rfl) ?_
        refine PR.callM true [] (w_S_ReleasePages N r2.1 r2.2 r15 h_16) rfl Try.call39 rfl ⟨.aggL ⟨.t _, .t _, .own rfl (by first | decide | exact List.not_mem_nil) rfl rfl, trivial⟩, .t _, trivial⟩ rfl trivial (fun _ => ⟨⟨trivial, trivial, trivial, trivial⟩, (flat_cons flat_ow (flat_cons flat_ow flat_nil))⟩) rfl ?_
        refine PR.nm (.agg [iA r15.pages, .os 5 0 r15.free.length, .os 6 0 r15.held.length]) [some ⟨.mx [iA r2.1.pages, sL r2.1.free, .os 1 0 r2.1.held.length], 30, 0⟩, some ⟨.tr (eL r2.1.held), 42, 2⟩, some ⟨.mx [iA r4.pages, .os 3 0 r4.free.length, .os 4 0 r4.held.length], 30, 0⟩, some ⟨.tr (eL r4.free), 3, 1⟩, some ⟨.tr (eL r4.held), 42, 2⟩, some ⟨.tr (eL r15.free), 3, 1⟩, some ⟨.tr (eL r15.held), 42, 2⟩] rfl rfl ?_
        refine PR.callM true [] (w_L_equalSpace N r4 r15 r17 h_18) rfl Try.call35 rfl ⟨.aggL ⟨.t _, .own rfl (by first | decide | exact List.not_mem_nil) rfl rfl, .own rfl (by first | decide | exact List.not_mem_nil) rfl rfl, trivial⟩, .aggL ⟨.t _, .own rfl (by first | decide | exact List.not_mem_nil) rfl rfl, .own rfl (by first | decide | exact List.not_mem_nil) rfl rfl, trivial⟩, trivial⟩ rfl trivial (fun _ => ⟨trivial, flat_nil⟩) rfl ?_
        refine PR.op rfl (Rd.asnT rfl) ?_
        refine PR.nil ?_
        refine PT.done ?_
        refine PL.nil ?_
        refine thA_n ?_
        exact ⟨(), trivial, [], ⟨rfl, rfl, trivial, ⟨.t _, trivial⟩⟩⟩
      refine PT.seg ?_
      refine PR.callM true [] (w_S_ReleasePages N r2.1 r2.2 r15 h_16) rfl Try.call39 rfl ⟨.aggL ⟨.t _, .t _, .own rfl (by first | decide | exact List.not_mem_nil) rfl rfl, trivial⟩, .t _, trivial⟩ rfl trivial (fun _ => ⟨⟨trivial, trivial, trivial, trivial⟩, (flat_cons flat_ow (flat_cons flat_ow flat_nil))⟩) rfl ?_
      refine PR.nm (.agg [iA r15.pages, .os 5 0 r15.free.length, .os 6 0 r15.held.length]) [some ⟨.mx [iA r2.1.pages, sL r2.1.free, .os 1 0 r2.1.held.length], 30, 0⟩, some ⟨.tr (eL r2.1.held), 42, 2⟩, some ⟨.mx [iA r4.pages, .os 3 0 r4.free.length, .os 4 0 r4.held.length], 30, 0⟩, some ⟨.tr (eL r4.free), 3, 1⟩, some ⟨.tr (eL r4.held), 42, 2⟩, some ⟨.tr (eL r15.free), 3, 1⟩, some ⟨.tr (eL r15.held), 42, 2⟩] rfl rfl ?_
      refine PR.rdE rfl rfl (Rd.loadBox rfl rfl rfl) ?_
      refine PR.callM true [] (w_L_equalSpace N r4 r15 r17 h_18) rfl Try.call35 rfl ⟨.aggL ⟨.t _, .own rfl (by first | decide | exact List.not_mem_nil) rfl rfl, .own rfl (by first | decide | exact List.not_mem_nil) rfl rfl, trivial⟩, .aggL ⟨.t _, .own rfl (by first | decide | exact List.not_mem_nil) rfl rfl, .own rfl (by first | decide | exact List.not_mem_nil) rfl rfl, trivial⟩, trivial⟩ rfl trivial (fun _ => ⟨trivial, flat_nil⟩) rfl ?_
      refine PR.op rfl (Rd.asnT rfl) ?_
      refine PR.nil ?_
      refine PT.done ?_
      refine PL.nil ?_
      refine thA_n ?_
      exact ⟨(), trivial, [], ⟨rfl, rfl, trivial, ⟨.t _, trivial⟩⟩⟩
    rintro ⟨⟩ -
    refine PC.ret ?_
    refine thA_r ?_
    obtain rfl := some_in hh0
    exact FinA.mk (r := bA r17) (bl := []) [] (.inl rfl) rfl (rl := [.tmp 2]) (.tmp .nil) rfl rfl rfl (.t _) trivial ⟨rfl, rfl⟩
  refine PC.cond_false rfl h_14 ?_
  refine PC.skip ?_
  refine thA_n ?_
  refine PC.seq ?_
  obtain ⟨n19, h_20, hh0⟩ := bind_some hh0
  obtain ⟨r21, h_22, hh0⟩ := bind_some hh0
  refine PC.region ?_
  refine PL.op rfl (Rd.loadBox rfl rfl rfl) ?_
  refine PL.op rfl (Rd.moveT rfl) ?_
  refine PL.op rfl (Rd.addM rfl rfl h_20) ?_
  refine PL.callM true [] (w_I_ReleasePages N r2.1 n19 r21 h_22) rfl Try.call38 rfl ⟨.aggL ⟨.t _, .t _, .own rfl (by first | decide | exact List.not_mem_nil) rfl rfl, trivial⟩, .t _, trivial⟩ rfl trivial (fun _ => ⟨⟨trivial, trivial, trivial, trivial⟩, (flat_cons flat_ow (flat_cons flat_ow flat_nil))⟩) ?_
  refine PL.nm (.agg [iA r21.pages, .os 5 0 r21.free.length, .os 6 0 r21.held.length]) [some ⟨.mx [iA r2.1.pages, sL r2.1.free, .os 1 0 r2.1.held.length], 30, 0⟩, some ⟨.tr (eL r2.1.held), 42, 2⟩, some ⟨.mx [iA r4.pages, .os 3 0 r4.free.length, .os 4 0 r4.held.length], 30, 0⟩, some ⟨.tr (eL r4.free), 3, 1⟩, some ⟨.tr (eL r4.held), 42, 2⟩, some ⟨.tr (eL r21.free), 3, 1⟩, some ⟨.tr (eL r21.held), 42, 2⟩] rfl rfl ?_
  refine PL.ef rfl (Ef.alloc rfl rfl) ?_
  refine PL.nm (.op 7 0) [some ⟨.mx [iA r2.1.pages, sL r2.1.free, .os 1 0 r2.1.held.length], 30, 0⟩, some ⟨.tr (eL r2.1.held), 42, 2⟩, some ⟨.mx [iA r4.pages, .os 3 0 r4.free.length, .os 4 0 r4.held.length], 30, 0⟩, some ⟨.tr (eL r4.free), 3, 1⟩, some ⟨.tr (eL r4.held), 42, 2⟩, some ⟨.tr (eL r21.free), 3, 1⟩, some ⟨.tr (eL r21.held), 42, 2⟩, some ⟨.mx [iA (0 : Int), .t (.v (.slice none 0 0)), .t (.v (.slice none 0 0))], 30, 0⟩] rfl rfl ?_
  refine PL.store rfl rfl rfl rfl rfl rfl rfl ?_
  refine PL.nO [some ⟨.mx [iA r2.1.pages, sL r2.1.free, .os 1 0 r2.1.held.length], 30, 0⟩, some ⟨.tr (eL r2.1.held), 42, 2⟩, some ⟨.mx [iA r4.pages, .os 3 0 r4.free.length, .os 4 0 r4.held.length], 30, 0⟩, some ⟨.tr (eL r4.free), 3, 1⟩, some ⟨.tr (eL r4.held), 42, 2⟩, some ⟨.tr (eL r21.free), 3, 1⟩, some ⟨.tr (eL r21.held), 42, 2⟩, some ⟨.mx [iA r21.pages, .os 5 0 r21.free.length, .os 6 0 r21.held.length], 30, 0⟩] rfl ?_
  refine PL.nil ?_
  refine thA_n ?_
  obtain ⟨r23, h_24, hh0⟩ := bind_some hh0
  rcases cond_some hh0 with ⟨h_25, hh0⟩ | ⟨h_25, hh0⟩
  rotate_left
  · refine PC.cut hs (fun _ : Unit => [(2, bA false)]) (fun _ => []) (fun _ => True) ?_ ?_
    · refine PC.any (id := 8) 26 (.seg [0, 1, 2] (.fork (.seg [3] (.fork (.seg [4, 5, 6, 7, 8, 9, 10, 11, 12, 13, 14, 15, 16, 17, 18, 20] (.fork (.seg [19] (.fork (.seg [21, 22, 23, 24, 25] .done) (.seg [22, 21, 23, 24, 25] .done))) (.seg [22, 19, 21, 23, 24, 25] .done))) (.seg [5, 4, 6, 7, 8, 9, 10, 11, 12, 13, 14, 15, 16, 17, 18, 20] (.fork (.seg [19] (.fork (.seg [21, 22, 23, 24, 25] .done) (.seg [22, 21, 23, 24, 25] .done))) (.seg [22, 19, 21, 23, 24, 25] .done))))) (.seg [5, 3, 4, 6, 7, 8, 9, 10, 11, 12, 13, 14, 15, 16, 17, 18, 20] (.fork (.seg [19] (.fork (.seg [21, 22, 23, 24, 25] .done) (.seg [22, 21, 23, 24, 25] .done))) (.seg [22, 19, 21, 23, 24, 25] .done))))) [] rfl (by kernel_rfl) rfl ?_
      refine PT.seg ?_
      refine PR.rdE rfl rfl (Rd.loadBox rfl rfl rfl) ?_
      refine PR.callM true [] (w_I_ValidSpace N r4 r23 h_24) rfl Try.call17 rfl ⟨.aggL ⟨.t _, .own rfl (by first | decide | exact List.not_mem_nil) rfl rfl, .own rfl (by first | decide | exact List.not_mem_nil) rfl rfl, trivial⟩, trivial⟩ rfl trivial (fun _ => ⟨trivial, flat_nil⟩) rfl ?_
      refine PR.op rfl (Rd.moveT rfl) ?_
      refine PR.nil ?_
      refine PT.fork ?_ ?_
      rotate_left
      · refine PT.seg ?_
        refine PR.guard_off rfl rfl h_25 ?_
        refine PR.guard_off rfl rfl h_25 ?_
        refine PR.guard_off rfl rfl h_25 ?_
        refine PR.guard_off rfl rfl h_25 ?_
        refine PR.guard_off rfl rfl h_25 ?_
        refine PR.op rfl (Rd.pick_f rfl h_25) ?_
        refine PR.op rfl (Rd.moveT rfl) ?_
        refine PR.guard_off rfl rfl rfl ?_
        refine PR.guard_off rfl rfl rfl ?_
        refine PR.guard_off rfl rfl rfl ?_
        refine PR.guard_off rfl rfl rfl ?_
        refine PR.guard_off rfl rfl rfl ?_
        refine PR.guard_off rfl rfl rfl ?_
        refine PR.guard_off rfl rfl rfl ?_
        refine PR.op rfl (Rd.pick_f rfl rfl) ?_
        refine PR.op rfl (Rd.moveT rfl) ?_
        refine PR.guard_off rfl rfl rfl ?_
        refine PR.nil ?_
        refine PT.fork ?_ ?_
        rotate_left
        · refine PT.seg ?_
          refine PR.guard_off rfl rfl rfl ?_
          refine PR.guard_off rfl rfl rfl ?_
          refine PR.guard_off rfl rfl rfl ?_
          refine PR.guard_off rfl rfl rfl ?_
          refine PR.op rfl (Rd.pick_f rfl rfl) ?_
          refine PR.op rfl (Rd.asnT rfl) ?_
          refine PR.nil ?_
          refine PT.done ?_
          refine PL.nil ?_
          refine thA_n ?_
          exact ⟨(), trivial, [], ⟨rfl, rfl, trivial, ⟨.t _, trivial⟩⟩⟩
        refine PT.seg ?_
        refine PR.guard_off rfl rfl rfl ?_
        refine PR.nil ?_
        refine PT.fork ?_ ?_
        · refine PT.seg ?_
          refine PR.guard_off rfl rfl rfl ?_
          refine PR.guard_off rfl rfl rfl ?_
          refine PR.guard_off rfl rfl rfl ?_
          refine PR.op rfl (Rd.pick_f rfl rfl) ?_
          refine PR.op rfl (Rd.asnT rfl) ?_
          refine PR.nil ?_
          refine PT.done ?_
          refine PL.nil ?_
          refine thA_n ?_
          exact ⟨(), trivial, [], ⟨rfl, rfl, trivial, ⟨.t _, trivial⟩⟩⟩
        refine PT.seg ?_
        refine PR.guard_off rfl rfl rfl ?_
        refine PR.guard_off rfl rfl rfl ?_
        refine PR.guard_off rfl rfl rfl ?_
        refine PR.op rfl (Rd.pick_f rfl rfl) ?_
        refine PR.op rfl (Rd.asnT rfl) ?_
        refine PR.nil ?_
        refine PT.done ?_
        refine PL.nil ?_
        refine thA_n ?_
        exact ⟨(), trivial, [], ⟨rfl, rfl, trivial, ⟨.t _, trivial⟩⟩⟩
      refine PT.seg ?_
      refine PR.guard_off rfl rfl h_25 ?_
      refine PR.nil ?_
      refine PT.fork ?_ ?_
      · refine PT.seg ?_
        refine PR.guard_off rfl rfl h_25 ?_
        refine PR.guard_off rfl rfl h_25 ?_
        refine PR.guard_off rfl rfl h_25 ?_
        refine PR.guard_off rfl rfl h_25 ?_
        refine PR.op rfl (Rd.pick_f rfl h_25) ?_
        refine PR.op rfl (Rd.moveT rfl) ?_
        refine PR.guard_off rfl rfl rfl ?_
        refine PR.guard_off rfl rfl rfl ?_
        refine PR.guard_off rfl rfl rfl ?_
        refine PR.guard_off rfl rfl rfl ?_
        refine PR.guard_off rfl rfl rfl ?_
        refine PR.guard_off rfl rfl rfl ?_
        refine PR.guard_off rfl rfl rfl ?_
        refine PR.op rfl (Rd.pick_f rfl rfl) ?_
        refine PR.op rfl (Rd.moveT rfl) ?_
        refine PR.guard_off rfl rfl rfl ?_
        refine PR.nil ?_
        refine PT.fork ?_ ?_
        rotate_left
        · refine PT.seg ?_
          refine PR.guard_off rfl rfl rfl ?_
          refine PR.guard_off rfl rfl rfl ?_
          refine PR.guard_off rfl rfl rfl ?_
          refine PR.guard_off rfl rfl rfl ?_
          refine PR.op rfl (Rd.pick_f rfl rfl) ?_
          refine PR.op rfl (Rd.asnT rfl) ?_
          refine PR.nil ?_
          refine PT.done ?_
          refine PL.nil ?_
          refine thA_n ?_
          exact ⟨(), trivial, [], ⟨rfl, rfl, trivial, ⟨.t _, trivial⟩⟩⟩
        refine PT.seg ?_
        refine PR.guard_off rfl rfl rfl ?_
        refine PR.nil ?_
        refine PT.fork ?_ ?_
        · refine PT.seg ?_
          refine PR.guard_off rfl rfl rfl ?_
          refine PR.guard_off rfl rfl rfl ?_
          refine PR.guard_off rfl rfl rfl ?_
          refine PR.op rfl (Rd.pick_f rfl rfl) ?_
          refine PR.op rfl (Rd.asnT rfl) ?_
          refine PR.nil ?_
          refine PT.done ?_
          refine PL.nil ?_
          refine thA_n ?_
          exact ⟨(), trivial, [], ⟨rfl, rfl, trivial, ⟨.t _, trivial⟩⟩⟩
        refine PT.seg ?_
        refine PR.guard_off rfl rfl rfl ?_
        refine PR.guard_off rfl rfl rfl ?_
        refine PR.guard_off rfl rfl rfl ?_
        refine PR.op rfl (Rd.pick_f rfl rfl) ?_
        refine PR.op rfl (Rd.asnT rfl) ?_
        refine PR.nil ?_
        refine PT.done ?_
        refine PL.nil ?_
        refine thA_n ?_
        exact ⟨(), trivial, [], ⟨rfl, rfl, trivial, ⟨.t _, trivial⟩⟩⟩
      refine PT.seg ?_
      refine PR.guard_off rfl rfl h_25 ?_
      refine PR.guard_off rfl rfl h_25 ?_
      refine PR.guard_off rfl rfl h_25 ?_
      refine PR.guard_off rfl rfl h_25 ?_
      refine PR.op rfl (Rd.pick_f rfl h_25) ?_
      refine PR.op rfl (Rd.moveT rfl) ?_
      refine PR.guard_off rfl rfl rfl ?_
      refine PR.guard_off rfl rfl rfl ?_
      refine PR.guard_off rfl rfl rfl ?_
      refine PR.guard_off rfl rfl rfl ?_
      refine PR.guard_off rfl rfl rfl ?_
      refine PR.guard_off rfl rfl rfl ?_
      refine PR.guard_off rfl rfl rfl ?_
      refine PR.op rfl (Rd.pick_f rfl rfl) ?_
      refine PR.op rfl (Rd.moveT rfl) ?_
      refine PR.guard_off rfl rfl rfl ?_
      refine PR.nil ?_
      refine PT.fork ?_ ?_
      rotate_left
      · refine PT.seg ?_
        refine PR.guard_off rfl rfl rfl ?_
        refine PR.guard_off rfl rfl rfl ?_
        refine PR.guard_off rfl rfl rfl ?_
        refine PR.guard_off rfl rfl rfl ?_
        refine PR.op rfl (Rd.pick_f rfl rfl) ?_
        refine PR.op rfl (Rd.asnT rfl) ?_
        refine PR.nil ?_
        refine PT.done ?_
        refine PL.nil ?_
        refine thA_n ?_
        exact ⟨(), trivial, [], ⟨rfl, rfl, trivial, ⟨.t _, trivial⟩⟩⟩
      refine PT.seg ?_
      refine PR.guard_off rfl rfl rfl ?_
      refine PR.nil ?_
      refine PT.fork ?_ ?_
      · refine PT.seg ?_
        refine PR.guard_off rfl rfl rfl ?_
        refine PR.guard_off rfl rfl rfl ?_
        refine PR.guard_off rfl rfl rfl ?_
        refine PR.op rfl (Rd.pick_f rfl rfl) ?_
        refine PR.op rfl (Rd.asnT rfl) ?_
        refine PR.nil ?_
        refine PT.done ?_
        refine PL.nil ?_
        refine thA_n ?_
        exact ⟨(), trivial, [], ⟨rfl, rfl, trivial, ⟨.t _, trivial⟩⟩⟩
      refine PT.seg ?_
      refine PR.guard_off rfl rfl rfl ?_
      refine PR.guard_off rfl rfl rfl ?_
      refine PR.guard_off rfl rfl rfl ?_
      refine PR.op rfl (Rd.pick_f rfl rfl) ?_
      refine PR.op rfl (Rd.asnT rfl) ?_
      refine PR.nil ?_
      refine PT.done ?_
      refine PL.nil ?_
      refine thA_n ?_
      exact ⟨(), trivial, [], ⟨rfl, rfl, trivial, ⟨.t _, trivial⟩⟩⟩
    rintro ⟨⟩ -
    refine PC.ret ?_
    obtain rfl := some_in hh0
    exact FinA.mk (r := bA false) (bl := []) [] (.inl rfl) rfl (rl := [.tmp 2]) (.tmp .nil) rfl rfl rfl (.t _) trivial ⟨rfl, rfl⟩
  obtain ⟨r26, h_27, hh0⟩ := bind_some hh0
  obtain ⟨r28, h_29, hh0⟩ := bind_some hh0
  obtain ⟨r30, h_31, hh0⟩ := bind_some hh0
  rcases cond_some hh0 with ⟨h_32, hh0⟩ | ⟨h_32, hh0⟩
  rotate_left
  · refine PC.cut hs (fun _ : Unit => [(2, bA false)]) (fun _ => []) (fun _ => True) ?_ ?_
    · refine PC.any (id := 8) 26 (.seg [0, 1, 2] (.fork (.seg [3] (.fork (.seg [4, 5, 6, 7, 8, 9, 10, 11, 12, 13, 14, 15, 16, 17, 18, 20] (.fork (.seg [19] (.fork (.seg [21, 22, 23, 24, 25] .done) (.seg [22, 21, 23, 24, 25] .done))) (.seg [22, 19, 21, 23, 24, 25] .done))) (.seg [5, 4, 6, 7, 8, 9, 10, 11, 12, 13, 14, 15, 16, 17, 18, 20] (.fork (.seg [19] (.fork (.seg [21, 22, 23, 24, 25] .done) (.seg [22, 21, 23, 24, 25] .done))) (.seg [22, 19, 21, 23, 24, 25] .done))))) (.seg [5, 3, 4, 6, 7, 8, 9, 10, 11, 12, 13, 14, 15, 16, 17, 18, 20] (.fork (.seg [19] (.fork (.seg [21, 22, 23, 24, 25] .done) (.seg [22, 21, 23, 24, 25] .done))) (.seg [22, 19, 21, 23, 24, 25] .done))))) [] rfl (by kernel_rfl) rfl ?_
      refine PT.seg ?_
      refine PR.rdE rfl rfl (Rd.loadBox rfl rfl rfl) ?_
      refine PR.callM true [] (w_I_ValidSpace N r4 r23 h_24) rfl Try.call17 rfl ⟨.aggL ⟨.t _, .own rfl (by first | decide | exact List.not_mem_nil) rfl rfl, .own rfl (by first | decide | exact List.not_mem_nil) rfl rfl, trivial⟩, trivial⟩ rfl trivial (fun _ => ⟨trivial, flat_nil⟩) rfl ?_
      refine PR.op rfl (Rd.moveT rfl) ?_
      refine PR.nil ?_
      refine PT.fork ?_ ?_
      rotate_left
      · refine PT.seg ?_
        refine PR.guard_on rfl rfl h_25 ?_
        refine PR.rdE rfl rfl (Rd.loadBox rfl rfl rfl) ?_
        refine PR.guard_on rfl rfl h_25 ?_
        refine PR.rdE rfl rfl (Rd.loadBox rfl rfl rfl) ?_
        refine PR.guard_on rfl rfl h_25 ?_
        refine PR.callM true [] (w_I_PagesInUse N r4 r26 h_27) rfl Try.call20 rfl ⟨.aggL ⟨.t _, .own rfl (by first | decide | exact List.not_mem_nil) rfl rfl, .own rfl (by first | decide | exact List.not_mem_nil) rfl rfl, trivial⟩, trivial⟩ rfl trivial (fun _ => ⟨trivial, (flat_cons flat_ow flat_nil)⟩) rfl ?_
        refine PR.nm (.os 8 0 r26.length) [some ⟨.mx [iA r2.1.pages, sL r2.1.free, .os 1 0 r2.1.held.length], 30, 0⟩, some ⟨.tr (eL r2.1.held), 42, 2⟩, some ⟨.mx [iA r4.pages, .os 3 0 r4.free.length, .os 4 0 r4.held.length], 30, 0⟩, some ⟨.tr (eL r4.free), 3, 1⟩, some ⟨.tr (eL r4.held), 42, 2⟩, some ⟨.tr (eL r21.free), 3, 1⟩, some ⟨.tr (eL r21.held), 42, 2⟩, some ⟨.mx [iA r21.pages, .os 5 0 r21.free.length, .os 6 0 r21.held.length], 30, 0⟩, some ⟨.tr (eL r26), 3, 1⟩] rfl rfl ?_
        refine PR.guard_on rfl rfl h_25 ?_
        refine PR.callM true [] (w_I_PagesInUse N r2.1 r28 h_29) rfl Try.call20 rfl ⟨.aggL ⟨.t _, .t _, .own rfl (by first | decide | exact List.not_mem_nil) rfl rfl, trivial⟩, trivial⟩ rfl trivial (fun _ => ⟨trivial, (flat_cons flat_ow flat_nil)⟩) rfl ?_
        refine PR.nm (.os 9 0 r28.length) [some ⟨.mx [iA r2.1.pages, sL r2.1.free, .os 1 0 r2.1.held.length], 30, 0⟩, some ⟨.tr (eL r2.1.held), 42, 2⟩, some ⟨.mx [iA r4.pages, .os 3 0 r4.free.length, .os 4 0 r4.held.length], 30, 0⟩, some ⟨.tr (eL r4.free), 3, 1⟩, some ⟨.tr (eL r4.held), 42, 2⟩, some ⟨.tr (eL r21.free), 3, 1⟩, some ⟨.tr (eL r21.held), 42, 2⟩, some ⟨.mx [iA r21.pages, .os 5 0 r21.free.length, .os 6 0 r21.held.length], 30, 0⟩, some ⟨.tr (eL r26), 3, 1⟩, some ⟨.tr (eL r28), 3, 1⟩] rfl rfl ?_
        refine PR.guard_on rfl rfl h_25 ?_
        refine PR.callM true [] (w_L_equalInts N r26 r28 r30 h_31) rfl Try.call31 rfl ⟨.own rfl (by first | decide | exact List.not_mem_nil) rfl rfl, .own rfl (by first | decide | exact List.not_mem_nil) rfl rfl, trivial⟩ rfl trivial (fun _ => ⟨trivial, flat_nil⟩) rfl ?_
        refine PR.op rfl (Rd.pick_t rfl h_25) ?_
        refine PR.op rfl (Rd.moveT rfl) ?_
        refine PR.guard_off rfl rfl h_32 ?_
        refine PR.guard_off rfl rfl h_32 ?_
        refine PR.guard_off rfl rfl h_32 ?_
        refine PR.guard_off rfl rfl h_32 ?_
        refine PR.guard_off rfl rfl h_32 ?_
        refine PR.guard_off rfl rfl h_32 ?_
        refine PR.guard_off rfl rfl h_32 ?_
        refine PR.op rfl (Rd.pick_f rfl h_32) ?_
        refine PR.op rfl (Rd.moveT rfl) ?_
        refine PR.guard_off rfl rfl rfl ?_
        refine PR.nil ?_
        refine PT.fork ?_ ?_
        rotate_left
        · refine PT.seg ?_
          refine PR.guard_off rfl rfl rfl ?_
          refine PR.guard_off rfl rfl rfl ?_
          refine PR.guard_off rfl rfl rfl ?_
          refine PR.guard_off rfl rfl rfl ?_
          refine PR.op rfl (Rd.pick_f rfl rfl) ?_
          refine PR.op rfl (Rd.asnT rfl) ?_
          refine PR.nil ?_
          refine PT.done ?_
          refine PL.nil ?_
          refine thA_n ?_
          exact ⟨(), trivial, [], ⟨rfl, rfl, trivial, ⟨.t _, trivial⟩⟩⟩
        refine PT.seg ?_
        refine PR.guard_off rfl rfl rfl ?_
        refine PR.nil ?_
        refine PT.fork ?_ ?_
        · refine PT.seg ?_
          refine PR.guard_off rfl rfl rfl ?_
          refine PR.guard_off rfl rfl rfl ?_
          refine PR.guard_off rfl rfl rfl ?_
          refine PR.op rfl (Rd.pick_f rfl rfl) ?_
          refine PR.op rfl (Rd.asnT rfl) ?_
          refine PR.nil ?_
          refine PT.done ?_
          refine PL.nil ?_
          refine thA_n ?_
          exact ⟨(), trivial, [], ⟨rfl, rfl, trivial, ⟨.t _, trivial⟩⟩⟩
        refine PT.seg ?_
        refine PR.guard_off rfl rfl rfl ?_
        refine PR.guard_off rfl rfl rfl ?_
        refine PR.guard_off rfl rfl rfl ?_
        refine PR.op rfl (Rd.pick_f rfl rfl) ?_
        refine PR.op rfl (Rd.asnT rfl) ?_
        refine PR.nil ?_
        refine PT.done ?_
        refine PL.nil ?_
        refine thA_n ?_
        exact ⟨(), trivial, [], ⟨rfl, rfl, trivial, ⟨.t _, trivial⟩⟩⟩
      refine PT.seg ?_
      refine PR.guard_on rfl rfl h_25 ?_
      refine PR.rdE rfl rfl (Rd.loadBox rfl rfl rfl) ?_
      refine PR.nil ?_
      refine PT.fork ?_ ?_
      · refine PT.seg ?_
        refine PR.guard_on rfl rfl h_25 ?_
        refine PR.callM true [] (w_I_PagesInUse N r4 r26 h_27) rfl Try.call20 rfl ⟨.aggL ⟨.t _, .own rfl (by first | decide | exact List.not_mem_nil) rfl rfl, .own rfl (by first | decide | exact List.not_mem_nil) rfl rfl, trivial⟩, trivial⟩ rfl trivial (fun _ => ⟨trivial, (flat_cons flat_ow flat_nil)⟩) rfl ?_
        refine PR.nm (.os 8 0 r26.length) [some ⟨.mx [iA r2.1.pages, sL r2.1.free, .os 1 0 r2.1.held.length], 30, 0⟩, some ⟨.tr (eL r2.1.held), 42, 2⟩, some ⟨.mx [iA r4.pages, .os 3 0 r4.free.length, .os 4 0 r4.held.length], 30, 0⟩, some ⟨.tr (eL r4.free), 3, 1⟩, some ⟨.tr (eL r4.held), 42, 2⟩, some ⟨.tr (eL r21.free), 3, 1⟩, some ⟨.tr (eL r21.held), 42, 2⟩, some ⟨.mx [iA r21.pages, .os 5 0 r21.free.length, .os 6 0 r21.held.length], 30, 0⟩, some ⟨.tr (eL r26), 3, 1⟩] rfl rfl ?_
        refine PR.guard_on rfl rfl h_25 ?_
        refine PR.rdE rfl rfl (Rd.loadBox rfl rfl rfl) ?_
        refine PR.guard_on rfl rfl h_25 ?_
        refine PR.callM true [] (w_I_PagesInUse N r2.1 r28 h_29) rfl Try.call20 rfl ⟨.aggL ⟨.t _, .t _, .own rfl (by first | decide | exact List.not_mem_nil) rfl rfl, trivial⟩, trivial⟩ rfl trivial (fun _ => ⟨trivial, (flat_cons flat_ow flat_nil)⟩) rfl ?_
        refine PR.nm (.os 9 0 r28.length) [some ⟨.mx [iA r2.1.pages, sL r2.1.free, .os 1 0 r2.1.held.length], 30, 0⟩, some ⟨.tr (eL r2.1.held), 42, 2⟩, some ⟨.mx [iA r4.pages, .os 3 0 r4.free.length, .os 4 0 r4.held.length], 30, 0⟩, some ⟨.tr (eL r4.free), 3, 1⟩, some ⟨.tr (eL r4.held), 42, 2⟩, some ⟨.tr (eL r21.free), 3, 1⟩, some ⟨.tr (eL r21.held), 42, 2⟩, some ⟨.mx [iA r21.pages, .os 5 0 r21.free.length, .os 6 0 r21.held.length], 30, 0⟩, some ⟨.tr (eL r26), 3, 1⟩, some ⟨.tr (eL r28), 3, 1⟩] rfl rfl ?_
        refine PR.guard_on rfl rfl h_25 ?_
        refine PR.callM true [] (w_L_equalInts N r26 r28 r30 h_31) rfl Try.call31 rfl ⟨.own rfl (by first | decide | exact List.not_mem_nil) rfl rfl, .own rfl (by first | decide | exact List.not_mem_nil) rfl rfl, trivial⟩ rfl trivial (fun _ => ⟨trivial, flat_nil⟩) rfl ?_
        refine PR.op rfl (Rd.pick_t rfl h_25) ?_
        refine PR.op rfl (Rd.moveT rfl) ?_
        refine PR.guard_off rfl rfl h_32 ?_
        refine PR.guard_off rfl rfl h_32 ?_
        refine PR.guard_off rfl rfl h_32 ?_
        refine PR.guard_off rfl rfl h_32 ?_
        refine PR.guard_off rfl rfl h_32 ?_
        refine PR.guard_off rfl rfl h_32 ?_
        refine PR.guard_off rfl rfl h_32 ?_
        refine PR.op rfl (Rd.pick_f rfl h_32) ?_
        refine PR.op rfl (Rd.moveT rfl) ?_
        refine PR.guard_off rfl rfl rfl ?_
        refine PR.nil ?_
        refine PT.fork ?_ ?_
        rotate_left
        · refine PT.seg ?_
          refine PR.guard_off rfl rfl rfl ?_
          refine PR.guard_off rfl rfl rfl ?_
          refine PR.guard_off rfl rfl rfl ?_
          refine PR.guard_off rfl rfl rfl ?_
          refine PR.op rfl (Rd.pick_f rfl rfl) ?_
          refine PR.op rfl (Rd.asnT rfl) ?_
          refine PR.nil ?_
          refine PT.done ?_
          refine PL.nil ?_
          refine thA_n ?_
          exact ⟨(), trivial, [], ⟨rfl, rfl, trivial, ⟨.t _, trivial⟩⟩⟩
        refine PT.seg ?_
        refine PR.guard_off rfl rfl rfl ?_
        refine PR.nil ?_
        refine PT.fork ?_ ?_
        · refine PT.seg ?_
          refine PR.guard_off rfl rfl rfl ?_
          refine PR.guard_off rfl rfl rfl ?_
          refine PR.guard_off rfl rfl rfl ?_
          refine PR.op rfl (Rd.pick_f rfl rfl) ?_
          refine PR.op rfl (Rd.asnT rfl) ?_
          refine PR.nil ?_
          refine PT.done ?_
          refine PL.nil ?_
          refine thA_n ?_
          exact ⟨(), trivial, [], ⟨rfl, rfl, trivial, ⟨.t _, trivial⟩⟩⟩
        refine PT.seg ?_
        refine PR.guard_off rfl rfl rfl ?_
        refine PR.guard_off rfl rfl rfl ?_
        refine PR.guard_off rfl rfl rfl ?_
        refine PR.op rfl (Rd.pick_f rfl rfl) ?_
        refine PR.op rfl (Rd.asnT rfl) ?_
        refine PR.nil ?_
        refine PT.done ?_
        refine PL.nil ?_
        refine thA_n ?_
        exact ⟨(), trivial, [], ⟨rfl, rfl, trivial, ⟨.t _, trivial⟩⟩⟩
      refine PT.seg ?_
      refine PR.guard_on rfl rfl h_25 ?_
      refine PR.rdE rfl rfl (Rd.loadBox rfl rfl rfl) ?_
      refine PR.guard_on rfl rfl h_25 ?_
      refine PR.callM true [] (w_I_PagesInUse N r4 r26 h_27) rfl Try.call20 rfl ⟨.aggL ⟨.t _, .own rfl (by first | decide | exact List.not_mem_nil) rfl rfl, .own rfl (by first | decide | exact List.not_mem_nil) rfl rfl, trivial⟩, trivial⟩ rfl trivial (fun _ => ⟨trivial, (flat_cons flat_ow flat_nil)⟩) rfl ?_
      refine PR.nm (.os 8 0 r26.length) [some ⟨.mx [iA r2.1.pages, sL r2.1.free, .os 1 0 r2.1.held.length], 30, 0⟩, some ⟨.tr (eL r2.1.held), 42, 2⟩, some ⟨.mx [iA r4.pages, .os 3 0 r4.free.length, .os 4 0 r4.held.length], 30, 0⟩, some ⟨.tr (eL r4.free), 3, 1⟩, some ⟨.tr (eL r4.held), 42, 2⟩, some ⟨.tr (eL r21.free), 3, 1⟩, some ⟨.tr (eL r21.held), 42, 2⟩, some ⟨.mx [iA r21.pages, .os 5 0 r21.free.length, .os 6 0 r21.held.length], 30, 0⟩, some ⟨.tr (eL r26), 3, 1⟩] rfl rfl ?_
      refine PR.guard_on rfl rfl h_25 ?_
      refine PR.callM true [] (w_I_PagesInUse N r2.1 r28 h_29) rfl Try.call20 rfl ⟨.aggL ⟨.t _, .t _, .own rfl (by first | decide | exact List.not_mem_nil) rfl rfl, trivial⟩, trivial⟩ rfl trivial (fun _ => ⟨trivial, (flat_cons flat_ow flat_nil)⟩) rfl ?_
      refine PR.nm (.os 9 0 r28.length) [some ⟨.mx [iA r2.1.pages, sL r2.1.free, .os 1 0 r2.1.held.length], 30, 0⟩, some ⟨.tr (eL r2.1.held), 42, 2⟩, some ⟨.mx [iA r4.pages, .os 3 0 r4.free.length, .os 4 0 r4.held.length], 30, 0⟩, some ⟨.tr (eL r4.free), 3, 1⟩, some ⟨.tr (eL r4.held), 42, 2⟩, some ⟨.tr (eL r21.free), 3, 1⟩, some ⟨.tr (eL r21.held), 42, 2⟩, some ⟨.mx [iA r21.pages, .os 5 0 r21.free.length, .os 6 0 r21.held.length], 30, 0⟩, some ⟨.tr (eL r26), 3, 1⟩, some ⟨.tr (eL r28), 3, 1⟩] rfl rfl ?_
      refine PR.guard_on rfl rfl h_25 ?_
      refine PR.callM true [] (w_L_equalInts N r26 r28 r30 h_31) rfl Try.call31 rfl ⟨.own rfl (by first | decide | exact List.not_mem_nil) rfl rfl, .own rfl (by first | decide | exact List.not_mem_nil) rfl rfl, trivial⟩ rfl trivial (fun _ => ⟨trivial, flat_nil⟩) rfl ?_
      refine PR.op rfl (Rd.pick_t rfl h_25) ?_
      refine PR.op rfl (Rd.moveT rfl) ?_
      refine PR.guard_off rfl rfl h_32 ?_
      refine PR.guard_off rfl rfl h_32 ?_
      refine PR.guard_off rfl rfl h_32 ?_
      refine PR.guard_off rfl rfl h_32 ?_
      refine PR.guard_off rfl rfl h_32 ?_
      refine PR.guard_off rfl rfl h_32 ?_
      refine PR.guard_off rfl rfl h_32 ?_
      refine PR.op rfl (Rd.pick_f rfl h_32) ?_
      refine PR.op rfl (Rd.moveT rfl) ?_
      refine PR.guard_off rfl rfl rfl ?_
      refine PR.nil ?_
      refine PT.fork ?_ ?_
      rotate_left
      · refine PT.seg ?_
        refine PR.guard_off rfl rfl rfl ?_
        refine PR.guard_off rfl rfl rfl ?_
        refine PR.guard_off rfl rfl rfl ?_
        refine PR.guard_off rfl rfl rfl ?_
        refine PR.op rfl (Rd.pick_f rfl rfl) ?_
        refine PR.op rfl (Rd.asnT rfl) ?_
        refine PR.nil ?_
        refine PT.done ?_
        refine PL.nil ?_
        refine thA_n ?_
        exact ⟨(), trivial, [], ⟨rfl, rfl, trivial, ⟨.t _, trivial⟩⟩⟩
      refine PT.seg ?_
      refine PR.guard_off rfl rfl rfl ?_
      refine PR.nil ?_
      refine PT.fork ?_ ?_
      · refine PT.seg ?_
        refine PR.guard_off rfl rfl rfl ?_
        refine PR.guard_off rfl rfl rfl ?_
        refine PR.guard_off rfl rfl rfl ?_
        refine PR.op rfl (Rd.pick_f rfl rfl) ?_
        refine PR.op rfl (Rd.asnT rfl) ?_
        refine PR.nil ?_
        refine PT.done ?_
        refine PL.nil ?_
        refine thA_n ?_
        exact ⟨(), trivial, [], ⟨rfl, rfl, trivial, ⟨.t _, trivial⟩⟩⟩
      refine PT.seg ?_
      refine PR.guard_off rfl rfl rfl ?_
      refine PR.guard_off rfl rfl rfl ?_
      refine PR.guard_off rfl rfl rfl ?_
      refine PR.op rfl (Rd.pick_f rfl rfl) ?_
      refine PR.op rfl (Rd.asnT rfl) ?_
      refine PR.nil ?_
      refine PT.done ?_
      refine PL.nil ?_
      refine thA_n ?_
      exact ⟨(), trivial, [], ⟨rfl, rfl, trivial, ⟨.t _, trivial⟩⟩⟩
    rintro ⟨⟩ -
    refine PC.ret ?_
    obtain rfl := some_in hh0
    exact FinA.mk (r := bA false) (bl := []) [] (.inl rfl) rfl (rl := [.tmp 2]) (.tmp .nil) rfl rfl rfl (.t _) trivial ⟨rfl, rfl⟩
  rcases cond_some hh0 with ⟨h_33, hh0⟩ | ⟨h_33, hh0⟩
  rotate_left
  · refine PC.cut hs (fun _ : Unit => [(2, bA false)]) (fun _ => []) (fun _ => True) ?_ ?_
    · refine PC.any (id := 8) 26 (.seg [0, 1, 2] (.fork (.seg [3] (.fork (.seg [4, 5, 6, 7, 8, 9, 10, 11, 12, 13, 14, 15, 16, 17, 18, 20] (.fork (.seg [19] (.fork (.seg [21, 22, 23, 24, 25] .done) (.seg [22, 21, 23, 24, 25] .done))) (.seg [22, 19, 21, 23, 24, 25] .done))) (.seg [5, 4, 6, 7, 8, 9, 10, 11, 12, 13, 14, 15, 16, 17, 18, 20] (.fork (.seg [19] (.fork (.seg [21, 22, 23, 24, 25] .done) (.seg [22, 21, 23, 24, 25] .done))) (.seg [22, 19, 21, 23, 24, 25] .done))))) (.seg [5, 3, 4, 6, 7, 8, 9, 10, 11, 12, 13, 14, 15, 16, 17, 18, 20] (.fork (.seg [19] (.fork (.seg [21, 22, 23, 24, 25] .done) (.seg [22, 21, 23, 24, 25] .done))) (.seg [22, 19, 21, 23, 24, 25] .done))))) [] rfl (by kernel_rfl) rfl ?_
      refine PT.seg ?_
      refine PR.rdE rfl rfl (Rd.loadBox rfl rfl rfl) ?_
      refine PR.callM true [] (w_I_ValidSpace N r4 r23 h_24) rfl Try.call17 rfl ⟨.aggL ⟨.t _, .own rfl (by first | decide | exact List.not_mem_nil) rfl rfl, .own rfl (by first | decide | exact List.not_mem_nil) rfl rfl, trivial⟩, trivial⟩ rfl trivial (fun _ => ⟨trivial, flat_nil⟩) rfl ?_
      refine PR.op rfl (Rd.moveT rfl) ?_
      refine PR.nil ?_
      refine PT.fork ?_ ?_
      rotate_left
      · refine PT.seg ?_
        refine PR.guard_on rfl rfl h_25 ?_
        refine PR.rdE rfl rfl (Rd.loadBox rfl rfl rfl) ?_
        refine PR.guard_on rfl rfl h_25 ?_
        refine PR.rdE rfl rfl (Rd.loadBox rfl rfl rfl) ?_
        refine PR.guard_on rfl rfl h_25 ?_
        refine PR.callM true [] (w_I_PagesInUse N r4 r26 h_27) rfl Try.call20 rfl ⟨.aggL ⟨.t _, .own rfl (by first | decide | exact List.not_mem_nil) rfl rfl, .own rfl (by first | decide | exact List.not_mem_nil) rfl rfl, trivial⟩, trivial⟩ rfl trivial (fun _ => ⟨trivial, (flat_cons flat_ow flat_nil)⟩) rfl ?_
        refine PR.nm (.os 8 0 r26.length) [some ⟨.mx [iA r2.1.pages, sL r2.1.free, .os 1 0 r2.1.held.length], 30, 0⟩, some ⟨.tr (eL r2.1.held), 42, 2⟩, some ⟨.mx [iA r4.pages, .os 3 0 r4.free.length, .os 4 0 r4.held.length], 30, 0⟩, some ⟨.tr (eL r4.free), 3, 1⟩, some ⟨.tr (eL r4.held), 42, 2⟩, some ⟨.tr (eL r21.free), 3, 1⟩, some ⟨.tr (eL r21.held), 42, 2⟩, some ⟨.mx [iA r21.pages, .os 5 0 r21.free.length, .os 6 0 r21.held.length], 30, 0⟩, some ⟨.tr (eL r26), 3, 1⟩] rfl rfl ?_
        refine PR.guard_on rfl rfl h_25 ?_
        refine PR.callM true [] (w_I_PagesInUse N r2.1 r28 h_29) rfl Try.call20 rfl ⟨.aggL ⟨.t _, .t _, .own rfl (by first | decide | exact List.not_mem_nil) rfl rfl, trivial⟩, trivial⟩ rfl trivial (fun _ => ⟨trivial, (flat_cons flat_ow flat_nil)⟩) rfl ?_
        refine PR.nm (.os 9 0 r28.length) [some ⟨.mx [iA r2.1.pages, sL r2.1.free, .os 1 0 r2.1.held.length], 30, 0⟩, some ⟨.tr (eL r2.1.held), 42, 2⟩, some ⟨.mx [iA r4.pages, .os 3 0 r4.free.length, .os 4 0 r4.held.length], 30, 0⟩, some ⟨.tr (eL r4.free), 3, 1⟩, some ⟨.tr (eL r4.held), 42, 2⟩, some ⟨.tr (eL r21.free), 3, 1⟩, some ⟨.tr (eL r21.held), 42, 2⟩, some ⟨.mx [iA r21.pages, .os 5 0 r21.free.length, .os 6 0 r21.held.length], 30, 0⟩, some ⟨.tr (eL r26), 3, 1⟩, some ⟨.tr (eL r28), 3, 1⟩] rfl rfl ?_
        refine PR.guard_on rfl rfl h_25 ?_
        refine PR.callM true [] (w_L_equalInts N r26 r28 r30 h_31) rfl Try.call31 rfl ⟨.own rfl (by first | decide | exact List.not_mem_nil) rfl rfl, .own rfl (by first | decide | exact List.not_mem_nil) rfl rfl, trivial⟩ rfl trivial (fun _ => ⟨trivial, flat_nil⟩) rfl ?_
        refine PR.op rfl (Rd.pick_t rfl h_25) ?_
        refine PR.op rfl (Rd.moveT rfl) ?_
        refine PR.guard_on rfl rfl h_32 ?_
        refine PR.op rfl (Rd.fieldO rfl rfl) ?_
        refine PR.guard_on rfl rfl h_32 ?_
        refine PR.op rfl (Rd.loadO rfl rfl rfl) ?_
        refine PR.guard_on rfl rfl h_32 ?_
        refine PR.op rfl (Rd.lenO rfl rfl) ?_
        refine PR.guard_on rfl rfl h_32 ?_
        refine PR.op rfl (Rd.fieldO rfl rfl) ?_
        refine PR.guard_on rfl rfl h_32 ?_
        refine PR.op rfl (Rd.loadO rfl rfl rfl) ?_
        refine PR.guard_on rfl rfl h_32 ?_
        refine PR.op rfl (Rd.lenO rfl rfl) ?_
        refine PR.guard_on rfl rfl h_32 ?_
        refine PR.op rfl (Rd.geq rfl rfl) ?_
        refine PR.op rfl (Rd.pick_t rfl h_32) ?_
        refine PR.op rfl (Rd.moveT rfl) ?_
        refine PR.guard_off rfl rfl h_33 ?_
        refine PR.nil ?_
        refine PT.fork ?_ ?_
        rotate_left
        · refine PT.seg ?_
          refine PR.guard_off rfl rfl h_33 ?_
          refine PR.guard_off rfl rfl h_33 ?_
          refine PR.guard_off rfl rfl h_33 ?_
          refine PR.guard_off rfl rfl h_33 ?_
          refine PR.op rfl (Rd.pick_f rfl h_33) ?_
          refine PR.op rfl (Rd.asnT rfl) ?_
          refine PR.nil ?_
          refine PT.done ?_
          refine PL.nil ?_
          refine thA_n ?_
          exact ⟨(), trivial, [], ⟨rfl, rfl, trivial, ⟨.t _, trivial⟩⟩⟩
        refine PT.seg ?_
        refine PR.guard_off rfl rfl h_33 ?_
        refine PR.nil ?_
        refine PT.fork ?_ ?_
        · refine PT.seg ?_
          refine PR.guard_off rfl rfl h_33 ?_
          refine PR.guard_off rfl rfl h_33 ?_
          refine PR.guard_off rfl rfl h_33 ?_
          refine PR.op rfl (Rd.pick_f rfl h_33) ?_
          refine PR.op rfl (Rd.asnT rfl) ?_
          refine PR.nil ?_
          refine PT.done ?_
          refine PL.nil ?_
          refine thA_n ?_
          exact ⟨(), trivial, [], ⟨rfl, rfl, trivial, ⟨.t _, trivial⟩⟩⟩
        refine PT.seg ?_
        refine PR.guard_off rfl rfl h_33 ?_
        refine PR.guard_off rfl rfl h_33 ?_
        refine PR.guard_off rfl rfl h_33 ?_
        refine PR.op rfl (Rd.pick_f rfl h_33) ?_
        refine PR.op rfl (Rd.asnT rfl) ?_
        refine PR.nil ?_
        refine PT.done ?_
        refine PL.nil ?_
        refine thA_n ?_
        exact ⟨(), trivial, [], ⟨rfl, rfl, trivial, ⟨.t _, trivial⟩⟩⟩
      refine PT.seg ?_
      refine PR.guard_on rfl rfl h_25 ?_
      refine PR.rdE rfl rfl (Rd.loadBox rfl rfl rfl) ?_
      refine PR.nil ?_
      refine PT.fork ?_ ?_
      · refine PT.seg ?_
        refine PR.guard_on rfl rfl h_25 ?_
        refine PR.callM true [] (w_I_PagesInUse N r4 r26 h_27) rfl Try.call20 rfl ⟨.aggL ⟨.t _, .own rfl (by first | decide | exact List.not_mem_nil) rfl rfl, .own rfl (by first | decide | exact List.not_mem_nil) rfl rfl, trivial⟩, trivial⟩ rfl trivial (fun _ => ⟨trivial, (flat_cons flat_ow flat_nil)⟩) rfl ?_
        refine PR.nm (.os 8 0 r26.length) [some ⟨.mx [iA r2.1.pages, sL r2.1.free, .os 1 0 r2.1.held.length], 30, 0⟩, some ⟨.tr (eL r2.1.held), 42, 2⟩, some ⟨.mx [iA r4.pages, .os 3 0 r4.free.length, .os 4 0 r4.held.length], 30, 0⟩, some ⟨.tr (eL r4.free), 3, 1⟩, some ⟨.tr (eL r4.held), 42, 2⟩, some ⟨.tr (eL r21.free), 3, 1⟩, some ⟨.tr (eL r21.held), 42, 2⟩, some ⟨.mx [iA r21.pages, .os 5 0 r21.free.length, .os 6 0 r21.held.length], 30, 0⟩, some ⟨.tr (eL r26), 3, 1⟩] rfl rfl ?_
        refine PR.guard_on rfl rfl h_25 ?_
        refine PR.rdE rfl rfl (Rd.loadBox rfl rfl rfl) ?_
        refine PR.guard_on rfl rfl h_25 ?_
        refine PR.callM true [] (w_I_PagesInUse N r2.1 r28 h_29) rfl Try.call20 rfl ⟨.aggL ⟨.t _, .t _, .own rfl (by first | decide | exact List.not_mem_nil) rfl rfl, trivial⟩, trivial⟩ rfl trivial (fun _ => ⟨trivial, (flat_cons flat_ow flat_nil)⟩) rfl ?_
        refine PR.nm (.os 9 0 r28.length) [some ⟨.mx [iA r2.1.pages, sL r2.1.free, .os 1 0 r2.1.held.length], 30, 0⟩, some ⟨.tr (eL r2.1.held), 42, 2⟩, some ⟨.mx [iA r4.pages, .os 3 0 r4.free.length, .os 4 0 r4.held.length], 30, 0⟩, some ⟨.tr (eL r4.free), 3, 1⟩, some ⟨.tr (eL r4.held), 42, 2⟩, some ⟨.tr (eL r21.free), 3, 1⟩, some ⟨.tr (eL r21.held), 42, 2⟩, some ⟨.mx [iA r21.pages, .os 5 0 r21.free.length, .os 6 0 r21.held.length], 30, 0⟩, some ⟨.tr (eL r26), 3, 1⟩, some ⟨.tr (eL r28), 3, 1⟩] rfl rfl ?_
        refine PR.guard_on rfl rfl h_25 ?_
        refine PR.callM true [] (w_L_equalInts N r26 r28 r30 h_31) rfl Try.call31 rfl ⟨.own rfl (by first | decide | exact List.not_mem_nil) rfl rfl, .own rfl (by first | decide | exact List.not_mem_nil) rfl rfl, trivial⟩ rfl trivial (fun _ => ⟨trivial, flat_nil⟩) rfl ?_
        refine PR.op rfl (Rd.pick_t rfl h_25) ?_
        refine PR.op rfl (Rd.moveT rfl) ?_
        refine PR.guard_on rfl rfl h_32 ?_
        refine PR.op rfl (Rd.fieldO rfl rfl) ?_
        refine PR.guard_on rfl rfl h_32 ?_
        refine PR.op rfl (Rd.loadO rfl rfl rfl) ?_
        refine PR.guard_on rfl rfl h_32 ?_
        refine PR.op rfl (Rd.lenO rfl rfl) ?_
        refine PR.guard_on rfl rfl h_32 ?_
        refine PR.op rfl (Rd.fieldO rfl rfl) ?_
        refine PR.guard_on rfl rfl h_32 ?_
        refine PR.op rfl (Rd.loadO rfl rfl rfl) ?_
        refine PR.guard_on rfl rfl h_32 ?_
        refine PR.op rfl (Rd.lenO rfl rfl) ?_
        refine PR.guard_on rfl rfl h_32 ?_
        refine PR.op rfl (Rd.geq rfl rfl) ?_
        refine PR.op rfl (Rd.pick_t rfl h_32) ?_
        refine PR.op rfl (Rd.moveT rfl) ?_
        refine PR.guard_off rfl rfl h_33 ?_
        refine PR.nil ?_
        refine PT.fork ?_ ?_
        rotate_left
        · refine PT.seg ?_
          refine PR.guard_off rfl rfl h_33 ?_
          refine PR.guard_off rfl rfl h_33 ?_
          refine PR.guard_off rfl rfl h_33 ?_
          refine PR.guard_off rfl rfl h_33 ?_
          refine PR.op rfl (Rd.pick_f rfl h_33) ?_
          refine PR.op rfl (Rd.asnT rfl) ?_
          refine PR.nil ?_
          refine PT.done ?_
          refine PL.nil ?_
          refine thA_n ?_
          exact ⟨(), trivial, [], ⟨rfl, rfl, trivial, ⟨.t _, trivial⟩⟩⟩
        refine PT.seg ?_
        refine PR.guard_off rfl rfl h_33 ?_
        refine PR.nil ?_
        refine PT.fork ?_ ?_
        · refine PT.seg ?_
          refine PR.guard_off rfl rfl h_33 ?_
          refine PR.guard_off rfl rfl h_33 ?_
          refine PR.guard_off rfl rfl h_33 ?_
          refine PR.op rfl (Rd.pick_f rfl h_33) ?_
          refine PR.op rfl (Rd.asnT rfl) ?_
          refine PR.nil ?_
          refine PT.done ?_
          refine PL.nil ?_
          refine thA_n ?_
          exact ⟨(), trivial, [], ⟨rfl, rfl, trivial, ⟨.t _, trivial⟩⟩⟩
        refine PT.seg ?_
        refine PR.guard_off rfl rfl h_33 ?_
        refine PR.guard_off rfl rfl h_33 ?_
        refine PR.guard_off rfl rfl h_33 ?_
        refine PR.op rfl (Rd.pick_f rfl h_33) ?_
        refine PR.op rfl (Rd.asnT rfl) ?_
        refine PR.nil ?_
        refine PT.done ?_
        refine PL.nil ?_
        refine thA_n ?_
        exact ⟨(), trivial, [], ⟨rfl, rfl, trivial, ⟨.t _, trivial⟩⟩⟩
      refine PT.seg ?_
      refine PR.guard_on rfl rfl h_25 ?_
      refine PR.rdE rfl rfl (Rd.loadBox rfl rfl rfl) ?_
      refine PR.guard_on rfl rfl h_25 ?_
      refine PR.callM true [] (w_I_PagesInUse N r4 r26 h_27) rfl Try.call20 rfl ⟨.aggL ⟨.t _, .own rfl (by first | decide | exact List.not_mem_nil) rfl rfl, .own rfl (by first | decide | exact List.not_mem_nil) rfl rfl, trivial⟩, trivial⟩ rfl trivial (fun _ => ⟨trivial, (flat_cons flat_ow flat_nil)⟩) rfl ?_
      refine PR.nm (.os 8 0 r26.length) [some ⟨.mx [iA r2.1.pages, sL r2.1.free, .os 1 0 r2.1.held.length], 30, 0⟩, some ⟨.tr (eL r2.1.held), 42, 2⟩, some ⟨.mx [iA r4.pages, .os 3 0 r4.free.length, .os 4 0 r4.held.length], 30, 0⟩, some ⟨.tr (eL r4.free), 3, 1⟩, some ⟨.tr (eL r4.held), 42, 2⟩, some ⟨.tr (eL r21.free), 3, 1⟩, some ⟨.tr (eL r21.held), 42, 2⟩, some ⟨.mx [iA r21.pages, .os 5 0 r21.free.length, .os 6 0 r21.held.length], 30, 0⟩, some ⟨.tr (eL r26), 3, 1⟩] rfl rfl ?_
      refine PR.guard_on rfl rfl h_25 ?_
      refine PR.callM true [] (w_I_PagesInUse N r2.1 r28 h_29) rfl Try.call20 rfl ⟨.aggL ⟨.t _, .t _, .own rfl (by first | decide | exact List.not_mem_nil) rfl rfl, trivial⟩, trivial⟩ rfl trivial (fun _ => ⟨trivial, (flat_cons flat_ow flat_nil)⟩) rfl ?_
      refine PR.nm (.os 9 0 r28.length) [some ⟨.mx [iA r2.1.pages, sL r2.1.free, .os 1 0 r2.1.held.length], 30, 0⟩, some ⟨.tr (eL r2.1.held), 42, 2⟩, some ⟨.mx [iA r4.pages, .os 3 0 r4.free.length, .os 4 0 r4.held.length], 30, 0⟩, some ⟨.tr (eL r4.free), 3, 1⟩, some ⟨.tr (eL r4.held), 42, 2⟩, some ⟨.tr (eL r21.free), 3, 1⟩, some ⟨.tr (eL r21.held), 42, 2⟩, some ⟨.mx [iA r21.pages, .os 5 0 r21.free.length, .os 6 0 r21.held.length], 30, 0⟩, some ⟨.tr (eL r26), 3, 1⟩, some ⟨.tr (eL r28), 3, 1⟩] rfl rfl ?_
      refine PR.guard_on rfl rfl h_25 ?_
      refine PR.callM true [] (w_L_equalInts N r26 r28 r30 h_31) rfl Try.call31 rfl ⟨.own rfl (by first | decide | exact List.not_mem_nil) rfl rfl, .own rfl (by first | decide | exact List.not_mem_nil) rfl rfl, trivial⟩ rfl trivial (fun _ => ⟨trivial, flat_nil⟩) rfl ?_
      refine PR.op rfl (Rd.pick_t rfl h_25) ?_
      refine PR.op rfl (Rd.moveT rfl) ?_
      refine PR.guard_on rfl rfl h_32 ?_
      refine PR.op rfl (Rd.fieldO rfl rfl) ?_
      refine PR.guard_on rfl rfl h_32 ?_
      refine PR.op rfl (Rd.loadO rfl rfl rfl) ?_
      refine PR.guard_on rfl rfl h_32 ?_
      refine PR.op rfl (Rd.lenO rfl rfl) ?_
      refine PR.guard_on rfl rfl h_32 ?_
      refine PR.op rfl (Rd.fieldO rfl rfl) ?_
      refine PR.guard_on rfl rfl h_32 ?_
      refine PR.op rfl (Rd.loadO rfl rfl rfl) ?_
      refine PR.guard_on rfl rfl h_32 ?_
      refine PR.op rfl (Rd.lenO rfl rfl) ?_
      refine PR.guard_on rfl rfl h_32 ?_
      refine PR.op rfl (Rd.geq rfl rfl) ?_
      refine PR.op rfl (Rd.pick_t rfl h_32) ?_
      refine PR.op rfl (Rd.moveT rfl) ?_
      refine PR.guard_off rfl rfl h_33 ?_
      refine PR.nil ?_
      refine PT.fork ?_ ?_
      rotate_left
      · refine PT.seg ?_
        refine PR.guard_off rfl rfl h_33 ?_
        refine PR.guard_off rfl rfl h_33 ?_
        refine PR.guard_off rfl rfl h_33 ?_
        refine PR.guard_off rfl rfl h_33 ?_
        refine PR.op rfl (Rd.pick_f rfl h_33) ?_
        refine PR.op rfl (Rd.asnT rfl) ?_
        refine PR.nil ?_
        refine PT.done ?_
        refine PL.nil ?_
        refine thA_n ?_
        exact ⟨(), trivial, [], ⟨rfl, rfl, trivial, ⟨.t _, trivial⟩⟩⟩
      refine PT.seg ?_
      refine PR.guard_off rfl rfl h_33 ?_
      refine PR.nil ?_
      refine PT.fork ?_ ?_
      · refine PT.seg ?_
        refine PR.guard_off rfl rfl h_33 ?_
        refine PR.guard_off rfl rfl h_33 ?_
        refine PR.guard_off rfl rfl h_33 ?_
        refine PR.op rfl (Rd.pick_f rfl h_33) ?_
        refine PR.op rfl (Rd.asnT rfl) ?_
        refine PR.nil ?_
        refine PT.done ?_
        refine PL.nil ?_
        refine thA_n ?_
        exact ⟨(), trivial, [], ⟨rfl, rfl, trivial, ⟨.t _, trivial⟩⟩⟩
      refine PT.seg ?_
      refine PR.guard_off rfl rfl h_33 ?_
      refine PR.guard_off rfl rfl h_33 ?_
      refine PR.guard_off rfl rfl h_33 ?_
      refine PR.op rfl (Rd.pick_f rfl h_33) ?_
      refine PR.op rfl (Rd.asnT rfl) ?_
      refine PR.nil ?_
      refine PT.done ?_
      refine PL.nil ?_
      refine thA_n ?_
      exact ⟨(), trivial, [], ⟨rfl, rfl, trivial, ⟨.t _, trivial⟩⟩⟩
    rintro ⟨⟩ -
    refine PC.ret ?_
    obtain rfl := some_in hh0
    exact FinA.mk (r := bA false) (bl := []) [] (.inl rfl) rfl (rl := [.tmp 2]) (.tmp .nil) rfl rfl rfl (.t _) trivial ⟨rfl, rfl⟩
  obtain ⟨r34, h_35, hh0⟩ := bind_some hh0
  obtain ⟨r36, h_37, hh0⟩ := bind_some hh0
  refine PC.cut hs (fun _ : Unit => [(2, bA r36)]) (fun _ => []) (fun _ => True) ?_ ?_
  · refine PC.any (id := 8) 26 (.seg [0, 1, 2] (.fork (.seg [3] (.fork (.seg [4, 5, 6, 7, 8, 9, 10, 11, 12, 13, 14, 15, 16, 17, 18, 20] (.fork (.seg [19] (.fork (.seg [21, 22, 23, 24, 25] .done) (.seg [22, 21, 23, 24, 25] .done))) (.seg [22, 19, 21, 23, 24, 25] .done))) (.seg [5, 4, 6, 7, 8, 9, 10, 11, 12, 13, 14, 15, 16, 17, 18, 20] (.fork (.seg [19] (.fork (.seg [21, 22, 23, 24, 25] .done) (.seg [22, 21, 23, 24, 25] .done))) (.seg [22, 19, 21, 23, 24, 25] .done))))) (.seg [5, 3, 4, 6, 7, 8, 9, 10, 11, 12, 13, 14, 15, 16, 17, 18, 20] (.fork (.seg [19] (.fork (.seg [21, 22, 23, 24, 25] .done) (.seg [22, 21, 23, 24, 25] .done))) (.seg [22, 19, 21, 23, 24, 25] .done))))) [] rfl (by kernel_rfl) rfl ?_
    refine PT.seg ?_
    refine PR.rdE rfl rfl (Rd.loadBox rfl rfl rfl) ?_
    refine PR.callM true [] (w_I_ValidSpace N r4 r23 h_24) rfl Try.call17 rfl ⟨.aggL ⟨.t _, .own rfl (by first | decide | exact List.not_mem_nil) rfl rfl, .own rfl (by first | decide | exact List.not_mem_nil) rfl rfl, trivial⟩, trivial⟩ rfl trivial (fun _ => ⟨trivial, flat_nil⟩) rfl ?_
    refine PR.op rfl (Rd.moveT rfl) ?_
    refine PR.nil ?_
    refine PT.fork ?_ ?_
    rotate_left
    · refine PT.seg ?_
      refine PR.guard_on rfl rfl h_25 ?_
      refine PR.rdE rfl rfl (Rd.loadBox rfl rfl rfl) ?_
      refine PR.guard_on rfl rfl h_25 ?_
      refine PR.rdE rfl rfl (Rd.loadBox rfl rfl rfl) ?_
      refine PR.guard_on rfl rfl h_25 ?_
      refine PR.callM true [] (w_I_PagesInUse N r4 r26 h_27) rfl Try.call20 rfl ⟨.aggL ⟨.t _, .own rfl (by first | decide | exact List.not_mem_nil) rfl rfl, .own rfl (by first | decide | exact List.not_mem_nil) rfl rfl, trivial⟩, trivial⟩ rfl trivial (fun _ => ⟨trivial, (flat_cons flat_ow flat_nil)⟩) rfl ?_
      refine PR.nm (.os 8 0 r26.length) [some ⟨.mx [iA r2.1.pages, sL r2.1.free, .os 1 0 r2.1.held.length], 30, 0⟩, some ⟨.tr (eL r2.1.held), 42, 2⟩, some ⟨.mx [iA r4.pages, .os 3 0 r4.free.length, .os 4 0 r4.held.length], 30, 0⟩, some ⟨.tr (eL r4.free), 3, 1⟩, some ⟨.tr (eL r4.held), 42, 2⟩, some ⟨.tr (eL r21.free), 3, 1⟩, some ⟨.tr (eL r21.held), 42, 2⟩, some ⟨.mx [iA r21.pages, .os 5 0 r21.free.length, .os 6 0 r21.held.length], 30, 0⟩, some ⟨.tr (eL r26), 3, 1⟩] rfl rfl ?_
      refine PR.guard_on rfl rfl h_25 ?_
      refine PR.callM true [] (w_I_PagesInUse N r2.1 r28 h_29) rfl Try.call20 rfl ⟨.aggL ⟨.t _, .t _, .own rfl (by first | decide | exact List.not_mem_nil) rfl rfl, trivial⟩, trivial⟩ rfl trivial (fun _ => ⟨trivial, (flat_cons flat_ow flat_nil)⟩) rfl ?_
      refine PR.nm (.os 9 0 r28.length) [some ⟨.mx [iA r2.1.pages, sL r2.1.free, .os 1 0 r2.1.held.length], 30, 0⟩, some ⟨.tr (eL r2.1.held), 42, 2⟩, some ⟨.mx [iA r4.pages, .os 3 0 r4.free.length, .os 4 0 r4.held.length], 30, 0⟩, some ⟨.tr (eL r4.free), 3, 1⟩, some ⟨.tr (eL r4.held), 42, 2⟩, some ⟨.tr (eL r21.free), 3, 1⟩, some ⟨.tr (eL r21.held), 42, 2⟩, some ⟨.mx [iA r21.pages, .os 5 0 r21.free.length, .os 6 0 r21.held.length], 30, 0⟩, some ⟨.tr (eL r26), 3, 1⟩, some ⟨.tr (eL r28), 3, 1⟩] rfl rfl ?_
      refine PR.guard_on rfl rfl h_25 ?_
      refine PR.callM true [] (w_L_equalInts N r26 r28 r30 h_31) rfl Try.call31 rfl ⟨.own rfl (by first | decide | exact List.not_mem_nil) rfl rfl, .own rfl (by first | decide | exact List.not_mem_nil) rfl rfl, trivial⟩ rfl trivial (fun _ => ⟨trivial, flat_nil⟩) rfl ?_
      refine PR.op rfl (Rd.pick_t rfl h_25) ?_
      refine PR.op rfl (Rd.moveT rfl) ?_
      refine PR.guard_on rfl rfl h_32 ?_
      refine PR.op rfl (Rd.fieldO rfl rfl) ?_
      refine PR.guard_on rfl rfl h_32 ?_
      refine PR.op rfl (Rd.loadO rfl rfl rfl) ?_
      refine PR.guard_on rfl rfl h_32 ?_
      refine PR.op rfl (Rd.lenO rfl rfl) ?_
      refine PR.guard_on rfl rfl h_32 ?_
      refine PR.op rfl (Rd.fieldO rfl rfl) ?_
      refine PR.guard_on rfl rfl h_32 ?_
      refine PR.op rfl (Rd.loadO rfl rfl rfl) ?_
      refine PR.guard_on rfl rfl h_32 ?_
      refine PR.op rfl (Rd.lenO rfl rfl) ?_
      refine PR.guard_on rfl rfl h_32 ?_
      refine PR.op rfl (Rd.geq rfl rfl) ?_
      refine PR.op rfl (Rd.pick_t rfl h_32) ?_
      refine PR.op rfl (Rd.moveT rfl) ?_
      refine PR.guard_on rfl rfl h_33 ?_
      refine PR.op rfl (Rd.moveT rfl) ?_
      refine PR.nil ?_
      refine PT.fork ?_ ?_
      rotate_left
      · refine PT.seg ?_
        refine PR.guard_on rfl rfl h_33 ?_
        refine PR.rdE rfl rfl (Rd.loadBox rfl rfl rfl) ?_
        refine PR.guard_on rfl rfl h_33 ?_
        refine PR.rdE rfl rfl (Rd.loadBox rfl rfl rfl) ?_
        refine PR.guard_on rfl rfl h_33 ?_
        refine PR.callM true [] (w_I_ReleasePages N r4 r2.2 r34 h_35) rfl Try.call38 rfl ⟨.aggL ⟨.t _, .own rfl (by first | decide | exact List.not_mem_nil) rfl rfl, .own rfl (by first | decide | exact List.not_mem_nil) rfl rfl, trivial⟩, .t _, trivial⟩ rfl trivial (fun _ => ⟨⟨trivial, trivial, trivial, trivial⟩, (flat_cons flat_ow (flat_cons flat_ow flat_nil))⟩) rfl ?_
        refine PR.nm (.agg [iA r34.pages, .os 10 0 r34.free.length, .os 11 0 r34.held.length]) [some ⟨.mx [iA r2.1.pages, sL r2.1.free, .os 1 0 r2.1.held.length], 30, 0⟩, some ⟨.tr (eL r2.1.held), 42, 2⟩, some ⟨.mx [iA r4.pages, .os 3 0 r4.free.length, .os 4 0 r4.held.length], 30, 0⟩, some ⟨.tr (eL r4.free), 3, 1⟩, some ⟨.tr (eL r4.held), 42, 2⟩, some ⟨.tr (eL r21.free), 3, 1⟩, some ⟨.tr (eL r21.held), 42, 2⟩, some ⟨.mx [iA r21.pages, .os 5 0 r21.free.length, .os 6 0 r21.held.length], 30, 0⟩, some ⟨.tr (eL r26), 3, 1⟩, some ⟨.tr (eL r28), 3, 1⟩, some ⟨.tr (eL r34.free), 3, 1⟩, some ⟨.tr (eL r34.held), 42, 2⟩] rfl rfl ?_
        refine PR.guard_on rfl rfl h_33 ?_
        refine PR.callM true [] (w_L_equalSpace N r34 r4 r36 h_37) rfl Try.call35 rfl ⟨.aggL ⟨.t _, .own rfl (by first | decide | exact List.not_mem_nil) rfl rfl, .own rfl (by first | decide | exact List.not_mem_nil) rfl rfl, trivial⟩, .aggL ⟨.t _, .own rfl (by first | decide | exact List.not_mem_nil) rfl rfl, .own rfl (by first | decide | exact List.not_mem_nil) rfl rfl, trivial⟩, trivial⟩ rfl trivial (fun _ => ⟨trivial, flat_nil⟩) rfl ?_
        refine PR.op rfl (Rd.pick_t rfl h_33) ?_
        refine PR.op rfl (Rd.asnT rfl) ?_
        refine PR.nil ?_
        refine PT.done ?_
        refine PL.nil ?_
        refine thA_n ?_
        exact ⟨(), trivial, [], ⟨rfl, rfl, trivial, ⟨.t _, trivial⟩⟩⟩
      refine PT.seg ?_
      refine PR.guard_on rfl rfl h_33 ?_
      refine PR.rdE rfl rfl (Rd.loadBox rfl rfl rfl) ?_
      refine PR.nil ?_
      refine PT.fork ?_ ?_
      · refine PT.seg ?_
        refine PR.guard_on rfl rfl h_33 ?_
        refine PR.callM true [] (w_I_ReleasePages N r4 r2.2 r34 h_35) rfl Try.call38 rfl ⟨.aggL ⟨.t _, .own rfl (by first | decide | exact List.not_mem_nil) rfl rfl, .own rfl (by first | decide | exact List.not_mem_nil) rfl rfl, trivial⟩, .t _, trivial⟩ rfl trivial (fun _ => ⟨⟨trivial, trivial, trivial, trivial⟩, (flat_cons flat_ow (flat_cons flat_ow flat_nil))⟩) rfl ?_
        refine PR.nm (.agg [iA r34.pages, .os 10 0 r34.free.length, .os 11 0 r34.held.length]) [some ⟨.mx [iA r2.1.pages, sL r2.1.free, .os 1 0 r2.1.held.length], 30, 0⟩, some ⟨.tr (eL r2.1.held), 42, 2⟩, some ⟨.mx [iA r4.pages, .os 3 0 r4.free.length, .os 4 0 r4.held.length], 30, 0⟩, some ⟨.tr (eL r4.free), 3, 1⟩, some ⟨.tr (eL r4.held), 42, 2⟩, some ⟨.tr (eL r21.free), 3, 1⟩, some ⟨.tr (eL r21.held), 42, 2⟩, some ⟨.mx [iA r21.pages, .os 5 0 r21.free.length, .os 6 0 r21.held.length], 30, 0⟩, some ⟨.tr (eL r26), 3, 1⟩, some ⟨.tr (eL r28), 3, 1⟩, some ⟨.tr (eL r34.free), 3, 1⟩, some ⟨.tr (eL r34.held), 42, 2⟩] rfl rfl ?_
        refine PR.guard_on rfl rfl h_33 ?_
        refine PR.rdE rfl rfl (Rd.loadBox rfl rfl rfl) ?_
        refine PR.guard_on rfl rfl h_33 ?_
        refine PR.callM true [] (w_L_equalSpace N r34 r4 r36 h_37) rfl Try.call35 rfl ⟨.aggL ⟨.t _, .own rfl (by first | decide | exact List.not_mem_nil) rfl rfl, .own rfl (by first | decide | exact List.not_mem_nil) rfl rfl, trivial⟩, .aggL ⟨.t _, .own rfl (by first | decide | exact List.not_mem_nil) rfl rfl, .own rfl (by first | decide | exact List.not_mem_nil) rfl rfl, trivial⟩, trivial⟩ rfl trivial (fun _ => ⟨trivial, flat_nil⟩) rfl ?_
        refine PR.op rfl (Rd.pick_t rfl h_33) ?_
        refine PR.op rfl (Rd.asnT rfl) ?_
        refine PR.nil ?_
        refine PT.done ?_
        refine PL.nil ?_
        refine thA_n ?_
        exact ⟨(), trivial, [], ⟨rfl, rfl, trivial, ⟨.t _, trivial⟩⟩⟩
      refine PT.seg ?_
      refine PR.guard_on rfl rfl h_33 ?_
      refine PR.rdE rfl rfl (Rd.loadBox rfl rfl rfl) ?_
      refine PR.guard_on rfl rfl h_33 ?_
      refine PR.callM true [] (w_I_ReleasePages N r4 r2.2 r34 h_35) rfl Try.call38 rfl ⟨.aggL ⟨.t _, .own rfl (by first | decide | exact List.not_mem_nil) rfl rfl, .own rfl (by first | decide | exact List.not_mem_nil) rfl rfl, trivial⟩, .t _, trivial⟩ rfl trivial (fun _ => ⟨⟨trivial, trivial, trivial, trivial⟩, (flat_cons flat_ow (flat_cons flat_ow flat_nil))⟩) rfl ?_
      refine PR.nm (.agg [iA r34.pages, .os 10 0 r34.free.length, .os 11 0 r34.held.length]) [some ⟨.mx [iA r2.1.pages, sL r2.1.free, .os 1 0 r2.1.held.length], 30, 0⟩, some ⟨.tr (eL r2.1.held), 42, 2⟩, some ⟨.mx [iA r4.pages, .os 3 0 r4.free.length, .os 4 0 r4.held.length], 30, 0⟩, some ⟨.tr (eL r4.free), 3, 1⟩, some ⟨.tr (eL r4.held), 42, 2⟩, some ⟨.tr (eL r21.free), 3, 1⟩, some ⟨.tr (eL r21.held), 42, 2⟩, some ⟨.mx [iA r21.pages, .os 5 0 r21.free.length, .os 6 0 r21.held.length], 30, 0⟩, some ⟨.tr (eL r26), 3, 1⟩, some ⟨.tr (eL r28), 3, 1⟩, some ⟨.tr (eL r34.free), 3, 1⟩, some ⟨.tr (eL r34.held), 42, 2⟩] rfl rfl ?_
      refine PR.guard_on rfl rfl h_33 ?_
      refine PR.callM true [] (w_L_equalSpace N r34 r4 r36 h_37) rfl Try.call35 rfl ⟨.aggL ⟨.t _, .own rfl (by first | decide | exact List.not_mem_nil) rfl rfl, .own rfl (by first | decide | exact List.not_mem_nil) rfl rfl, trivial⟩, .aggL ⟨.t _, .own rfl (by first | decide | exact List.not_mem_nil) rfl rfl, .own rfl (by first | decide | exact List.not_mem_nil) rfl rfl, trivial⟩, trivial⟩ rfl trivial (fun _ => ⟨trivial, flat_nil⟩) rfl ?_
      refine PR.op rfl (Rd.pick_t rfl h_33) ?_
      refine PR.op rfl (Rd.asnT rfl) ?_
      refine PR.nil ?_
      refine PT.done ?_
      refine PL.nil ?_
      refine thA_n ?_
      exact ⟨(), trivial, [], ⟨rfl, rfl, trivial, ⟨.t _, trivial⟩⟩⟩
    refine PT.seg ?_
    refine PR.guard_on rfl rfl h_25 ?_
    refine PR.rdE rfl rfl (Rd.loadBox rfl rfl rfl) ?_
    refine PR.nil ?_
    refine PT.fork ?_ ?_
    · refine PT.seg ?_
      refine PR.guard_on rfl rfl h_25 ?_
      refine PR.callM true [] (w_I_PagesInUse N r4 r26 h_27) rfl Try.call20 rfl ⟨.aggL ⟨.t _, .own rfl (by first | decide | exact List.not_mem_nil) rfl rfl, .own rfl (by first | decide | exact List.not_mem_nil) rfl rfl, trivial⟩, trivial⟩ rfl trivial (fun _ => ⟨trivial, (flat_cons flat_ow flat_nil)⟩) rfl ?_
      refine PR.nm (.os 8 0 r26.length) [some ⟨.mx [iA r2.1.pages, sL r2.1.free, .os 1 0 r2.1.held.length], 30, 0⟩, some ⟨.tr (eL r2.1.held), 42, 2⟩, some ⟨.mx [iA r4.pages, .os 3 0 r4.free.length, .os 4 0 r4.held.length], 30, 0⟩, some ⟨.tr (eL r4.free), 3, 1⟩, some ⟨.tr (eL r4.held), 42, 2⟩, some ⟨.tr (eL r21.free), 3, 1⟩, some ⟨.tr (eL r21.held), 42, 2⟩, some ⟨.mx [iA r21.pages, .os 5 0 r21.free.length, .os 6 0 r21.held.length], 30, 0⟩, some ⟨.tr (eL r26), 3, 1⟩] rfl rfl ?_
      refine PR.guard_on rfl rfl h_25 ?_
      refine PR.rdE rfl rfl (Rd.loadBox rfl rfl rfl) ?_
      refine PR.guard_on rfl rfl h_25 ?_
      refine PR.callM true [] (w_I_PagesInUse N r2.1 r28 h_29) rfl Try.call20 rfl ⟨.aggL ⟨.t _, .t _, .own rfl (by first | decide | exact List.not_mem_nil) rfl rfl, trivial⟩, trivial⟩ rfl trivial (fun _ => ⟨trivial, (flat_cons flat_ow flat_nil)⟩) rfl ?_
      refine PR.nm (.os 9 0 r28.length) [some ⟨.mx [iA r2.1.pages, sL r2.1.free, .os 1 0 r2.1.held.length], 30, 0⟩, some ⟨.tr (eL r2.1.held), 42, 2⟩, some ⟨.mx [iA r4.pages, .os 3 0 r4.free.length, .os 4 0 r4.held.length], 30, 0⟩, some ⟨.tr (eL r4.free), 3, 1⟩, some ⟨.tr (eL r4.held), 42, 2⟩, some ⟨.tr (eL r21.free), 3, 1⟩, some ⟨.tr (eL r21.held), 42, 2⟩, some ⟨.mx [iA r21.pages, .os 5 0 r21.free.length, .os 6 0 r21.held.length], 30, 0⟩, some ⟨.tr (eL r26), 3, 1⟩, some ⟨.tr (eL r28), 3, 1⟩] rfl rfl ?_
      refine PR.guard_on rfl rfl h_25 ?_
      refine PR.callM true [] (w_L_equalInts N r26 r28 r30 h_31) rfl Try.call31 rfl ⟨.own rfl (by first | decide | exact List.not_mem_nil) rfl rfl, .own rfl (by first | decide | exact List.not_mem_nil) rfl rfl, trivial⟩ rfl trivial (fun _ => ⟨trivial, flat_nil⟩) rfl ?_
      refine PR.op rfl (Rd.pick_t rfl h_25) ?_
      refine PR.op rfl (Rd.moveT rfl) ?_
      refine PR.guard_on rfl rfl h_32 ?_
      refine PR.op rfl (Rd.fieldO rfl rfl) ?_
      refine PR.guard_on rfl rfl h_32 ?_
      refine PR.op rfl (Rd.loadO rfl rfl rfl) ?_
      refine PR.guard_on rfl rfl h_32 ?_
      refine PR.op rfl (Rd.lenO rfl rfl) ?_
      refine PR.guard_on rfl rfl h_32 ?_
      refine PR.op rfl (Rd.fieldO rfl rfl) ?_
      refine PR.guard_on rfl rfl h_32 ?_
      refine PR.op rfl (Rd.loadO rfl rfl rfl) ?_
      refine PR.guard_on rfl rfl h_32 ?_
      refine PR.op rfl (Rd.lenO rfl rfl) ?_
      refine PR.guard_on rfl rfl h_32 ?_
      refine PR.op rfl (Rd.geq rfl rfl) ?_
      refine PR.op rfl (Rd.pick_t rfl h_32) ?_
      refine PR.op rfl (Rd.moveT rfl) ?_
      refine PR.guard_on rfl rfl h_33 ?_
      refine PR.op rfl (Rd.moveT rfl) ?_
      refine PR.nil ?_
      refine PT.fork ?_ ?_
      rotate_left
      · refine PT.seg ?_
        refine PR.guard_on rfl rfl h_33 ?_
        refine PR.rdE rfl rfl (Rd.loadBox rfl rfl rfl) ?_
        refine PR.guard_on rfl rfl h_33 ?_
        refine PR.rdE rfl rfl (Rd.loadBox rfl rfl rfl) ?_
        refine PR.guard_on rfl rfl h_33 ?_
        refine PR.callM true [] (w_I_ReleasePages N r4 r2.2 r34 h_35) rfl Try.call38 rfl ⟨.aggL ⟨.t _, .own rfl (by first | decide | exact List.not_mem_nil) rfl rfl, .own rfl (by first | decide | exact List.not_mem_nil) rfl rfl, trivial⟩, .t _, trivial⟩ rfl trivial (fun _ => ⟨⟨trivial, trivial, trivial, trivial⟩, (flat_cons flat_ow (flat_cons flat_ow flat_nil))⟩) rfl ?_
        refine PR.nm (.agg [iA r34.pages, .os 10 0 r34.free.length, .os 11 0 r34.held.length]) [some ⟨.mx [iA r2.1.pages, sL r2.1.free, .os 1 0 r2.1.held.length], 30, 0⟩, some ⟨.tr (eL r2.1.held), 42, 2⟩, some ⟨.mx [iA r4.pages, .os 3 0 r4.free.length, .os 4 0 r4.held.length], 30, 0⟩, some ⟨.tr (eL r4.free), 3, 1⟩, some ⟨.tr (eL r4.held), 42, 2⟩, some ⟨.tr (eL r21.free), 3, 1⟩, some ⟨.tr (eL r21.held), 42, 2⟩, some ⟨.mx [iA r21.pages, .os 5 0 r21.free.length, .os 6 0 r21.held.length], 30, 0⟩, some ⟨.tr (eL r26), 3, 1⟩, some ⟨.tr (eL r28), 3, 1⟩, some ⟨.tr (eL r34.free), 3, 1⟩, some ⟨.tr (eL r34.held), 42, 2⟩] rfl rfl ?_
        refine PR.guard_on rfl rfl h_33 ?_
        refine PR.callM true [] (w_L_equalSpace N r34 r4 r36 h_37) rfl Try.call35 rfl ⟨.aggL ⟨.t _, .own rfl (by first | decide | exact List.not_mem_nil) rfl rfl, .own rfl (by first | decide | exact List.not_mem_nil) rfl rfl, trivial⟩, .aggL ⟨.t _, .own rfl (by first | decide | exact List.not_mem_nil) rfl rfl, .own rfl (by first | decide | exact List.not_mem_nil) rfl rfl, trivial⟩, trivial⟩ rfl trivial (fun _ => ⟨trivial, flat_nil⟩) rfl ?_
        refine PR.op rfl (Rd.pick_t rfl h_33) ?_
        refine PR.op rfl (Rd.asnT rfl) ?_
        refine PR.nil ?_
        refine PT.done ?_
        refine PL.nil ?_
        refine thA_n ?_
        exact ⟨(), trivial, [], ⟨rfl, rfl, trivial, ⟨.t _, trivial⟩⟩⟩
      refine PT.seg ?_
      refine PR.guard_on rfl rfl h_33 ?_
      refine PR.rdE rfl rfl (Rd.loadBox rfl rfl rfl) ?_
      refine PR.nil ?_
      refine PT.fork ?_ ?_
      · refine PT.seg ?_
        refine PR.guard_on rfl rfl h_33 ?_
        refine PR.callM true [] (w_I_ReleasePages N r4 r2.2 r34 h_35) rfl Try.call38 rfl ⟨.aggL ⟨.t _, .own rfl (by first | decide | exact List.not_mem_nil) rfl rfl, .own rfl (by first | decide | exact List.not_mem_nil) rfl rfl, trivial⟩, .t _, trivial⟩ rfl trivial (fun _ => ⟨⟨trivial, trivial, trivial, trivial⟩, (flat_cons flat_ow (flat_cons flat_ow flat_nil))⟩) rfl ?_
        refine PR.nm (.agg [iA r34.pages, .os 10 0 r34.free.length, .os 11 0 r34.held.length]) [some ⟨.mx [iA r2.1.pages, sL r2.1.free, .os 1 0 r2.1.held.length], 30, 0⟩, some ⟨.tr (eL r2.1.held), 42, 2⟩, some ⟨.mx [iA r4.pages, .os 3 0 r4.free.length, .os 4 0 r4.held.length], 30, 0⟩, some ⟨.tr (eL r4.free), 3, 1⟩, some ⟨.tr (eL r4.held), 42, 2⟩, some ⟨.tr (eL r21.free), 3, 1⟩, some ⟨.tr (eL r21.held), 42, 2⟩, some ⟨.mx [iA r21.pages, .os 5 0 r21.free.length, .os 6 0 r21.held.length], 30, 0⟩, some ⟨.tr (eL r26), 3, 1⟩, some ⟨.tr (eL r28), 3, 1⟩, some ⟨.tr (eL r34.free), 3, 1⟩, some ⟨.tr (eL r34.held), 42, 2⟩] rfl rfl ?_
        refine PR.guard_on rfl rfl h_33 ?_
        refine PR.rdE rfl rfl (Rd.loadBox rfl rfl rfl) ?_
        refine PR.guard_on rfl rfl h_33 ?_
        refine PR.callM true [] (w_L_equalSpace N r34 r4 r36 h_37) rfl Try.call35 rfl ⟨.aggL ⟨.t _, .own rfl (by first | decide | exact List.not_mem_nil) rfl rfl, .own rfl (by first | decide | exact List.not_mem_nil) rfl rfl, trivial⟩, .aggL ⟨.t _, .own rfl (by first | decide | exact List.not_mem_nil) rfl rfl, .own rfl (by first | decide | exact List.not_mem_nil) rfl rfl, trivial⟩, trivial⟩ rfl trivial (fun _ => ⟨trivial, flat_nil⟩) rfl ?_
        refine PR.op rfl (Rd.pick_t rfl h_33) ?_
        refine PR.op rfl (Rd.asnT rfl) ?_
        refine PR.nil ?_
        refine PT.done ?_
        refine PL.nil ?_
        refine thA_n ?_
        exact ⟨(), trivial, [], ⟨rfl, rfl, trivial, ⟨.t _, trivial⟩⟩⟩
      refine PT.seg ?_
      refine PR.guard_on rfl rfl h_33 ?_
      refine PR.rdE rfl rfl (Rd.loadBox rfl rfl rfl) ?_
      refine PR.guard_on rfl rfl h_33 ?_
      refine PR.callM true [] (w_I_ReleasePages N r4 r2.2 r34 h_35) rfl Try.call38 rfl ⟨.aggL ⟨.t _, .own rfl (by first | decide | exact List.not_mem_nil) rfl rfl, .own rfl (by first | decide | exact List.not_mem_nil) rfl rfl, trivial⟩, .t _, trivial⟩ rfl trivial (fun _ => ⟨⟨trivial, trivial, trivial, trivial⟩, (flat_cons flat_ow (flat_cons flat_ow flat_nil))⟩) rfl ?_
      refine PR.nm (.agg [iA r34.pages, .os 10 0 r34.free.length, .os 11 0 r34.held.length]) [some ⟨.mx [iA r2.1.pages, sL r2.1.free, .os 1 0 r2.1.held.length], 30, 0⟩, some ⟨.tr (eL r2.1.held), 42, 2⟩, some ⟨.mx [iA r4.pages, .os 3 0 r4.free.length, .os 4 0 r4.held.length], 30, 0⟩, some ⟨.tr (eL r4.free), 3, 1⟩, some ⟨.tr (eL r4.held), 42, 2⟩, some ⟨.tr (eL r21.free), 3, 1⟩, some ⟨.tr (eL r21.held), 42, 2⟩, some ⟨.mx [iA r21.pages, .os 5 0 r21.free.length, .os 6 0 r21.held.length], 30, 0⟩, some ⟨.tr (eL r26), 3, 1⟩, some ⟨.tr (eL r28), 3, 1⟩, some ⟨.tr (eL r34.free), 3, 1⟩, some ⟨.tr (eL r34.held), 42, 2⟩] rfl rfl ?_
      refine PR.guard_on rfl rfl h_33 ?_
      refine PR.callM true [] (w_L_equalSpace N r34 r4 r36 h_37) rfl Try.call35 rfl ⟨.aggL ⟨.t _, .own rfl (by first | decide | exact List.not_mem_nil) rfl rfl, .own rfl (by first | decide | exact List.not_mem_nil) rfl rfl, trivial⟩, .aggL ⟨.t _, .own rfl (by first | decide | exact List.not_mem_nil) rfl rfl, .own rfl (by first | decide | exact List.not_mem_nil) rfl rfl, trivial⟩, trivial⟩ rfl trivial (fun _ => ⟨trivial, flat_nil⟩) rfl ?_
      refine PR.op rfl (Rd.pick_t rfl h_33) ?_
      refine PR.op rfl (Rd.asnT rfl) ?_
      refine PR.nil ?_
      refine PT.done ?_
      refine PL.nil ?_
      refine thA_n ?_
      exact ⟨(), trivial, [], ⟨rfl, rfl, trivial, ⟨.t _, trivial⟩⟩⟩
    refine PT.seg ?_
    refine PR.guard_on rfl rfl h_25 ?_
    refine PR.rdE rfl rfl (Rd.loadBox rfl rfl rfl) ?_
    refine PR.guard_on rfl rfl h_25 ?_
    refine PR.callM true [] (w_I_PagesInUse N r4 r26 h_27) rfl Try.call20 rfl ⟨.aggL ⟨.t _, .own rfl (by first | decide | exact List.not_mem_nil) rfl rfl, .own rfl (by first | decide | exact List.not_mem_nil) rfl rfl, trivial⟩, trivial⟩ rfl trivial (fun _ => ⟨trivial, (flat_cons flat_ow flat_nil)⟩) rfl ?_
    refine PR.nm (.os 8 0 r26.length) [some ⟨.mx [iA r2.1.pages, sL r2.1.free, .os 1 0 r2.1.held.length], 30, 0⟩, some ⟨.tr (eL r2.1.held), 42, 2⟩, some ⟨.mx [iA r4.pages, .os 3 0 r4.free.length, .os 4 0 r4.held.length], 30, 0⟩, some ⟨.tr (eL r4.free), 3, 1⟩, some ⟨.tr (eL r4.held), 42, 2⟩, some ⟨.tr (eL r21.free), 3, 1⟩, some ⟨.tr (eL r21.held), 42, 2⟩, some ⟨.mx [iA r21.pages, .os 5 0 r21.free.length, .os 6 0 r21.held.length], 30, 0⟩, some ⟨.tr (eL r26), 3, 1⟩] rfl rfl ?_
    refine PR.guard_on rfl rfl h_25 ?_
    refine PR.callM true [] (w_I_PagesInUse N r2.1 r28 h_29) rfl Try.call20 rfl ⟨.aggL ⟨.t _, .t _, .own rfl (by first | decide | exact List.not_mem_nil) rfl rfl, trivial⟩, trivial⟩ rfl trivial (fun _ => ⟨trivial, (flat_cons flat_ow flat_nil)⟩) rfl ?_
    refine PR.nm (.os 9 0 r28.length) [some ⟨.mx [iA r2.1.pages, sL r2.1.free, .os 1 0 r2.1.held.length], 30, 0⟩, some ⟨.tr (eL r2.1.held), 42, 2⟩, some ⟨.mx [iA r4.pages, .os 3 0 r4.free.length, .os 4 0 r4.held.length], 30, 0⟩, some ⟨.tr (eL r4.free), 3, 1⟩, some ⟨.tr (eL r4.held), 42, 2⟩, some ⟨.tr (eL r21.free), 3, 1⟩, some ⟨.tr (eL r21.held), 42, 2⟩, some ⟨.mx [iA r21.pages, .os 5 0 r21.free.length, .os 6 0 r21.held.length], 30, 0⟩, some ⟨.tr (eL r26), 3, 1⟩, some ⟨.tr (eL r28), 3, 1⟩] rfl rfl ?_
    refine PR.guard_on rfl rfl h_25 ?_
    refine PR.callM true [] (w_L_equalInts N r26 r28 r30 h_31) rfl Try.call31 rfl ⟨.own rfl (by first | decide | exact List.not_mem_nil) rfl rfl, .own rfl (by first | decide | exact List.not_mem_nil) rfl rfl, trivial⟩ rfl trivial (fun _ => ⟨trivial, flat_nil⟩) rfl ?_
    refine PR.op rfl (Rd.pick_t rfl h_25) ?_
    refine PR.op rfl (Rd.moveT rfl) ?_
    refine PR.guard_on rfl rfl h_32 ?_
    refine PR.op rfl (Rd.fieldO rfl rfl) ?_
    refine PR.guard_on rfl rfl h_32 ?_
    refine PR.op rfl (Rd.loadO rfl rfl rfl) ?_
    refine PR.guard_on rfl rfl h_32 ?_
    refine PR.op rfl (Rd.lenO rfl rfl) ?_
    refine PR.guard_on rfl rfl h_32 ?_
    refine PR.op rfl (Rd.fieldO rfl rfl) ?_
    refine PR.guard_on rfl rfl h_32 ?_
    refine PR.op rfl (Rd.loadO rfl rfl rfl) ?_
    refine PR.guard_on rfl rfl h_32 ?_
    refine PR.op rfl (Rd.lenO rfl rfl) ?_
    refine PR.guard_on rfl rfl h_32 ?_
    refine PR.op rfl (Rd.geq rfl rfl) ?_
    refine PR.op rfl (Rd.pick_t rfl h_32) ?_
    refine PR.op rfl (Rd.moveT rfl) ?_
    refine PR.guard_on rfl rfl h_33 ?_
    refine PR.op rfl (Rd.moveT rfl) ?_
    refine PR.nil ?_
    refine PT.fork ?_ ?_
    rotate_left
    · refine PT.seg ?_
      refine PR.guard_on rfl rfl h_33 ?_
      refine PR.rdE rfl rfl (Rd.loadBox rfl rfl rfl) ?_
      refine PR.guard_on rfl rfl h_33 ?_
      refine PR.rdE rfl rfl (Rd.loadBox rfl rfl rfl) ?_
      refine PR.guard_on rfl rfl h_33 ?_
      refine PR.callM true [] (w_I_ReleasePages N r4 r2.2 r34 h_35) rfl Try.call38 rfl ⟨.aggL ⟨.t _, .own rfl (by first | decide | exact List.not_mem_nil) rfl rfl, .own rfl (by first | decide | exact List.not_mem_nil) rfl rfl, trivial⟩, .t _, trivial⟩ rfl trivial (fun _ => ⟨⟨trivial, trivial, trivial, trivial⟩, (flat_cons flat_ow (flat_cons flat_ow flat_nil))⟩) rfl ?_
      refine PR.nm (.agg [iA r34.pages, .os 10 0 r34.free.length, .os 11 0 r34.held.length]) [some ⟨.mx [iA r2.1.pages, sL r2.1.free, .os 1 0 r2.1.held.length], 30, 0⟩, some ⟨.tr (eL r2.1.held), 42, 2⟩, some ⟨.mx [iA r4.pages, .os 3 0 r4.free.length, .os 4 0 r4.held.length], 30, 0⟩, some ⟨.tr (eL r4.free), 3, 1⟩, some ⟨.tr (eL r4.held), 42, 2⟩, some ⟨.tr (eL r21.free), 3, 1⟩, some ⟨.tr (eL r21.held), 42, 2⟩, some ⟨.mx [iA r21.pages, .os 5 0 r21.free.length, .os 6 0 r21.held.length], 30, 0⟩, some ⟨.tr (eL r26), 3, 1⟩, some ⟨.tr (eL r28), 3, 1⟩, some ⟨.tr (eL r34.free), 3, 1⟩, some ⟨.tr (eL r34.held), 42, 2⟩] rfl rfl ?_
      refine PR.guard_on rfl rfl h_33 ?_
      refine PR.callM true [] (w_L_equalSpace N r34 r4 r36 h_37) rfl Try.call35 rfl ⟨.aggL ⟨.t _, .own rfl (by first | decide | exact List.not_mem_nil) rfl rfl, .own rfl (by first | decide | exact List.not_mem_nil) rfl rfl, trivial⟩, .aggL ⟨.t _, .own rfl (by first | decide | exact List.not_mem_nil) rfl rfl, .own rfl (by first | decide | exact List.not_mem_nil) rfl rfl, trivial⟩, trivial⟩ rfl trivial (fun _ => ⟨trivial, flat_nil⟩) rfl ?_
      refine PR.op rfl (Rd.pick_t rfl h_33) ?_
      refine PR.op rfl (Rd.asnT rfl) ?_
      refine PR.nil ?_
      refine PT.done ?_
      refine PL.nil ?_
      refine thA_n ?_
      exact ⟨(), trivial, [], ⟨rfl, rfl, trivial, ⟨.t _, trivial⟩⟩⟩
    refine PT.seg ?_
    refine PR.guard_on rfl rfl h_33 ?_
    refine PR.rdE rfl rfl (Rd.loadBox rfl rfl rfl) ?_
    refine PR.nil ?_
    refine PT.fork ?_ ?_
    · refine PT.seg ?_
      refine PR.guard_on rfl rfl h_33 ?_
      refine PR.callM true [] (w_I_ReleasePages N r4 r2.2 r34 h_35) rfl Try.call38 rfl ⟨.aggL ⟨.t _, .own rfl (by first | decide | exact List.not_mem_nil) rfl rfl, .own rfl (by first | decide | exact List.not_mem_nil) rfl rfl, trivial⟩, .t _, trivial⟩ rfl trivial (fun _ => ⟨⟨trivial, trivial, trivial, trivial⟩, (flat_cons flat_ow (flat_cons flat_ow flat_nil))⟩) rfl ?_
      refine PR.nm (.agg [iA r34.pages, .os 10 0 r34.free.length, .os 11 0 r34.held.length]) [some ⟨.mx [iA r2.1.pages, sL r2.1.free, .os 1 0 r2.1.held.length], 30, 0⟩, some ⟨.tr (eL r2.1.held), 42, 2⟩, some ⟨.mx [iA r4.pages, .os 3 0 r4.free.length, .os 4 0 r4.held.length], 30, 0⟩, some ⟨.tr (eL r4.free), 3, 1⟩, some ⟨.tr (eL r4.held), 42, 2⟩, some ⟨.tr (eL r21.free), 3, 1⟩, some ⟨.tr (eL r21.held), 42, 2⟩, some ⟨.mx [iA r21.pages, .os 5 0 r21.free.length, .os 6 0 r21.held.length], 30, 0⟩, some ⟨.tr (eL r26), 3, 1⟩, some ⟨.tr (eL r28), 3, 1⟩, some ⟨.tr (eL r34.free), 3, 1⟩, some ⟨.tr (eL r34.held), 42, 2⟩] rfl rfl ?_
      refine PR.guard_on rfl rfl h_33 ?_
      refine PR.rdE rfl rfl (Rd.loadBox rfl rfl rfl) ?_
      refine PR.guard_on rfl rfl h_33 ?_
      refine PR.callM true [] (w_L_equalSpace N r34 r4 r36 h_37) rfl Try.call35 rfl ⟨.aggL ⟨.t _, .own rfl (by first | decide | exact List.not_mem_nil) rfl rfl, .own rfl (by first | decide | exact List.not_mem_nil) rfl rfl, trivial⟩, .aggL ⟨.t _, .own rfl (by first | decide | exact List.not_mem_nil) rfl rfl, .own rfl (by first | decide | exact List.not_mem_nil) rfl rfl, trivial⟩, trivial⟩ rfl trivial (fun _ => ⟨trivial, flat_nil⟩) rfl ?_
      refine PR.op rfl (Rd.pick_t rfl h_33) ?_
      refine PR.op rfl (Rd.asnT rfl) ?_
      refine PR.nil ?_
      refine PT.done ?_
      refine PL.nil ?_
      refine thA_n ?_
      exact ⟨(), trivial, [], ⟨rfl, rfl, trivial, ⟨.t _, trivial⟩⟩⟩
    refine PT.seg ?_
    refine PR.guard_on rfl rfl h_33 ?_
    refine PR.rdE rfl rfl (Rd.loadBox rfl rfl rfl) ?_
    refine PR.guard_on rfl rfl h_33 ?_
    refine PR.callM true [] (w_I_ReleasePages N r4 r2.2 r34 h_35) rfl Try.call38 rfl ⟨.aggL ⟨.t _, .own rfl (by first | decide | exact List.not_mem_nil) rfl rfl, .own rfl (by first | decide | exact List.not_mem_nil) rfl rfl, trivial⟩, .t _, trivial⟩ rfl trivial (fun _ => ⟨⟨trivial, trivial, trivial, trivial⟩, (flat_cons flat_ow (flat_cons flat_ow flat_nil))⟩) rfl ?_
    refine PR.nm (.agg [iA r34.pages, .os 10 0 r34.free.length, .os 11 0 r34.held.length]) [some ⟨.mx [iA r2.1.pages, sL r2.1.free, .os 1 0 r2.1.held.length], 30, 0⟩, some ⟨.tr (eL r2.1.held), 42, 2⟩, some ⟨.mx [iA r4.pages, .os 3 0 r4.free.length, .os 4 0 r4.held.length], 30, 0⟩, some ⟨.tr (eL r4.free), 3, 1⟩, some ⟨.tr (eL r4.held), 42, 2⟩, some ⟨.tr (eL r21.free), 3, 1⟩, some ⟨.tr (eL r21.held), 42, 2⟩, some ⟨.mx [iA r21.pages, .os 5 0 r21.free.length, .os 6 0 r21.held.length], 30, 0⟩, some ⟨.tr (eL r26), 3, 1⟩, some ⟨.tr (eL r28), 3, 1⟩, some ⟨.tr (eL r34.free), 3, 1⟩, some ⟨.tr (eL r34.held), 42, 2⟩] rfl rfl ?_
    refine PR.guard_on rfl rfl h_33 ?_
    refine PR.callM true [] (w_L_equalSpace N r34 r4 r36 h_37) rfl Try.call35 rfl ⟨.aggL ⟨.t _, .own rfl (by first | decide | exact List.not_mem_nil) rfl rfl, .own rfl (by first | decide | exact List.not_mem_nil) rfl rfl, trivial⟩, .aggL ⟨.t _, .own rfl (by first | decide | exact List.not_mem_nil) rfl rfl, .own rfl (by first | decide | exact List.not_mem_nil) rfl rfl, trivial⟩, trivial⟩ rfl trivial (fun _ => ⟨trivial, flat_nil⟩) rfl ?_
    refine PR.op rfl (Rd.pick_t rfl h_33) ?_
    refine PR.op rfl (Rd.asnT rfl) ?_
    refine PR.nil ?_
    refine PT.done ?_
    refine PL.nil ?_
    refine thA_n ?_
    exact ⟨(), trivial, [], ⟨rfl, rfl, trivial, ⟨.t _, trivial⟩⟩⟩
  rintro ⟨⟩ -
  refine PC.ret ?_
  obtain rfl := some_in hh0
  exact FinA.mk (r := bA r36) (bl := []) [] (.inl rfl) rfl (rl := [.tmp 2]) (.tmp .nil) rfl rfl rfl (.t _) trivial ⟨rfl, rfl⟩

end V
end Go.Proofs.Ytambkpacecjheaa
