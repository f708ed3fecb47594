/- Space: an exact law's function. No condition. -/
import Derived.Test.YtambkpacecjheaaPlSpX
namespace Go.Proofs.Ytambkpacecjheaa
namespace V
open Enc (enc)
set_option linter.unusedVariables false
set_option linter.unusedSimpArgs false
set_option maxHeartbeats 4000000
set_option maxRecDepth 100000
open Go.RowKit
attribute [local irreducible] thA inA FinA eL

def m_L_FnExactValidSpace (N : Nat) (p_aS : L_Space) : Option (Bool) :=
  (m_L_szSpace N p_aS (1048576 : Int)).bind fun r1 =>
  cond (decide (r1 < (0 : Int)))
    (some true)
    ((m_L_toSpace N p_aS).bind fun r4 =>
    (m_S_ValidSpace N r4).bind fun r6 =>
    (m_L_toSpace N p_aS).bind fun r8 =>
    (m_I_ValidSpace N r8).bind fun r10 =>
    cond (r10 == r6)
      ((m_L_toSpace N p_aS).bind fun r13 =>
      (m_L_eqSpace N r8 r13).bind fun r15 =>
      cond r15
        (some true)
        (some false))
      (some false))
theorem w_L_FnExactValidSpace (N : Nat) (p_aS : L_Space) (r : Bool) (hh0 : m_L_FnExactValidSpace N p_aS = some r) : FnX Try.prog 3 [] [.agg [iA p_aS.pages, sL p_aS.free, sL p_aS.held]] (RE (bA r) []) := by
  unfold m_L_FnExactValidSpace at hh0
  refine FnX.mk Try.func3 rfl rfl ?_
  intro s hs
  refine PC.seq ?_
  refine PC.region ?_
  refine PL.ef rfl (Ef.box rfl rfl rfl) ?_
  refine PL.nm (.op 0 0) [some ⟨.mx [iA p_aS.pages, sL p_aS.free, sL p_aS.held], 25, 0⟩] rfl rfl ?_
  refine PL.op rfl (Rd.asnT rfl) ?_
  refine PL.nil ?_
  refine thA_n ?_
  refine PC.seq ?_
  refine PC.region ?_
  refine PL.op rfl (Rd.asnT rfl) ?_
  refine PL.nil ?_
  refine thA_n ?_
  refine PC.seq ?_
  obtain ⟨r1, h_2, hh0⟩ := bind_some hh0
  refine PC.region ?_
  refine PL.op rfl (Rd.loadBox rfl rfl rfl) ?_
  refine PL.op rfl (Rd.moveT rfl) ?_
  refine PL.callM false [] (w_L_szSpace N p_aS (1048576 : Int) r1 h_2) rfl Try.call14 rfl ⟨.aggL ⟨.t _, .t _, .t _, trivial⟩, .t _, trivial⟩ rfl trivial (fun h => by cases h) ?_
  refine PL.op rfl (Rd.asnT rfl) ?_
  refine PL.nil ?_
  refine thA_n ?_
  refine PC.seq ?_
  refine PC.seq ?_
  refine PC.region ?_
  refine PL.op rfl (Rd.moveT rfl) ?_
  refine PL.op rfl (Rd.lss rfl rfl) ?_
  refine PL.nil ?_
  refine thA_n ?_
  rcases cond_some hh0 with ⟨h_3, hh0⟩ | ⟨h_3, hh0⟩
  · refine PC.cond_true rfl h_3 ?_
    refine PC.seq ?_
    refine PC.region ?_
    refine PL.op rfl (Rd.asnT rfl) ?_
    refine PL.nil ?_
    refine thA_n ?_
    refine PC.ret ?_
    refine thA_r ?_
    obtain rfl := some_in hh0
    exact FinA.mk (r := bA true) (bl := []) [] (.inl rfl) rfl (rl := [.tmp 2]) (.tmp .nil) rfl rfl rfl (.t _) trivial ⟨rfl, rfl⟩
  refine PC.cond_false rfl h_3 ?_
  refine PC.skip ?_
  refine thA_n ?_
  refine PC.seq ?_
  obtain ⟨r4, h_5, hh0⟩ := bind_some hh0
  obtain ⟨r6, h_7, hh0⟩ := bind_some hh0
  refine PC.region ?_
  refine PL.op rfl (Rd.loadBox rfl rfl rfl) ?_
  refine PL.callM false [] (w_L_toSpace N p_aS r4 h_5) rfl Try.call16 rfl ⟨.aggL ⟨.t _, .t _, .t _, trivial⟩, trivial⟩ rfl trivial (fun h => by cases h) ?_
  refine PL.nm (.agg [iA r4.pages, .os 1 0 r4.free.length, .os 2 0 r4.held.length]) [some ⟨.mx [iA p_aS.pages, sL p_aS.free, sL p_aS.held], 25, 0⟩, some ⟨.tr (eL r4.free), 3, 1⟩, some ⟨.tr (eL r4.held), 42, 2⟩] rfl rfl ?_
  refine PL.callM true [] (w_S_ValidSpace N r4 r6 h_7) rfl Try.call15 rfl ⟨.aggL ⟨.t _, .own rfl (by first | decide | exact List.not_mem_nil) rfl rfl, .own rfl (by first | decide | exact List.not_mem_nil) rfl rfl, trivial⟩, trivial⟩ rfl trivial (fun _ => ⟨trivial, flat_nil⟩) ?_
  refine PL.op rfl (Rd.asnT rfl) ?_
  refine PL.nil ?_
  refine thA_n ?_
  refine PC.seq ?_
  obtain ⟨r8, h_9, hh0⟩ := bind_some hh0
  refine PC.region ?_
  refine PL.op rfl (Rd.loadBox rfl rfl rfl) ?_
  refine PL.callM false [] (w_L_toSpace N p_aS r8 h_9) rfl Try.call16 rfl ⟨.aggL ⟨.t _, .t _, .t _, trivial⟩, trivial⟩ rfl trivial (fun h => by cases h) ?_
  refine PL.nm (.agg [iA r8.pages, .os 3 0 r8.free.length, .os 4 0 r8.held.length]) [some ⟨.mx [iA p_aS.pages, sL p_aS.free, sL p_aS.held], 25, 0⟩, some ⟨.tr (eL r4.free), 3, 1⟩, some ⟨.tr (eL r4.held), 42, 2⟩, some ⟨.tr (eL r8.free), 3, 1⟩, some ⟨.tr (eL r8.held), 42, 2⟩] rfl rfl ?_
  refine PL.ef rfl (Ef.alloc rfl rfl) ?_
  refine PL.nm (.op 5 0) [some ⟨.mx [iA p_aS.pages, sL p_aS.free, sL p_aS.held], 25, 0⟩, some ⟨.tr (eL r4.free), 3, 1⟩, some ⟨.tr (eL r4.held), 42, 2⟩, some ⟨.tr (eL r8.free), 3, 1⟩, some ⟨.tr (eL r8.held), 42, 2⟩, some ⟨.mx [iA (0 : Int), .t (.v (.slice none 0 0)), .t (.v (.slice none 0 0))], 30, 0⟩] rfl rfl ?_
  refine PL.store rfl rfl rfl rfl rfl rfl rfl ?_
  refine PL.nO [some ⟨.mx [iA p_aS.pages, sL p_aS.free, sL p_aS.held], 25, 0⟩, some ⟨.tr (eL r4.free), 3, 1⟩, some ⟨.tr (eL r4.held), 42, 2⟩, some ⟨.tr (eL r8.free), 3, 1⟩, some ⟨.tr (eL r8.held), 42, 2⟩, some ⟨.mx [iA r8.pages, .os 3 0 r8.free.length, .os 4 0 r8.held.length], 30, 0⟩] rfl ?_
  refine PL.nil ?_
  refine thA_n ?_
  refine PC.seq ?_
  obtain ⟨r10, h_11, hh0⟩ := bind_some hh0
  refine PC.region ?_
  refine PL.op rfl (Rd.loadBox rfl rfl rfl) ?_
  refine PL.callM true [] (w_I_ValidSpace N r8 r10 h_11) rfl Try.call17 rfl ⟨.aggL ⟨.t _, .own rfl (by first | decide | exact List.not_mem_nil) rfl rfl, .own rfl (by first | decide | exact List.not_mem_nil) rfl rfl, trivial⟩, trivial⟩ rfl trivial (fun _ => ⟨trivial, flat_nil⟩) ?_
  refine PL.op rfl (Rd.asnT rfl) ?_
  refine PL.nil ?_
  refine thA_n ?_
  refine PC.seq ?_
  refine PC.seq ?_
  refine PC.region ?_
  refine PL.op rfl (Rd.moveT rfl) ?_
  refine PL.op rfl (Rd.moveT rfl) ?_
  refine PL.op rfl (Rd.neqB rfl rfl) ?_
  refine PL.nil ?_
  refine thA_n ?_
  rcases cond_some hh0 with ⟨h_12, hh0⟩ | ⟨h_12, hh0⟩
  rotate_left
  · refine PC.cond_true rfl (not_f h_12) ?_
    refine PC.seq ?_
    refine PC.region ?_
    refine PL.op rfl (Rd.asnT rfl) ?_
    refine PL.nil ?_
    refine thA_n ?_
    refine PC.ret ?_
    refine thA_r ?_
    obtain rfl := some_in hh0
    exact FinA.mk (r := bA false) (bl := []) [] (.inl rfl) rfl (rl := [.tmp 2]) (.tmp .nil) rfl rfl rfl (.t _) trivial ⟨rfl, rfl⟩
  refine PC.cond_false rfl (not_t h_12) ?_
  refine PC.skip ?_
  refine thA_n ?_
  refine PC.seq ?_
  obtain ⟨r13, h_14, hh0⟩ := bind_some hh0
  obtain ⟨r15, h_16, hh0⟩ := bind_some hh0
  refine PC.cut hs (fun _ : Unit => [(26, bA (!r15))]) (fun _ => []) (fun _ => True) ?_ ?_
  · refine PC.any (id := 10) 5 (.seg [1] (.fork (.seg [0, 2, 3, 4] .done) (.seg [2, 0, 3, 4] .done))) [] rfl (by kernel_rfl) rfl ?_
    refine PT.seg ?_
    refine PR.op rfl (Rd.loadBox rfl rfl rfl) ?_
    refine PR.nil ?_
    refine PT.fork ?_ ?_
    · refine PT.seg ?_
      refine PR.rdE rfl rfl (Rd.loadBox rfl rfl rfl) ?_
      refine PR.callM false [] (w_L_toSpace N p_aS r13 h_14) rfl Try.call16 rfl ⟨.aggL ⟨.t _, .t _, .t _, trivial⟩, trivial⟩ rfl trivial (fun h => by cases h) rfl ?_
      refine PR.nm (.agg [iA r13.pages, .os 6 0 r13.free.length, .os 7 0 r13.held.length]) [some ⟨.mx [iA p_aS.pages, sL p_aS.free, sL p_aS.held], 25, 0⟩, some ⟨.tr (eL r4.free), 3, 1⟩, some ⟨.tr (eL r4.held), 42, 2⟩, some ⟨.tr (eL r8.free), 3, 1⟩, some ⟨.tr (eL r8.held), 42, 2⟩, some ⟨.mx [iA r8.pages, .os 3 0 r8.free.length, .os 4 0 r8.held.length], 30, 0⟩, some ⟨.tr (eL r13.free), 3, 1⟩, some ⟨.tr (eL r13.held), 42, 2⟩] rfl rfl ?_
      refine PR.callM true [] (w_L_eqSpace N r8 r13 r15 h_16) rfl Try.call18 rfl ⟨.aggL ⟨.t _, .own rfl (by first | decide | exact List.not_mem_nil) rfl rfl, .own rfl (by first | decide | exact List.not_mem_nil) rfl rfl, trivial⟩, .aggL ⟨.t _, .own rfl (by first | decide | exact List.not_mem_nil) rfl rfl, .own rfl (by first | decide | exact List.not_mem_nil) rfl rfl, trivial⟩, trivial⟩ rfl trivial (fun _ => ⟨trivial, flat_nil⟩) rfl ?_
      refine PR.op rfl (Rd.unnot rfl) ?_
      refine PR.nil ?_
      refine PT.done ?_
      refine PL.nil ?_
      refine thA_n ?_
      exact ⟨(), trivial, [], ⟨rfl, rfl, trivial, ⟨.t _, trivial⟩⟩⟩
    refine PT.seg ?_
    refine PR.callM false [] (w_L_toSpace N p_aS r13 h_14) rfl Try.call16 rfl ⟨.aggL ⟨.t _, .t _, .t _, trivial⟩, trivial⟩ rfl trivial (fun h => by cases h) rfl ?_
    refine PR.nm (.agg [iA r13.pages, .os 6 0 r13.free.length, .os 7 0 r13.held.length]) [some ⟨.mx [iA p_aS.pages, sL p_aS.free, sL p_aS.held], 25, 0⟩, some ⟨.tr (eL r4.free), 3, 1⟩, some ⟨.tr (eL r4.held), 42, 2⟩, some ⟨.tr (eL r8.free), 3, 1⟩, some ⟨.tr (eL r8.held), 42, 2⟩, some ⟨.mx [iA r8.pages, .os 3 0 r8.free.length, .os 4 0 r8.held.length], 30, 0⟩, some ⟨.tr (eL r13.free), 3, 1⟩, some ⟨.tr (eL r13.held), 42, 2⟩] rfl rfl ?_
    refine PR.rdE rfl rfl (Rd.loadBox rfl rfl rfl) ?_
    refine PR.callM true [] (w_L_eqSpace N r8 r13 r15 h_16) rfl Try.call18 rfl ⟨.aggL ⟨.t _, .own rfl (by first | decide | exact List.not_mem_nil) rfl rfl, .own rfl (by first | decide | exact List.not_mem_nil) rfl rfl, trivial⟩, .aggL ⟨.t _, .own rfl (by first | decide | exact List.not_mem_nil) rfl rfl, .own rfl (by first | decide | exact List.not_mem_nil) rfl rfl, trivial⟩, trivial⟩ rfl trivial (fun _ => ⟨trivial, flat_nil⟩) rfl ?_
    refine PR.op rfl (Rd.unnot rfl) ?_
    refine PR.nil ?_
    refine PT.done ?_
    refine PL.nil ?_
    refine thA_n ?_
    exact ⟨(), trivial, [], ⟨rfl, rfl, trivial, ⟨.t _, trivial⟩⟩⟩
  rintro ⟨⟩ -
  rcases cond_some hh0 with ⟨h_17, hh0⟩ | ⟨h_17, hh0⟩
  rotate_left
  · refine PC.cond_true rfl (not_f h_17) ?_
    refine PC.seq ?_
    refine PC.region ?_
    refine PL.op rfl (Rd.asnT rfl) ?_
    refine PL.nil ?_
    refine thA_n ?_
    refine PC.ret ?_
    refine thA_r ?_
    obtain rfl := some_in hh0
    exact FinA.mk (r := bA false) (bl := []) [] (.inl rfl) rfl (rl := [.tmp 2]) (.tmp .nil) rfl rfl rfl (.t _) trivial ⟨rfl, rfl⟩
  refine PC.cond_false rfl (not_t h_17) ?_
  refine PC.skip ?_
  refine thA_n ?_
  refine PC.seq ?_
  refine PC.region ?_
  refine PL.op rfl (Rd.asnT rfl) ?_
  refine PL.nil ?_
  refine thA_n ?_
  refine PC.ret ?_
  obtain rfl := some_in hh0
  exact FinA.mk (r := bA true) (bl := []) [] (.inl rfl) rfl (rl := [.tmp 2]) (.tmp .nil) rfl rfl rfl (.t _) trivial ⟨rfl, rfl⟩

end V
end Go.Proofs.Ytambkpacecjheaa
