/- Space: what draws need. No condition. -/
import Derived.Test.YtambkpacecjheaaSpAa
namespace Go.Proofs.Ytambkpacecjheaa
namespace V
open Enc (enc)
set_option linter.unusedVariables false
set_option linter.unusedSimpArgs false
set_option maxHeartbeats 4000000
set_option maxRecDepth 100000
open Go.RowKit
attribute [local irreducible] thA inA FinA eL

def m_S_TakePage (N : Nat) (p_s : I_Space) : Option (I_Space × Int × Bool) :=
  (m_S_validSpace N p_s).bind fun r1 =>
  cond r1
    (cond (decide ((p_s.free.length : Int) = (0 : Int)))
      (cond (decide (p_s.pages = (16 : Int)))
        (some ((I_Space.mk (0 : Int) ([] : List Int) ([] : List I_Hold)), (-1 : Int), false))
        ((m_S_copySpace N p_s).bind fun r6 =>
        (chk (p_s.pages + (1 : Int))).bind fun n8 =>
        some ((I_Space.mk n8 r6.free r6.held), p_s.pages, true)))
      ((m_S_copySpace N p_s).bind fun r10 =>
      (V.subM p_s.free (1 : Int) (p_s.free.length : Int)).bind fun xs12 =>
      (m_S_copyInts N xs12).bind fun r14 =>
      (ixI p_s.free (0 : Int)).bind fun x16 =>
      some ((I_Space.mk p_s.pages r14 r10.held), x16, true)))
    (some ((I_Space.mk (0 : Int) ([] : List Int) ([] : List I_Hold)), (-1 : Int), false))
theorem w_S_TakePage (N : Nat) (p_s : I_Space) (r : I_Space × Int × Bool) (hh0 : m_S_TakePage N p_s = some r) : FnX Try.prog 32 [] [.agg [iA p_s.pages, sL p_s.free, sL p_s.held]] (RE (.tup [.agg [iA r.1.pages, .os 0 0 r.1.free.length, .os 1 0 r.1.held.length], iA r.2.1, bA r.2.2]) [⟨.tr (eL r.1.free), 3, 1⟩, ⟨.tr (eL r.1.held), 42, 2⟩]) := by
  unfold m_S_TakePage at hh0
  refine FnX.mk Try.func32 rfl rfl ?_
  intro s hs
  refine PC.seq ?_
  refine PC.region ?_
  refine PL.ef rfl (Ef.box rfl rfl rfl) ?_
  refine PL.nm (.op 0 0) [some ⟨.mx [iA p_s.pages, sL p_s.free, sL p_s.held], 30, 0⟩] rfl rfl ?_
  refine PL.ef rfl (Ef.alloc rfl rfl) ?_
  refine PL.nm (.op 1 0) [some ⟨.mx [iA p_s.pages, sL p_s.free, sL p_s.held], 30, 0⟩, some ⟨.mx [iA (0 : Int), .t (.v (.slice none 0 0)), .t (.v (.slice none 0 0))], 30, 0⟩] rfl rfl ?_
  refine PL.op rfl (Rd.asnT rfl) ?_
  refine PL.op rfl (Rd.asnT rfl) ?_
  refine PL.nil ?_
  refine thA_n ?_
  refine PC.seq ?_
  refine PC.seq ?_
  obtain ⟨r1, h_2, hh0⟩ := bind_some hh0
  rcases cond_some hh0 with ⟨h_3, hh0⟩ | ⟨h_3, hh0⟩
  rotate_left
  · refine PC.region ?_
    refine PL.op rfl (Rd.loadBox rfl rfl rfl) ?_
    refine PL.callM false [] (w_S_validSpace N p_s r1 h_2) rfl Try.call43 rfl ⟨.aggL ⟨.t _, .t _, .t _, trivial⟩, trivial⟩ rfl trivial (fun h => by cases h) ?_
    refine PL.op rfl (Rd.unnot rfl) ?_
    refine PL.op rfl (Rd.moveT rfl) ?_
    refine PL.guard_off rfl rfl (not_f h_3) ?_
    refine PL.guard_off rfl rfl (not_f h_3) ?_
    refine PL.guard_off rfl rfl (not_f h_3) ?_
    refine PL.guard_off rfl rfl (not_f h_3) ?_
    refine PL.guard_off rfl rfl (not_f h_3) ?_
    refine PL.guard_un rfl rfl ?_
    refine PL.guard_un rfl rfl ?_
    refine PL.guard_un rfl rfl ?_
    refine PL.guard_off rfl rfl (not_f h_3) ?_
    refine PL.op rfl (Rd.pick_t rfl (not_f h_3)) ?_
    refine PL.nil ?_
    refine thA_n ?_
    refine PC.cond_true rfl rfl ?_
    refine PC.seq ?_
    refine PC.region ?_
    refine PL.op rfl (Rd.build rfl rfl rfl rfl) ?_
    refine PL.store rfl rfl rfl rfl rfl rfl rfl ?_
    refine PL.op rfl (Rd.asnT rfl) ?_
    refine PL.op rfl (Rd.asnT rfl) ?_
    refine PL.nil ?_
    refine thA_n ?_
    refine PC.ret ?_
    refine thA_r ?_
    obtain rfl := some_in hh0
    exact FinA.mk (r := .tup [.agg [iA (((I_Space.mk (0 : Int) ([] : List Int) ([] : List I_Hold)), (-1 : Int), false).1.pages), .os 0 0 ((((I_Space.mk (0 : Int) ([] : List Int) ([] : List I_Hold)), (-1 : Int), false).1.free).length), .os 1 0 ((((I_Space.mk (0 : Int) ([] : List Int) ([] : List I_Hold)), (-1 : Int), false).1.held).length)], iA (((I_Space.mk (0 : Int) ([] : List Int) ([] : List I_Hold)), (-1 : Int), false).2.1), bA (((I_Space.mk (0 : Int) ([] : List Int) ([] : List I_Hold)), (-1 : Int), false).2.2)]) (bl := [⟨.tr (eL (((I_Space.mk (0 : Int) ([] : List Int) ([] : List I_Hold)), (-1 : Int), false).1.free)), 3, 1⟩, ⟨.tr (eL (((I_Space.mk (0 : Int) ([] : List Int) ([] : List I_Hold)), (-1 : Int), false).1.held)), 42, 2⟩]) [none, none] (.inl rfl) rfl (rl := [.cell 2 30, .tmp 3, .tmp 4]) (.cellN rfl rfl rfl rfl (.tmp (.tmp .nil))) rfl rfl rfl (.tupL ⟨.aggL ⟨.t _, .osn rfl, .osn rfl, trivial⟩, .t _, .t _, trivial⟩) ⟨ow_nil _, ow_nil _, trivial⟩ ⟨rfl, rfl⟩
  rcases cond_some hh0 with ⟨h_4, hh0⟩ | ⟨h_4, hh0⟩
  rotate_left
  · refine PC.region ?_
    refine PL.op rfl (Rd.loadBox rfl rfl rfl) ?_
    refine PL.callM false [] (w_S_validSpace N p_s r1 h_2) rfl Try.call43 rfl ⟨.aggL ⟨.t _, .t _, .t _, trivial⟩, trivial⟩ rfl trivial (fun h => by cases h) ?_
    refine PL.op rfl (Rd.unnot rfl) ?_
    refine PL.op rfl (Rd.moveT rfl) ?_
    refine PL.guard_on rfl (not_t h_3) ?_
    refine PL.op rfl (Rd.fieldO rfl rfl) ?_
    refine PL.guard_on rfl (not_t h_3) ?_
    refine PL.op rfl (Rd.loadO rfl rfl rfl) ?_
    refine PL.guard_on rfl (not_t h_3) ?_
    refine PL.op rfl (Rd.lenT rfl) ?_
    refine PL.guard_on rfl (not_t h_3) ?_
    refine PL.op rfl (Rd.eql rfl rfl) ?_
    refine PL.guard_on rfl (not_t h_3) ?_
    refine PL.op rfl (Rd.moveT rfl) ?_
    refine PL.guard_off rfl rfl h_4 ?_
    refine PL.guard_off rfl rfl h_4 ?_
    refine PL.guard_off rfl rfl h_4 ?_
    refine PL.guard_on rfl (not_t h_3) ?_
    refine PL.op rfl (Rd.pick_f rfl h_4) ?_
    refine PL.op rfl (Rd.pick_f rfl (not_t h_3)) ?_
    refine PL.nil ?_
    refine thA_n ?_
    refine PC.cond_false rfl rfl ?_
    refine PC.skip ?_
    refine thA_n ?_
    refine PC.seq ?_
    obtain ⟨r10, h_11, hh0⟩ := bind_some hh0
    refine PC.region ?_
    refine PL.op rfl (Rd.loadBox rfl rfl rfl) ?_
    refine PL.callM false [] (w_S_copySpace N p_s r10 h_11) rfl Try.call52 rfl ⟨.aggL ⟨.t _, .t _, .t _, trivial⟩, trivial⟩ rfl trivial (fun h => by cases h) ?_
    refine PL.nm (.agg [iA r10.pages, .os 2 0 r10.free.length, .os 3 0 r10.held.length]) [some ⟨.mx [iA p_s.pages, sL p_s.free, sL p_s.held], 30, 0⟩, some ⟨.mx [iA (0 : Int), .t (.v (.slice none 0 0)), .t (.v (.slice none 0 0))], 30, 0⟩, some ⟨.tr (eL r10.free), 3, 1⟩, some ⟨.tr (eL r10.held), 42, 2⟩] rfl rfl ?_
    refine PL.ef rfl (Ef.alloc rfl rfl) ?_
    refine PL.nm (.op 4 0) [some ⟨.mx [iA p_s.pages, sL p_s.free, sL p_s.held], 30, 0⟩, some ⟨.mx [iA (0 : Int), .t (.v (.slice none 0 0)), .t (.v (.slice none 0 0))], 30, 0⟩, some ⟨.tr (eL r10.free), 3, 1⟩, some ⟨.tr (eL r10.held), 42, 2⟩, some ⟨.mx [iA (0 : Int), .t (.v (.slice none 0 0)), .t (.v (.slice none 0 0))], 30, 0⟩] rfl rfl ?_
    refine PL.store rfl rfl rfl rfl rfl rfl rfl ?_
    refine PL.nO [some ⟨.mx [iA p_s.pages, sL p_s.free, sL p_s.held], 30, 0⟩, some ⟨.mx [iA (0 : Int), .t (.v (.slice none 0 0)), .t (.v (.slice none 0 0))], 30, 0⟩, some ⟨.tr (eL r10.free), 3, 1⟩, some ⟨.tr (eL r10.held), 42, 2⟩, some ⟨.mx [iA r10.pages, .os 2 0 r10.free.length, .os 3 0 r10.held.length], 30, 0⟩] rfl ?_
    refine PL.nil ?_
    refine thA_n ?_
    refine PC.seq ?_
    refine PC.seq ?_
    refine PC.region ?_
    refine PL.op rfl (Rd.fieldO rfl rfl) ?_
    refine PL.op rfl (Rd.loadO rfl rfl rfl) ?_
    refine PL.op rfl (Rd.lenT rfl) ?_
    refine PL.op rfl (Rd.eql rfl rfl) ?_
    refine PL.nil ?_
    refine thA_n ?_
    refine PC.cond_false rfl h_4 ?_
    refine PC.skip ?_
    refine thA_n ?_
    refine PC.seq ?_
    obtain ⟨xs12, h_13, hh0⟩ := bind_some hh0
    obtain ⟨r14, h_15, hh0⟩ := bind_some hh0
    obtain ⟨x16, h_17, hh0⟩ := bind_some hh0
    refine PC.any (id := 6) 16 (.seg [0, 1, 2, 3, 4, 6, 7, 9, 10, 11, 12, 5, 8, 13, 14, 15] .done) [1] rfl (by kernel_rfl) rfl ?_
    refine PT.seg ?_
    refine PR.op rfl (Rd.fieldO rfl rfl) ?_
    refine PR.op rfl (Rd.loadO rfl rfl rfl) ?_
    refine PR.op rfl (Rd.fieldO rfl rfl) ?_
    refine PR.op rfl (Rd.loadO rfl rfl rfl) ?_
    refine PR.op rfl (Rd.subTML rfl rfl h_13) ?_
    refine PR.op rfl (Rd.fieldO rfl rfl) ?_
    refine PR.op rfl (Rd.loadO rfl rfl rfl) ?_
    refine PR.op rfl (Rd.fieldO rfl rfl) ?_
    refine PR.op rfl (Rd.loadO rfl rfl rfl) ?_
    refine PR.op rfl (Rd.ixM rfl rfl h_17) ?_
    refine PR.op rfl (Rd.elM1 rfl h_17 rfl rfl) ?_
    refine PR.callM false [] (w_S_copyInts N xs12 r14 h_15) rfl Try.call55 rfl ⟨.t _, trivial⟩ rfl trivial (fun h => by cases h) rfl ?_
    refine PR.nm (.os 5 0 r14.length) [some ⟨.mx [iA p_s.pages, sL p_s.free, sL p_s.held], 30, 0⟩, some ⟨.mx [iA (0 : Int), .t (.v (.slice none 0 0)), .t (.v (.slice none 0 0))], 30, 0⟩, some ⟨.tr (eL r10.free), 3, 1⟩, some ⟨.tr (eL r10.held), 42, 2⟩, some ⟨.mx [iA r10.pages, .os 2 0 r10.free.length, .os 3 0 r10.held.length], 30, 0⟩, some ⟨.tr (eL r14), 3, 1⟩] rfl rfl ?_
    refine PR.op rfl (Rd.build rfl rfl rfl rfl) ?_
    refine PR.store rfl rfl rfl rfl rfl rfl rfl rfl ?_
    refine PR.nO [some ⟨.mx [iA p_s.pages, sL p_s.free, sL p_s.held], 30, 0⟩, some ⟨.mx [iA p_s.pages, .os 5 0 r14.length, .os 3 0 r10.held.length], 30, 0⟩, some ⟨.tr (eL r10.free), 3, 1⟩, some ⟨.tr (eL r10.held), 42, 2⟩, some ⟨.mx [iA r10.pages, .os 2 0 r10.free.length, .os 3 0 r10.held.length], 30, 0⟩, some ⟨.tr (eL r14), 3, 1⟩] rfl ?_
    refine PR.op rfl (Rd.asnT rfl) ?_
    refine PR.op rfl (Rd.asnT rfl) ?_
    refine PR.nil ?_
    refine PT.done ?_
    refine PL.nil ?_
    refine thA_n ?_
    refine PC.ret ?_
    obtain rfl := some_in hh0
    exact FinA.mk (r := .tup [.agg [iA (((I_Space.mk p_s.pages r14 r10.held), x16, true).1.pages), .os 0 0 ((((I_Space.mk p_s.pages r14 r10.held), x16, true).1.free).length), .os 1 0 ((((I_Space.mk p_s.pages r14 r10.held), x16, true).1.held).length)], iA (((I_Space.mk p_s.pages r14 r10.held), x16, true).2.1), bA (((I_Space.mk p_s.pages r14 r10.held), x16, true).2.2)]) (bl := [⟨.tr (eL (((I_Space.mk p_s.pages r14 r10.held), x16, true).1.free)), 3, 1⟩, ⟨.tr (eL (((I_Space.mk p_s.pages r14 r10.held), x16, true).1.held)), 42, 2⟩]) [some 5, some 3] (.inl rfl) rfl (rl := [.cell 2 30, .tmp 3, .tmp 4]) (.cellN rfl rfl rfl rfl (.tmp (.tmp .nil))) rfl rfl rfl (.tupL ⟨.aggL ⟨.t _, .os rfl, .os rfl, trivial⟩, .t _, .t _, trivial⟩) ⟨⟨_, rfl, rfl, rfl, .tr _⟩, ⟨_, rfl, rfl, rfl, .tr _⟩, trivial⟩ ⟨rfl, rfl⟩
  refine PC.region ?_
  refine PL.op rfl (Rd.loadBox rfl rfl rfl) ?_
  refine PL.callM false [] (w_S_validSpace N p_s r1 h_2) rfl Try.call43 rfl ⟨.aggL ⟨.t _, .t _, .t _, trivial⟩, trivial⟩ rfl trivial (fun h => by cases h) ?_
  refine PL.op rfl (Rd.unnot rfl) ?_
  refine PL.op rfl (Rd.moveT rfl) ?_
  refine PL.guard_on rfl (not_t h_3) ?_
  refine PL.op rfl (Rd.fieldO rfl rfl) ?_
  refine PL.guard_on rfl (not_t h_3) ?_
  refine PL.op rfl (Rd.loadO rfl rfl rfl) ?_
  refine PL.guard_on rfl (not_t h_3) ?_
  refine PL.op rfl (Rd.lenT rfl) ?_
  refine PL.guard_on rfl (not_t h_3) ?_
  refine PL.op rfl (Rd.eql rfl rfl) ?_
  refine PL.guard_on rfl (not_t h_3) ?_
  refine PL.op rfl (Rd.moveT rfl) ?_
  refine PL.guard_on rfl h_4 ?_
  refine PL.op rfl (Rd.fieldO rfl rfl) ?_
  refine PL.guard_on rfl h_4 ?_
  refine PL.op rfl (Rd.loadO rfl rfl rfl) ?_
  refine PL.guard_on rfl h_4 ?_
  refine PL.op rfl (Rd.eql rfl rfl) ?_
  refine PL.guard_on rfl (not_t h_3) ?_
  refine PL.op rfl (Rd.pick_t rfl h_4) ?_
  refine PL.op rfl (Rd.pick_f rfl (not_t h_3)) ?_
  refine PL.nil ?_
  refine thA_n ?_
  rcases cond_some hh0 with ⟨h_5, hh0⟩ | ⟨h_5, hh0⟩
  · refine PC.cond_true rfl h_5 ?_
    refine PC.seq ?_
    refine PC.region ?_
    refine PL.op rfl (Rd.build rfl rfl rfl rfl) ?_
    refine PL.store rfl rfl rfl rfl rfl rfl rfl ?_
    refine PL.op rfl (Rd.asnT rfl) ?_
    refine PL.op rfl (Rd.asnT rfl) ?_
    refine PL.nil ?_
    refine thA_n ?_
    refine PC.ret ?_
    refine thA_r ?_
    obtain rfl := some_in hh0
    exact FinA.mk (r := .tup [.agg [iA (((I_Space.mk (0 : Int) ([] : List Int) ([] : List I_Hold)), (-1 : Int), false).1.pages), .os 0 0 ((((I_Space.mk (0 : Int) ([] : List Int) ([] : List I_Hold)), (-1 : Int), false).1.free).length), .os 1 0 ((((I_Space.mk (0 : Int) ([] : List Int) ([] : List I_Hold)), (-1 : Int), false).1.held).length)], iA (((I_Space.mk (0 : Int) ([] : List Int) ([] : List I_Hold)), (-1 : Int), false).2.1), bA (((I_Space.mk (0 : Int) ([] : List Int) ([] : List I_Hold)), (-1 : Int), false).2.2)]) (bl := [⟨.tr (eL (((I_Space.mk (0 : Int) ([] : List Int) ([] : List I_Hold)), (-1 : Int), false).1.free)), 3, 1⟩, ⟨.tr (eL (((I_Space.mk (0 : Int) ([] : List Int) ([] : List I_Hold)), (-1 : Int), false).1.held)), 42, 2⟩]) [none, none] (.inl rfl) rfl (rl := [.cell 2 30, .tmp 3, .tmp 4]) (.cellN rfl rfl rfl rfl (.tmp (.tmp .nil))) rfl rfl rfl (.tupL ⟨.aggL ⟨.t _, .osn rfl, .osn rfl, trivial⟩, .t _, .t _, trivial⟩) ⟨ow_nil _, ow_nil _, trivial⟩ ⟨rfl, rfl⟩
  refine PC.cond_false rfl h_5 ?_
  refine PC.skip ?_
  refine thA_n ?_
  refine PC.seq ?_
  obtain ⟨r6, h_7, hh0⟩ := bind_some hh0
  refine PC.region ?_
  refine PL.op rfl (Rd.loadBox rfl rfl rfl) ?_
  refine PL.callM false [] (w_S_copySpace N p_s r6 h_7) rfl Try.call52 rfl ⟨.aggL ⟨.t _, .t _, .t _, trivial⟩, trivial⟩ rfl trivial (fun h => by cases h) ?_
  refine PL.nm (.agg [iA r6.pages, .os 2 0 r6.free.length, .os 3 0 r6.held.length]) [some ⟨.mx [iA p_s.pages, sL p_s.free, sL p_s.held], 30, 0⟩, some ⟨.mx [iA (0 : Int), .t (.v (.slice none 0 0)), .t (.v (.slice none 0 0))], 30, 0⟩, some ⟨.tr (eL r6.free), 3, 1⟩, some ⟨.tr (eL r6.held), 42, 2⟩] rfl rfl ?_
  refine PL.ef rfl (Ef.alloc rfl rfl) ?_
  refine PL.nm (.op 4 0) [some ⟨.mx [iA p_s.pages, sL p_s.free, sL p_s.held], 30, 0⟩, some ⟨.mx [iA (0 : Int), .t (.v (.slice none 0 0)), .t (.v (.slice none 0 0))], 30, 0⟩, some ⟨.tr (eL r6.free), 3, 1⟩, some ⟨.tr (eL r6.held), 42, 2⟩, some ⟨.mx [iA (0 : Int), .t (.v (.slice none 0 0)), .t (.v (.slice none 0 0))], 30, 0⟩] rfl rfl ?_
  refine PL.store rfl rfl rfl rfl rfl rfl rfl ?_
  refine PL.nO [some ⟨.mx [iA p_s.pages, sL p_s.free, sL p_s.held], 30, 0⟩, some ⟨.mx [iA (0 : Int), .t (.v (.slice none 0 0)), .t (.v (.slice none 0 0))], 30, 0⟩, some ⟨.tr (eL r6.free), 3, 1⟩, some ⟨.tr (eL r6.held), 42, 2⟩, some ⟨.mx [iA r6.pages, .os 2 0 r6.free.length, .os 3 0 r6.held.length], 30, 0⟩] rfl ?_
  refine PL.nil ?_
  refine thA_n ?_
  refine PC.seq ?_
  refine PC.seq ?_
  refine PC.region ?_
  refine PL.op rfl (Rd.fieldO rfl rfl) ?_
  refine PL.op rfl (Rd.loadO rfl rfl rfl) ?_
  refine PL.op rfl (Rd.lenT rfl) ?_
  refine PL.op rfl (Rd.eql rfl rfl) ?_
  refine PL.nil ?_
  refine thA_n ?_
  refine PC.cond_true rfl h_4 ?_
  refine PC.seq ?_
  obtain ⟨n8, h_9, hh0⟩ := bind_some hh0
  refine PC.any (id := 5) 13 (.seg [0, 1, 2, 3, 4, 5, 6, 7, 8, 9, 10, 11, 12] .done) [1] rfl (by kernel_rfl) rfl ?_
  refine PT.seg ?_
  refine PR.op rfl (Rd.fieldO rfl rfl) ?_
  refine PR.op rfl (Rd.loadO rfl rfl rfl) ?_
  refine PR.op rfl (Rd.addM rfl rfl h_9) ?_
  refine PR.op rfl (Rd.fieldO rfl rfl) ?_
  refine PR.op rfl (Rd.loadO rfl rfl rfl) ?_
  refine PR.op rfl (Rd.fieldO rfl rfl) ?_
  refine PR.op rfl (Rd.loadO rfl rfl rfl) ?_
  refine PR.op rfl (Rd.build rfl rfl rfl rfl) ?_
  refine PR.op rfl (Rd.fieldO rfl rfl) ?_
  refine PR.op rfl (Rd.loadO rfl rfl rfl) ?_
  refine PR.store rfl rfl rfl rfl rfl rfl rfl rfl ?_
  refine PR.nO [some ⟨.mx [iA p_s.pages, sL p_s.free, sL p_s.held], 30, 0⟩, some ⟨.mx [iA n8, .os 2 0 r6.free.length, .os 3 0 r6.held.length], 30, 0⟩, some ⟨.tr (eL r6.free), 3, 1⟩, some ⟨.tr (eL r6.held), 42, 2⟩, some ⟨.mx [iA r6.pages, .os 2 0 r6.free.length, .os 3 0 r6.held.length], 30, 0⟩] rfl ?_
  refine PR.op rfl (Rd.asnT rfl) ?_
  refine PR.op rfl (Rd.asnT rfl) ?_
  refine PR.nil ?_
  refine PT.done ?_
  refine PL.nil ?_
  refine thA_n ?_
  refine PC.ret ?_
  refine thA_r ?_
  obtain rfl := some_in hh0
  exact FinA.mk (r := .tup [.agg [iA (((I_Space.mk n8 r6.free r6.held), p_s.pages, true).1.pages), .os 0 0 ((((I_Space.mk n8 r6.free r6.held), p_s.pages, true).1.free).length), .os 1 0 ((((I_Space.mk n8 r6.free r6.held), p_s.pages, true).1.held).length)], iA (((I_Space.mk n8 r6.free r6.held), p_s.pages, true).2.1), bA (((I_Space.mk n8 r6.free r6.held), p_s.pages, true).2.2)]) (bl := [⟨.tr (eL (((I_Space.mk n8 r6.free r6.held), p_s.pages, true).1.free)), 3, 1⟩, ⟨.tr (eL (((I_Space.mk n8 r6.free r6.held), p_s.pages, true).1.held)), 42, 2⟩]) [some 2, some 3] (.inl rfl) rfl (rl := [.cell 2 30, .tmp 3, .tmp 4]) (.cellN rfl rfl rfl rfl (.tmp (.tmp .nil))) rfl rfl rfl (.tupL ⟨.aggL ⟨.t _, .os rfl, .os rfl, trivial⟩, .t _, .t _, trivial⟩) ⟨⟨_, rfl, rfl, rfl, .tr _⟩, ⟨_, rfl, rfl, rfl, .tr _⟩, trivial⟩ ⟨rfl, rfl⟩

def m_S_sorted_k2 (N : Nat) (v52 : (List Int)) : Option ((List Int)) :=
  some v52
def m_S_sorted_k3 (N : Nat) (k3 : Int) (v79 : (List Int)) : Option ((Int × (List Int)) ⊕ (List Int)) :=
  (chk (k3 + (1 : Int))).bind fun n85 =>
  some (.inl (n85, v79))
def m_S_sorted_b3 (N : Nat) (x59 : Int) (v60 : (List Int)) : Option ((Int × (List Int)) ⊕ (List Int)) :=
  cond (decide ((0 : Int) < x59))
    ((ixI v60 x59).bind fun x88 =>
    (chk (x59 - (1 : Int))).bind fun n90 =>
    (ixI v60 n90).bind fun x92 =>
    cond (decide (x88 < x92))
      ((chk (x59 - (1 : Int))).bind fun n95 =>
      (ixI v60 n95).bind fun x97 =>
      (chk (x59 - (1 : Int))).bind fun n99 =>
      (ixI (v60.set x59.toNat x97) n99).bind fun x101 =>
      (chk (x59 - (1 : Int))).bind fun n103 =>
      some (.inl (n103, ((v60.set x59.toNat x97).set n99.toNat x88))))
      (some (.inr v60)))
    (some (.inr v60))
def m_S_sorted_b2 (N : Nat) (k3 : Int) (v4 : (List Int)) : Option ((Int × (List Int)) ⊕ (List Int)) :=
  cond (decide (k3 < (v4.length : Int)))
    ((loopM (β := (List Int)) (fun s : Int × (List Int) => m_S_sorted_b3 N s.1 s.2) N (k3, v4)).bind fun e =>
    m_S_sorted_k3 N k3 e)
    (some (.inr v4))
def m_S_sorted (N : Nat) (p_list : (List Int)) : Option ((List Int)) :=
  (m_S_copyInts N p_list).bind fun r1 =>
  (loopM (β := (List Int)) (fun s : Int × (List Int) => m_S_sorted_b2 N s.1 s.2) N ((1 : Int), r1)).bind fun e =>
  m_S_sorted_k2 N e
theorem w_S_sorted (N : Nat) (p_list : (List Int)) (r : (List Int)) (hh0 : m_S_sorted N p_list = some r) : FnX Try.prog 60 [] [sL p_list] (RE (.os 0 0 r.length) [⟨.tr (eL r), 3, 1⟩]) := by
  unfold m_S_sorted at hh0
  refine FnX.mk Try.func60 rfl rfl ?_
  intro s hs
  refine PC.seq ?_
  refine PC.region ?_
  refine PL.op rfl (Rd.asnT rfl) ?_
  refine PL.nil ?_
  refine thA_n ?_
  refine PC.seq ?_
  obtain ⟨r1, h_2, hh0⟩ := bind_some hh0
  refine PC.region ?_
  refine PL.op rfl (Rd.moveT rfl) ?_
  refine PL.callM false [] (w_S_copyInts N p_list r1 h_2) rfl Try.call55 rfl ⟨.t _, trivial⟩ rfl trivial (fun h => by cases h) ?_
  refine PL.nm (.os 0 0 r1.length) [some ⟨.tr (eL r1), 3, 1⟩] rfl rfl ?_
  refine PL.op rfl (Rd.asnO rfl) ?_
  refine PL.nil ?_
  refine thA_n ?_
  refine PC.seq ?_
  refine PC.seq ?_
  refine PC.region ?_
  refine PL.op rfl (Rd.asnT rfl) ?_
  refine PL.nil ?_
  refine thA_n ?_
  obtain ⟨o53, h_54, hh0⟩ := bind_some hh0
  refine PC.cutE hs (fun x : (List Int) => [(3, .os 0 0 x.length)]) (fun x => [⟨.tr (eL x), 3, 1⟩]) (fun x => m_S_sorted_k2 N x = some r) ?_ ?_
  · refine PC.block ?_
    refine PC.loop hs (fun x : Nat × (Int × (List Int)) => [(3, .os 0 0 x.2.2.length), (4, iA x.2.1)]) (fun x => [⟨.tr (eL x.2.2), 3, 1⟩]) (fun x => loopM (β := (List Int)) (fun s : Int × (List Int) => m_S_sorted_b2 N s.1 s.2) x.1 x.2 = some o53) (fun x => x.1) (N, ((1 : Int), r1)) [some 0] ⟨rfl, rfl, ⟨⟨_, rfl, rfl, rfl, .tr _⟩, trivial⟩, ⟨.os rfl, .t _, trivial⟩⟩ h_54 ?_
    rintro ⟨f55_, k3, v4⟩ h_57
    obtain ⟨f55, y56, rfl, hh1, kk1⟩ := loopM_some h_57
    replace hh1 : m_S_sorted_b2 N k3 v4 = some y56 := hh1
    unfold m_S_sorted_b2 at hh1
    refine PC.seq ?_
    refine PC.seq ?_
    refine PC.region ?_
    refine PL.op rfl (Rd.moveT rfl) ?_
    refine PL.op rfl (Rd.moveO rfl) ?_
    refine PL.op rfl (Rd.lenO rfl rfl) ?_
    refine PL.op rfl (Rd.lss rfl rfl) ?_
    refine PL.nil ?_
    refine thA_n ?_
    rcases cond_some hh1 with ⟨h_58, hh1⟩ | ⟨h_58, hh1⟩
    rotate_left
    · refine PC.cond_false rfl h_58 ?_
      refine PC.exit ?_
      refine thA_e ?_
      refine thA_e ?_
      refine inA_eq rfl ?_
      refine thA_n ?_
      obtain rfl := some_in hh1
      obtain rfl : (v4 : (List Int)) = o53 := kk1
      exact ⟨v4, hh0, [some 0], ⟨rfl, rfl, ⟨⟨_, rfl, rfl, rfl, .tr _⟩, trivial⟩, ⟨.os rfl, trivial⟩⟩⟩
    refine PC.cond_true rfl h_58 ?_
    refine PC.skip ?_
    refine thA_n ?_
    refine PC.seq ?_
    refine PC.block ?_
    refine PC.seq ?_
    refine PC.region ?_
    refine PL.op rfl (Rd.moveT rfl) ?_
    refine PL.op rfl (Rd.asnT rfl) ?_
    refine PL.nil ?_
    refine thA_n ?_
    obtain ⟨o80, h_81, hh1⟩ := bind_some hh1
    refine PC.cutE hs (fun x : (List Int) => [(3, .os 0 0 x.length), (4, iA k3)]) (fun x => [⟨.tr (eL x), 3, 1⟩]) (fun x => m_S_sorted_k3 N k3 x = some y56) ?_ ?_
    · refine PC.block ?_
      refine PC.loop hs (fun x : Nat × (Int × (List Int)) => [(3, .os 0 0 x.2.2.length), (4, iA k3), (5, iA x.2.1)]) (fun x => [⟨.tr (eL x.2.2), 3, 1⟩]) (fun x => loopM (β := (List Int)) (fun s : Int × (List Int) => m_S_sorted_b3 N s.1 s.2) x.1 x.2 = some o80) (fun x => x.1) (N, (k3, v4)) [some 0] ⟨rfl, rfl, ⟨⟨_, rfl, rfl, rfl, .tr _⟩, trivial⟩, ⟨.os rfl, .t _, .t _, trivial⟩⟩ h_81 ?_
      rintro ⟨f82_, x59, v60⟩ h_84
      obtain ⟨f82, y83, rfl, hh2, kk2⟩ := loopM_some h_84
      replace hh2 : m_S_sorted_b3 N x59 v60 = some y83 := hh2
      unfold m_S_sorted_b3 at hh2
      refine PC.seq ?_
      refine PC.seq ?_
      rcases cond_some hh2 with ⟨h_87, hh2⟩ | ⟨h_87, hh2⟩
      rotate_left
      · refine PC.any (id := 6) 14 (.seg [0, 1, 2, 3, 4, 5, 6, 7, 8, 9, 10, 11, 12, 13] .done) [] rfl (by kernel_rfl) rfl ?_
        refine PT.seg ?_
        refine PR.op rfl (Rd.moveT rfl) ?_
        refine PR.op rfl (Rd.gtr rfl rfl) ?_
        refine PR.op rfl (Rd.moveT rfl) ?_
        refine PR.guard_off rfl rfl h_87 ?_
        refine PR.guard_off rfl rfl h_87 ?_
        refine PR.guard_off rfl rfl h_87 ?_
        refine PR.guard_off rfl rfl h_87 ?_
        refine PR.guard_off rfl rfl h_87 ?_
        refine PR.guard_off rfl rfl h_87 ?_
        refine PR.guard_off rfl rfl h_87 ?_
        refine PR.guard_off rfl rfl h_87 ?_
        refine PR.guard_off rfl rfl h_87 ?_
        refine PR.guard_off rfl rfl h_87 ?_
        refine PR.op rfl (Rd.pick_f rfl h_87) ?_
        refine PR.nil ?_
        refine PT.done ?_
        refine PL.nil ?_
        refine thA_n ?_
        refine PC.cond_false rfl rfl ?_
        refine PC.exit ?_
        refine thA_e ?_
        refine thA_e ?_
        refine inA_eq rfl ?_
        refine thA_n ?_
        obtain rfl := some_in hh2
        obtain rfl : (v60 : (List Int)) = o80 := kk2
        exact ⟨v60, hh1, [some 0], ⟨rfl, rfl, ⟨⟨_, rfl, rfl, rfl, .tr _⟩, trivial⟩, ⟨.os rfl, .t _, trivial⟩⟩⟩
      obtain ⟨x88, h_89, hh2⟩ := bind_some hh2
      obtain ⟨n90, h_91, hh2⟩ := bind_some hh2
      obtain ⟨x92, h_93, hh2⟩ := bind_some hh2
      refine PC.any (id := 6) 14 (.seg [0, 1, 2, 3, 4, 5, 6, 7, 8, 9, 10, 11, 12, 13] .done) [] rfl (by kernel_rfl) rfl ?_
      refine PT.seg ?_
      refine PR.op rfl (Rd.moveT rfl) ?_
      refine PR.op rfl (Rd.gtr rfl rfl) ?_
      refine PR.op rfl (Rd.moveT rfl) ?_
      refine PR.guard_on rfl rfl h_87 ?_
      refine PR.op rfl (Rd.moveO rfl) ?_
      refine PR.guard_on rfl rfl h_87 ?_
      refine PR.op rfl (Rd.moveT rfl) ?_
      refine PR.guard_on rfl rfl h_87 ?_
      refine PR.op rfl (Rd.ixOM rfl rfl rfl (ixI_lt h_89)) ?_
      refine PR.guard_on rfl rfl h_87 ?_
      refine PR.op rfl (Rd.owM1 rfl rfl h_89 rfl rfl) ?_
      refine PR.guard_on rfl rfl h_87 ?_
      refine PR.op rfl (Rd.moveO rfl) ?_
      refine PR.guard_on rfl rfl h_87 ?_
      refine PR.op rfl (Rd.moveT rfl) ?_
      refine PR.guard_on rfl rfl h_87 ?_
      refine PR.op rfl (Rd.subM rfl rfl h_91) ?_
      refine PR.guard_on rfl rfl h_87 ?_
      refine PR.op rfl (Rd.ixOM rfl rfl rfl (ixI_lt h_93)) ?_
      refine PR.guard_on rfl rfl h_87 ?_
      refine PR.op rfl (Rd.owM1 rfl rfl h_93 rfl rfl) ?_
      refine PR.guard_on rfl rfl h_87 ?_
      refine PR.op rfl (Rd.lss rfl rfl) ?_
      refine PR.op rfl (Rd.pick_t rfl h_87) ?_
      refine PR.nil ?_
      refine PT.done ?_
      refine PL.nil ?_
      refine thA_n ?_
      rcases cond_some hh2 with ⟨h_94, hh2⟩ | ⟨h_94, hh2⟩
      rotate_left
      · refine PC.cond_false rfl h_94 ?_
        refine PC.exit ?_
        refine thA_e ?_
        refine thA_e ?_
        refine inA_eq rfl ?_
        refine thA_n ?_
        obtain rfl := some_in hh2
        obtain rfl : (v60 : (List Int)) = o80 := kk2
        exact ⟨v60, hh1, [some 0], ⟨rfl, rfl, ⟨⟨_, rfl, rfl, rfl, .tr _⟩, trivial⟩, ⟨.os rfl, .t _, trivial⟩⟩⟩
      refine PC.cond_true rfl h_94 ?_
      refine PC.skip ?_
      refine thA_n ?_
      refine PC.seq ?_
      refine PC.block ?_
      refine PC.seq ?_
      refine PC.region ?_
      refine PL.op rfl (Rd.moveO rfl) ?_
      refine PL.op rfl (Rd.moveT rfl) ?_
      refine PL.op rfl (Rd.ixOM rfl rfl rfl (ixI_lt h_89)) ?_
      refine PL.op rfl (Rd.owM1 rfl rfl h_89 rfl rfl) ?_
      refine PL.op rfl (Rd.asnT rfl) ?_
      refine PL.nil ?_
      refine thA_n ?_
      refine PC.seq ?_
      obtain ⟨n95, h_96, hh2⟩ := bind_some hh2
      obtain ⟨x97, h_98, hh2⟩ := bind_some hh2
      refine PC.region ?_
      refine PL.op rfl (Rd.moveO rfl) ?_
      refine PL.op rfl (Rd.moveT rfl) ?_
      refine PL.op rfl (Rd.moveO rfl) ?_
      refine PL.op rfl (Rd.moveT rfl) ?_
      refine PL.op rfl (Rd.subM rfl rfl h_96) ?_
      refine PL.op rfl (Rd.ixOM rfl rfl rfl (ixI_lt h_98)) ?_
      refine PL.op rfl (Rd.owM1 rfl rfl h_98 rfl rfl) ?_
      refine PL.op rfl (Rd.ixOM rfl rfl rfl (ixI_lt h_89)) ?_
      refine PL.stRM x97 rfl rfl rfl rfl rfl h_89 rfl ?_
      refine PL.nO [some ⟨.tr (eL (v60.set x59.toNat x97)), 3, 1⟩] rfl ?_
      refine PL.nil ?_
      refine thA_n ?_
      obtain ⟨n99, h_100, hh2⟩ := bind_some hh2
      obtain ⟨x101, h_102, hh2⟩ := bind_some hh2
      refine PC.region ?_
      refine PL.op rfl (Rd.moveO rfl) ?_
      refine PL.op rfl (Rd.moveT rfl) ?_
      refine PL.op rfl (Rd.subM rfl rfl h_100) ?_
      refine PL.op rfl (Rd.moveT rfl) ?_
      refine PL.op rfl (Rd.ixOM rfl rfl rfl (by have hq := ixI_lt h_102; simp only [List.length_set] at hq ⊢; exact hq)) ?_
      refine PL.stRM x88 rfl rfl rfl rfl rfl h_102 rfl ?_
      refine PL.nO [some ⟨.tr (eL ((v60.set x59.toNat x97).set n99.toNat x88)), 3, 1⟩] rfl ?_
      refine PL.nil ?_
      refine inA_n ?_
      refine thA_n ?_
      obtain ⟨n103, h_104, hh2⟩ := bind_some hh2
      refine PC.region ?_
      refine PL.op rfl (Rd.moveT rfl) ?_
      refine PL.op rfl (Rd.subM rfl rfl h_104) ?_
      refine PL.op rfl (Rd.asnT rfl) ?_
      refine PL.nil ?_
      obtain rfl := some_in hh2
      refine thA_n ?_
      exact ⟨(f82, (n103, ((v60.set x59.toNat x97).set n99.toNat x88))), Nat.lt_succ_self _, kk2, [some 0], ⟨rfl, rfl, ⟨⟨_, rfl, rfl, rfl, .tr _⟩, trivial⟩, ⟨.osE rfl (by simp only [List.length_set]), .t _, .t _, trivial⟩⟩⟩
    clear hh1
    rintro v79 hh1
    replace hh1 : m_S_sorted_k3 N k3 v79 = some y56 := hh1
    unfold m_S_sorted_k3 at hh1
    refine inA_n ?_
    refine thA_n ?_
    obtain ⟨n85, h_86, hh1⟩ := bind_some hh1
    refine PC.region ?_
    refine PL.op rfl (Rd.moveT rfl) ?_
    refine PL.op rfl (Rd.addM rfl rfl h_86) ?_
    refine PL.op rfl (Rd.asnT rfl) ?_
    refine PL.nil ?_
    obtain rfl := some_in hh1
    refine thA_n ?_
    exact ⟨(f55, (n85, v79)), Nat.lt_succ_self _, kk1, [some 0], ⟨rfl, rfl, ⟨⟨_, rfl, rfl, rfl, .tr _⟩, trivial⟩, ⟨.os rfl, .t _, trivial⟩⟩⟩
  clear hh0
  rintro v52 hh0
  replace hh0 : m_S_sorted_k2 N v52 = some r := hh0
  unfold m_S_sorted_k2 at hh0
  refine thA_n ?_
  refine PC.seq ?_
  refine PC.region ?_
  refine PL.op rfl (Rd.moveO rfl) ?_
  refine PL.op rfl (Rd.asnO rfl) ?_
  refine PL.nil ?_
  refine thA_n ?_
  refine PC.ret ?_
  obtain rfl := some_in hh0
  exact FinA.mk (r := .os 0 0 v52.length) (bl := [⟨.tr (eL v52), 3, 1⟩]) [some 0] (.inl rfl) rfl (rl := [.tmp 2]) (.tmp .nil) rfl rfl rfl (.os rfl) ⟨⟨_, rfl, rfl, rfl, .tr _⟩, trivial⟩ ⟨rfl, rfl⟩

def m_S_ReleasePages_k1 (N : Nat) (p_s : I_Space) (v25 : (List Int)) (v26 : (List I_Hold)) : Option (I_Space) :=
  (m_S_sorted N v25).bind fun r32 =>
  some (I_Space.mk p_s.pages r32 v26)
def m_S_ReleasePages_b1 (N : Nat) (p_s : I_Space) (p_oldest : Int) (i6 : Int) (v7 : (List Int)) (v8 : (List I_Hold)) : Option ((Int × (List Int) × (List I_Hold)) ⊕ ((List Int) × (List I_Hold))) :=
  cond (decide (i6 < (p_s.held.length : Int)))
    ((ixI p_s.held i6).bind fun x35 =>
    cond (decide (x35.since < p_oldest))
      ((ixI p_s.held i6).bind fun x38 =>
      (appM 8 v7 [x38.page]).bind fun xs40 =>
      (chk (i6 + (1 : Int))).bind fun n42 =>
      some (.inl (n42, xs40, v8)))
      ((ixI p_s.held i6).bind fun x44 =>
      (appM 16 v8 [x44]).bind fun xs46 =>
      (chk (i6 + (1 : Int))).bind fun n48 =>
      some (.inl (n48, v7, xs46))))
    (some (.inr (v7, v8)))
def m_S_ReleasePages (N : Nat) (p_s : I_Space) (p_oldest : Int) : Option (I_Space) :=
  (m_S_validSpace N p_s).bind fun r1 =>
  cond r1
    ((m_S_copyInts N p_s.free).bind fun r4 =>
    (loopM (β := (List Int) × (List I_Hold)) (fun s : Int × (List Int) × (List I_Hold) => m_S_ReleasePages_b1 N p_s p_oldest s.1 s.2.1 s.2.2) N ((0 : Int), r4, ([] : List I_Hold))).bind fun e =>
    m_S_ReleasePages_k1 N p_s e.1 e.2)
    (some (I_Space.mk (0 : Int) ([] : List Int) ([] : List I_Hold)))
theorem w_S_ReleasePages (N : Nat) (p_s : I_Space) (p_oldest : Int) (r : I_Space) (hh0 : m_S_ReleasePages N p_s p_oldest = some r) : FnX Try.prog 39 [] [.agg [iA p_s.pages, sL p_s.free, sL p_s.held], iA p_oldest] (RE (.agg [iA r.pages, .os 0 0 r.free.length, .os 1 0 r.held.length]) [⟨.tr (eL r.free), 3, 1⟩, ⟨.tr (eL r.held), 42, 2⟩]) := by
  unfold m_S_ReleasePages at hh0
  refine FnX.mk Try.func39 rfl rfl ?_
  intro s hs
  refine PC.seq ?_
  refine PC.region ?_
  refine PL.ef rfl (Ef.box rfl rfl rfl) ?_
  refine PL.nm (.op 0 0) [some ⟨.mx [iA p_s.pages, sL p_s.free, sL p_s.held], 30, 0⟩] rfl rfl ?_
  refine PL.ef rfl (Ef.alloc rfl rfl) ?_
  refine PL.nm (.op 1 0) [some ⟨.mx [iA p_s.pages, sL p_s.free, sL p_s.held], 30, 0⟩, some ⟨.mx [iA (0 : Int), .t (.v (.slice none 0 0)), .t (.v (.slice none 0 0))], 30, 0⟩] rfl rfl ?_
  refine PL.nil ?_
  refine thA_n ?_
  refine PC.seq ?_
  refine PC.seq ?_
  obtain ⟨r1, h_2, hh0⟩ := bind_some hh0
  refine PC.region ?_
  refine PL.op rfl (Rd.loadBox rfl rfl rfl) ?_
  refine PL.callM false [] (w_S_validSpace N p_s r1 h_2) rfl Try.call43 rfl ⟨.aggL ⟨.t _, .t _, .t _, trivial⟩, trivial⟩ rfl trivial (fun h => by cases h) ?_
  refine PL.op rfl (Rd.unnot rfl) ?_
  refine PL.nil ?_
  refine thA_n ?_
  rcases cond_some hh0 with ⟨h_3, hh0⟩ | ⟨h_3, hh0⟩
  rotate_left
  · refine PC.cond_true rfl (not_f h_3) ?_
    refine PC.seq ?_
    refine PC.region ?_
    refine PL.op rfl (Rd.build rfl rfl rfl rfl) ?_
    refine PL.store rfl rfl rfl rfl rfl rfl rfl ?_
    refine PL.nil ?_
    refine thA_n ?_
    refine PC.ret ?_
    refine thA_r ?_
    obtain rfl := some_in hh0
    exact FinA.mk (r := .agg [iA (0 : Int), .os 0 0 0, .os 1 0 0]) (bl := [⟨.tr (eL ([] : List Int)), 3, 1⟩, ⟨.tr (eL ([] : List I_Hold)), 42, 2⟩]) [none, none] (.inl rfl) rfl (rl := [.cell 4 30]) (.cellN rfl rfl rfl rfl .nil) rfl rfl rfl (.aggL ⟨.t _, .osn rfl, .osn rfl, trivial⟩) ⟨ow_nil _, ow_nil _, trivial⟩ ⟨rfl, rfl⟩
  refine PC.cond_false rfl (not_t h_3) ?_
  refine PC.skip ?_
  refine thA_n ?_
  refine PC.seq ?_
  obtain ⟨r4, h_5, hh0⟩ := bind_some hh0
  refine PC.region ?_
  refine PL.op rfl (Rd.fieldO rfl rfl) ?_
  refine PL.op rfl (Rd.loadO rfl rfl rfl) ?_
  refine PL.callM false [] (w_S_copyInts N p_s.free r4 h_5) rfl Try.call55 rfl ⟨.t _, trivial⟩ rfl trivial (fun h => by cases h) ?_
  refine PL.nm (.os 2 0 r4.length) [some ⟨.mx [iA p_s.pages, sL p_s.free, sL p_s.held], 30, 0⟩, some ⟨.mx [iA (0 : Int), .t (.v (.slice none 0 0)), .t (.v (.slice none 0 0))], 30, 0⟩, some ⟨.tr (eL r4), 3, 1⟩] rfl rfl ?_
  refine PL.op rfl (Rd.asnO rfl) ?_
  refine PL.nil ?_
  refine thA_n ?_
  refine PC.seq ?_
  refine PC.region ?_
  refine PL.ef rfl (Ef.lit0M I_Hold) ?_
  refine PL.nm (.os 3 0 0) [some ⟨.mx [iA p_s.pages, sL p_s.free, sL p_s.held], 30, 0⟩, some ⟨.mx [iA (0 : Int), .t (.v (.slice none 0 0)), .t (.v (.slice none 0 0))], 30, 0⟩, some ⟨.tr (eL r4), 3, 1⟩, some ⟨.tr (eL ([] : List I_Hold)), 42, 2⟩] rfl rfl ?_
  refine PL.op rfl (Rd.asnO rfl) ?_
  refine PL.nil ?_
  refine thA_n ?_
  refine PC.seq ?_
  refine PC.seq ?_
  refine PC.region ?_
  refine PL.op rfl (Rd.asnT rfl) ?_
  refine PL.nil ?_
  refine thA_n ?_
  obtain ⟨o27, h_28, hh0⟩ := bind_some hh0
  refine PC.cutE hs (fun x : (List Int) × (List I_Hold) => [(2, .op 0 0), (4, .op 1 0), (5, .os 2 0 x.1.length), (6, .os 3 0 x.2.length)]) (fun x => [⟨.mx [iA p_s.pages, sL p_s.free, sL p_s.held], 30, 0⟩, ⟨.mx [iA (0 : Int), .t (.v (.slice none 0 0)), .t (.v (.slice none 0 0))], 30, 0⟩, ⟨.tr (eL x.1), 3, 1⟩, ⟨.tr (eL x.2), 42, 2⟩]) (fun x => m_S_ReleasePages_k1 N p_s x.1 x.2 = some r) ?_ ?_
  · refine PC.block ?_
    refine PC.loop hs (fun x : Nat × (Int × (List Int) × (List I_Hold)) => [(1, iA p_oldest), (2, .op 0 0), (4, .op 1 0), (5, .os 2 0 x.2.2.1.length), (6, .os 3 0 x.2.2.2.length), (7, iA x.2.1)]) (fun x => [⟨.mx [iA p_s.pages, sL p_s.free, sL p_s.held], 30, 0⟩, ⟨.mx [iA (0 : Int), .t (.v (.slice none 0 0)), .t (.v (.slice none 0 0))], 30, 0⟩, ⟨.tr (eL x.2.2.1), 3, 1⟩, ⟨.tr (eL x.2.2.2), 42, 2⟩]) (fun x => loopM (β := (List Int) × (List I_Hold)) (fun s : Int × (List Int) × (List I_Hold) => m_S_ReleasePages_b1 N p_s p_oldest s.1 s.2.1 s.2.2) x.1 x.2 = some o27) (fun x => x.1) (N, ((0 : Int), r4, ([] : List I_Hold))) [some 0, some 1, some 2, some 3] ⟨rfl, rfl, ⟨⟨_, rfl, rfl, rfl, .mx ⟨.t _, .t _, .t _, trivial⟩⟩, ⟨_, rfl, rfl, rfl, .mx ⟨.t _, .t _, .t _, trivial⟩⟩, ⟨_, rfl, rfl, rfl, .tr _⟩, ⟨_, rfl, rfl, rfl, .tr _⟩, trivial⟩, ⟨.t _, .op rfl, .op rfl, .os rfl, .os rfl, .t _, trivial⟩⟩ h_28 ?_
    rintro ⟨f29_, i6, v7, v8⟩ h_31
    obtain ⟨f29, y30, rfl, hh1, kk1⟩ := loopM_some h_31
    replace hh1 : m_S_ReleasePages_b1 N p_s p_oldest i6 v7 v8 = some y30 := hh1
    unfold m_S_ReleasePages_b1 at hh1
    refine PC.seq ?_
    refine PC.seq ?_
    refine PC.region ?_
    refine PL.op rfl (Rd.moveT rfl) ?_
    refine PL.op rfl (Rd.fieldO rfl rfl) ?_
    refine PL.op rfl (Rd.loadO rfl rfl rfl) ?_
    refine PL.op rfl (Rd.lenT rfl) ?_
    refine PL.op rfl (Rd.lss rfl rfl) ?_
    refine PL.nil ?_
    refine thA_n ?_
    rcases cond_some hh1 with ⟨h_34, hh1⟩ | ⟨h_34, hh1⟩
    rotate_left
    · refine PC.cond_false rfl h_34 ?_
      refine PC.exit ?_
      refine thA_e ?_
      refine thA_e ?_
      refine inA_eq rfl ?_
      refine thA_n ?_
      obtain rfl := some_in hh1
      obtain rfl : ((v7, v8) : (List Int) × (List I_Hold)) = o27 := kk1
      exact ⟨(v7, v8), hh0, [some 0, some 1, some 2, some 3], ⟨rfl, rfl, ⟨⟨_, rfl, rfl, rfl, .mx ⟨.t _, .t _, .t _, trivial⟩⟩, ⟨_, rfl, rfl, rfl, .mx ⟨.t _, .t _, .t _, trivial⟩⟩, ⟨_, rfl, rfl, rfl, .tr _⟩, ⟨_, rfl, rfl, rfl, .tr _⟩, trivial⟩, ⟨.op rfl, .op rfl, .os rfl, .os rfl, trivial⟩⟩⟩
    refine PC.cond_true rfl h_34 ?_
    refine PC.skip ?_
    refine thA_n ?_
    refine PC.seq ?_
    refine PC.block ?_
    refine PC.seq ?_
    obtain ⟨x35, h_36, hh1⟩ := bind_some hh1
    refine PC.region ?_
    refine PL.op rfl (Rd.fieldO rfl rfl) ?_
    refine PL.op rfl (Rd.loadO rfl rfl rfl) ?_
    refine PL.op rfl (Rd.moveT rfl) ?_
    refine PL.op rfl (Rd.ixM rfl rfl h_36) ?_
    refine PL.op rfl (Rd.fieldT rfl) ?_
    refine PL.op rfl (Rd.elMF (f := 1) rfl h_36 rfl rfl) ?_
    refine PL.op rfl (Rd.moveT rfl) ?_
    refine PL.op rfl (Rd.lss rfl rfl) ?_
    refine PL.nil ?_
    refine thA_n ?_
    rcases cond_some hh1 with ⟨h_37, hh1⟩ | ⟨h_37, hh1⟩
    · refine PC.cond_true rfl h_37 ?_
      obtain ⟨x38, h_39, hh1⟩ := bind_some hh1
      obtain ⟨xs40, h_41, hh1⟩ := bind_some hh1
      refine PC.region ?_
      refine PL.op rfl (Rd.moveO rfl) ?_
      refine PL.op rfl (Rd.fieldO rfl rfl) ?_
      refine PL.op rfl (Rd.loadO rfl rfl rfl) ?_
      refine PL.op rfl (Rd.moveT rfl) ?_
      refine PL.op rfl (Rd.ixM rfl rfl h_39) ?_
      refine PL.op rfl (Rd.fieldT rfl) ?_
      refine PL.op rfl (Rd.elMF (f := 0) rfl h_39 rfl rfl) ?_
      refine PL.ef rfl (Ef.litM (α := Int) [x38.page] [_] rfl rfl (by decide) rfl rfl rfl rfl) ?_
      refine PL.nm (.os 4 0 1) [some ⟨.mx [iA p_s.pages, sL p_s.free, sL p_s.held], 30, 0⟩, some ⟨.mx [iA (0 : Int), .t (.v (.slice none 0 0)), .t (.v (.slice none 0 0))], 30, 0⟩, some ⟨.tr (eL v7), 3, 1⟩, some ⟨.tr (eL v8), 42, 2⟩, some ⟨.tr (eL [x38.page]), 3, 1⟩] rfl rfl ?_
      refine PL.apM hs rfl rfl rfl rfl (SrcA.ownE rfl rfl rfl) rfl rfl rfl rfl h_41 ?_
      refine PL.nm (.os 5 0 xs40.length) [some ⟨.mx [iA p_s.pages, sL p_s.free, sL p_s.held], 30, 0⟩, some ⟨.mx [iA (0 : Int), .t (.v (.slice none 0 0)), .t (.v (.slice none 0 0))], 30, 0⟩, none, some ⟨.tr (eL v8), 42, 2⟩, some ⟨.tr (eL [x38.page]), 3, 1⟩, some ⟨.tr (eL xs40), 3, 1⟩] rfl rfl ?_
      refine PL.op rfl (Rd.asnO rfl) ?_
      refine PL.nil ?_
      refine inA_n ?_
      refine thA_n ?_
      obtain ⟨n42, h_43, hh1⟩ := bind_some hh1
      refine PC.region ?_
      refine PL.op rfl (Rd.moveT rfl) ?_
      refine PL.op rfl (Rd.addM rfl rfl h_43) ?_
      refine PL.op rfl (Rd.asnT rfl) ?_
      refine PL.nil ?_
      obtain rfl := some_in hh1
      refine thA_n ?_
      exact ⟨(f29, (n42, xs40, v8)), Nat.lt_succ_self _, kk1, [some 0, some 1, some 5, some 3], ⟨rfl, rfl, ⟨⟨_, rfl, rfl, rfl, .mx ⟨.t _, .t _, .t _, trivial⟩⟩, ⟨_, rfl, rfl, rfl, .mx ⟨.t _, .t _, .t _, trivial⟩⟩, ⟨_, rfl, rfl, rfl, .tr _⟩, ⟨_, rfl, rfl, rfl, .tr _⟩, trivial⟩, ⟨.t _, .op rfl, .op rfl, .os rfl, .os rfl, .t _, trivial⟩⟩⟩
    refine PC.cond_false rfl h_37 ?_
    obtain ⟨x44, h_45, hh1⟩ := bind_some hh1
    obtain ⟨xs46, h_47, hh1⟩ := bind_some hh1
    refine PC.region ?_
    refine PL.op rfl (Rd.moveO rfl) ?_
    refine PL.op rfl (Rd.fieldO rfl rfl) ?_
    refine PL.op rfl (Rd.loadO rfl rfl rfl) ?_
    refine PL.op rfl (Rd.moveT rfl) ?_
    refine PL.op rfl (Rd.ixM rfl rfl h_45) ?_
    refine PL.op rfl (Rd.elMR rfl h_45 rfl rfl) ?_
    refine PL.ef rfl (Ef.litM (α := I_Hold) [x44] [_] rfl rfl (by decide) rfl rfl rfl rfl) ?_
    refine PL.nm (.os 4 0 1) [some ⟨.mx [iA p_s.pages, sL p_s.free, sL p_s.held], 30, 0⟩, some ⟨.mx [iA (0 : Int), .t (.v (.slice none 0 0)), .t (.v (.slice none 0 0))], 30, 0⟩, some ⟨.tr (eL v7), 3, 1⟩, some ⟨.tr (eL v8), 42, 2⟩, some ⟨.tr (eL [x44]), 42, 2⟩] rfl rfl ?_
    refine PL.apM hs rfl rfl rfl rfl (SrcA.ownE rfl rfl rfl) rfl rfl rfl rfl h_47 ?_
    refine PL.nm (.os 5 0 xs46.length) [some ⟨.mx [iA p_s.pages, sL p_s.free, sL p_s.held], 30, 0⟩, some ⟨.mx [iA (0 : Int), .t (.v (.slice none 0 0)), .t (.v (.slice none 0 0))], 30, 0⟩, some ⟨.tr (eL v7), 3, 1⟩, none, some ⟨.tr (eL [x44]), 42, 2⟩, some ⟨.tr (eL xs46), 42, 2⟩] rfl rfl ?_
    refine PL.op rfl (Rd.asnO rfl) ?_
    refine PL.nil ?_
    refine inA_n ?_
    refine thA_n ?_
    obtain ⟨n48, h_49, hh1⟩ := bind_some hh1
    refine PC.region ?_
    refine PL.op rfl (Rd.moveT rfl) ?_
    refine PL.op rfl (Rd.addM rfl rfl h_49) ?_
    refine PL.op rfl (Rd.asnT rfl) ?_
    refine PL.nil ?_
    obtain rfl := some_in hh1
    refine thA_n ?_
    exact ⟨(f29, (n48, v7, xs46)), Nat.lt_succ_self _, kk1, [some 0, some 1, some 2, some 5], ⟨rfl, rfl, ⟨⟨_, rfl, rfl, rfl, .mx ⟨.t _, .t _, .t _, trivial⟩⟩, ⟨_, rfl, rfl, rfl, .mx ⟨.t _, .t _, .t _, trivial⟩⟩, ⟨_, rfl, rfl, rfl, .tr _⟩, ⟨_, rfl, rfl, rfl, .tr _⟩, trivial⟩, ⟨.t _, .op rfl, .op rfl, .os rfl, .os rfl, .t _, trivial⟩⟩⟩
  clear hh0
  rintro ⟨v25, v26⟩ hh0
  replace hh0 : m_S_ReleasePages_k1 N p_s v25 v26 = some r := hh0
  unfold m_S_ReleasePages_k1 at hh0
  refine thA_n ?_
  refine PC.seq ?_
  obtain ⟨r32, h_33, hh0⟩ := bind_some hh0
  refine PC.any (id := 11) 6 (.seg [0, 1, 2, 4, 3, 5] .done) [] rfl (by kernel_rfl) rfl ?_
  refine PT.seg ?_
  refine PR.op rfl (Rd.fieldO rfl rfl) ?_
  refine PR.op rfl (Rd.loadO rfl rfl rfl) ?_
  refine PR.op rfl (Rd.moveO rfl) ?_
  refine PR.op rfl (Rd.moveO rfl) ?_
  refine PR.callM true [] (w_S_sorted N v25 r32 h_33) rfl Try.call60 rfl ⟨.own rfl (by first | decide | exact List.not_mem_nil) rfl rfl, trivial⟩ rfl trivial (fun _ => ⟨trivial, (flat_cons flat_ow flat_nil)⟩) rfl ?_
  refine PR.nm (.os 4 0 r32.length) [some ⟨.mx [iA p_s.pages, sL p_s.free, sL p_s.held], 30, 0⟩, some ⟨.mx [iA (0 : Int), .t (.v (.slice none 0 0)), .t (.v (.slice none 0 0))], 30, 0⟩, some ⟨.tr (eL v25), 3, 1⟩, some ⟨.tr (eL v26), 42, 2⟩, some ⟨.tr (eL r32), 3, 1⟩] rfl rfl ?_
  refine PR.op rfl (Rd.build rfl rfl rfl rfl) ?_
  refine PR.nil ?_
  refine PT.done ?_
  refine PL.store rfl rfl rfl rfl rfl rfl rfl ?_
  refine PL.nO [some ⟨.mx [iA p_s.pages, sL p_s.free, sL p_s.held], 30, 0⟩, some ⟨.mx [iA p_s.pages, .os 4 0 r32.length, .os 3 0 v26.length], 30, 0⟩, some ⟨.tr (eL v25), 3, 1⟩, some ⟨.tr (eL v26), 42, 2⟩, some ⟨.tr (eL r32), 3, 1⟩] rfl ?_
  refine PL.nil ?_
  refine thA_n ?_
  refine PC.ret ?_
  obtain rfl := some_in hh0
  exact FinA.mk (r := .agg [iA p_s.pages, .os 0 0 r32.length, .os 1 0 v26.length]) (bl := [⟨.tr (eL r32), 3, 1⟩, ⟨.tr (eL v26), 42, 2⟩]) [some 4, some 3] (.inl rfl) rfl (rl := [.cell 4 30]) (.cellN rfl rfl rfl rfl .nil) rfl rfl rfl (.aggL ⟨.t _, .os rfl, .os rfl, trivial⟩) ⟨⟨_, rfl, rfl, rfl, .tr _⟩, ⟨_, rfl, rfl, rfl, .tr _⟩, trivial⟩ ⟨rfl, rfl⟩

end V
end Go.Proofs.Ytambkpacecjheaa
