/- Space: taken pages. No condition. -/
import Derived.Test.YtambkpacecjheaaSpEa
import Derived.Test.YtambkpacecjheaaDel
namespace Go.Proofs.Ytambkpacecjheaa
namespace V
open Enc (enc)
set_option linter.unusedVariables false
set_option linter.unusedSimpArgs false
set_option maxHeartbeats 4000000
set_option maxRecDepth 100000
open Go.RowKit
attribute [local irreducible] thA inA FinA eL

def m_I_TakePage (N : Nat) (p_s : I_Space) : Option (I_Space × Int × Bool) :=
  (m_I_ValidSpace N p_s).bind fun r1 =>
  cond r1
    ((m_I_Space_clone N p_s).bind fun r4 =>
    cond (decide ((0 : Int) < (r4.free.length : Int)))
      ((ixI r4.free (0 : Int)).bind fun x7 =>
      (m_slices_Delete_int N r4.free (0 : Int) (1 : Int)).bind fun xs9 =>
      some ((I_Space.mk r4.pages xs9 r4.held), x7, true))
      (cond (decide (r4.pages = (16 : Int)))
        (some ((I_Space.mk (0 : Int) ([] : List Int) ([] : List I_Hold)), (-1 : Int), false))
        ((chk (r4.pages + (1 : Int))).bind fun n12 =>
        (chk (n12 - (1 : Int))).bind fun n14 =>
        some ((I_Space.mk n12 r4.free r4.held), n14, true))))
    (some ((I_Space.mk (0 : Int) ([] : List Int) ([] : List I_Hold)), (-1 : Int), false))
theorem w_I_TakePage (N : Nat) (p_s : I_Space) (r : I_Space × Int × Bool) (hh0 : m_I_TakePage N p_s = some r) : FnX Try.prog 33 [] [.agg [iA p_s.pages, sL p_s.free, sL p_s.held]] (RE (.tup [.agg [iA r.1.pages, .os 0 0 r.1.free.length, .os 1 0 r.1.held.length], iA r.2.1, bA r.2.2]) [⟨.tr (eL r.1.free), 3, 1⟩, ⟨.tr (eL r.1.held), 42, 2⟩]) := by
  unfold m_I_TakePage at hh0
  refine FnX.mk Try.func33 rfl rfl ?_
  intro s hs
  refine PC.seq ?_
  refine PC.region ?_
  refine PL.ef rfl (Ef.box rfl rfl rfl) ?_
  refine PL.nm (.op 0 0) [some ⟨.mx [iA p_s.pages, sL p_s.free, sL p_s.held], 30, 0⟩] rfl rfl ?_
  refine PL.ef rfl (Ef.alloc rfl rfl) ?_
  refine PL.nm (.op 1 0) [some ⟨.mx [iA p_s.pages, sL p_s.free, sL p_s.held], 30, 0⟩, some ⟨.mx [iA (0 : Int), .t (.v (.slice none 0 0)), .t (.v (.slice none 0 0))], 30, 0⟩] rfl rfl ?_
  refine PL.op rfl (Rd.asnT rfl) ?_
  refine PL.op rfl (Rd.asnT rfl) ?_
  refine PL.nil ?_
  refine thA_n ?_
  refine PC.seq ?_
  refine PC.seq ?_
  obtain ⟨r1, h_2, hh0⟩ := bind_some hh0
  refine PC.region ?_
  refine PL.op rfl (Rd.loadBox rfl rfl rfl) ?_
  refine PL.callM false [] (w_I_ValidSpace N p_s r1 h_2) rfl Try.call17 rfl ⟨.aggL ⟨.t _, .t _, .t _, trivial⟩, trivial⟩ rfl trivial (fun h => by cases h) ?_
  refine PL.op rfl (Rd.unnot rfl) ?_
  refine PL.nil ?_
  refine thA_n ?_
  rcases cond_some hh0 with ⟨h_3, hh0⟩ | ⟨h_3, hh0⟩
  rotate_left
  · refine PC.cond_true rfl (not_f h_3) ?_
    refine PC.seq ?_
    refine PC.region ?_
    refine PL.op rfl (Rd.build rfl rfl rfl rfl) ?_
    refine PL.store rfl rfl rfl rfl rfl rfl rfl ?_
    refine PL.op rfl (Rd.asnT rfl) ?_
    refine PL.op rfl (Rd.asnT rfl) ?_
    refine PL.nil ?_
    refine thA_n ?_
    refine PC.ret ?_
    refine thA_r ?_
    obtain rfl := some_in hh0
    exact FinA.mk (r := .tup [.agg [iA (((I_Space.mk (0 : Int) ([] : List Int) ([] : List I_Hold)), (-1 : Int), false).1.pages), .os 0 0 ((((I_Space.mk (0 : Int) ([] : List Int) ([] : List I_Hold)), (-1 : Int), false).1.free).length), .os 1 0 ((((I_Space.mk (0 : Int) ([] : List Int) ([] : List I_Hold)), (-1 : Int), false).1.held).length)], iA (((I_Space.mk (0 : Int) ([] : List Int) ([] : List I_Hold)), (-1 : Int), false).2.1), bA (((I_Space.mk (0 : Int) ([] : List Int) ([] : List I_Hold)), (-1 : Int), false).2.2)]) (bl := [⟨.tr (eL (((I_Space.mk (0 : Int) ([] : List Int) ([] : List I_Hold)), (-1 : Int), false).1.free)), 3, 1⟩, ⟨.tr (eL (((I_Space.mk (0 : Int) ([] : List Int) ([] : List I_Hold)), (-1 : Int), false).1.held)), 42, 2⟩]) [none, none] (.inl rfl) rfl (rl := [.cell 2 30, .tmp 3, .tmp 4]) (.cellN rfl rfl rfl rfl (.tmp (.tmp .nil))) rfl rfl rfl (.tupL ⟨.aggL ⟨.t _, .osn rfl, .osn rfl, trivial⟩, .t _, .t _, trivial⟩) ⟨ow_nil _, ow_nil _, trivial⟩ ⟨rfl, rfl⟩
  refine PC.cond_false rfl (not_t h_3) ?_
  refine PC.skip ?_
  refine thA_n ?_
  refine PC.seq ?_
  obtain ⟨r4, h_5, hh0⟩ := bind_some hh0
  refine PC.region ?_
  refine PL.op rfl (Rd.loadBox rfl rfl rfl) ?_
  refine PL.callM false [] (w_I_Space_clone N p_s r4 h_5) rfl Try.call53 rfl ⟨.aggL ⟨.t _, .t _, .t _, trivial⟩, trivial⟩ rfl trivial (fun h => by cases h) ?_
  refine PL.nm (.agg [iA r4.pages, .os 2 0 r4.free.length, .os 3 0 r4.held.length]) [some ⟨.mx [iA p_s.pages, sL p_s.free, sL p_s.held], 30, 0⟩, some ⟨.mx [iA (0 : Int), .t (.v (.slice none 0 0)), .t (.v (.slice none 0 0))], 30, 0⟩, some ⟨.tr (eL r4.free), 3, 1⟩, some ⟨.tr (eL r4.held), 42, 2⟩] rfl rfl ?_
  refine PL.ef rfl (Ef.alloc rfl rfl) ?_
  refine PL.nm (.op 4 0) [some ⟨.mx [iA p_s.pages, sL p_s.free, sL p_s.held], 30, 0⟩, some ⟨.mx [iA (0 : Int), .t (.v (.slice none 0 0)), .t (.v (.slice none 0 0))], 30, 0⟩, some ⟨.tr (eL r4.free), 3, 1⟩, some ⟨.tr (eL r4.held), 42, 2⟩, some ⟨.mx [iA (0 : Int), .t (.v (.slice none 0 0)), .t (.v (.slice none 0 0))], 30, 0⟩] rfl rfl ?_
  refine PL.store rfl rfl rfl rfl rfl rfl rfl ?_
  refine PL.nO [some ⟨.mx [iA p_s.pages, sL p_s.free, sL p_s.held], 30, 0⟩, some ⟨.mx [iA (0 : Int), .t (.v (.slice none 0 0)), .t (.v (.slice none 0 0))], 30, 0⟩, some ⟨.tr (eL r4.free), 3, 1⟩, some ⟨.tr (eL r4.held), 42, 2⟩, some ⟨.mx [iA r4.pages, .os 2 0 r4.free.length, .os 3 0 r4.held.length], 30, 0⟩] rfl ?_
  refine PL.nil ?_
  refine thA_n ?_
  refine PC.seq ?_
  refine PC.seq ?_
  refine PC.region ?_
  refine PL.op rfl (Rd.fieldO rfl rfl) ?_
  refine PL.op rfl (Rd.loadO rfl rfl rfl) ?_
  refine PL.op rfl (Rd.lenO rfl rfl) ?_
  refine PL.op rfl (Rd.gtr rfl rfl) ?_
  refine PL.nil ?_
  refine thA_n ?_
  rcases cond_some hh0 with ⟨h_6, hh0⟩ | ⟨h_6, hh0⟩
  · refine PC.cond_true rfl h_6 ?_
    refine PC.seq ?_
    obtain ⟨x7, h_8, hh0⟩ := bind_some hh0
    refine PC.region ?_
    refine PL.op rfl (Rd.fieldO rfl rfl) ?_
    refine PL.op rfl (Rd.loadO rfl rfl rfl) ?_
    refine PL.op rfl (Rd.ixOM rfl rfl rfl (ixI_lt h_8)) ?_
    refine PL.op rfl (Rd.owM1 rfl rfl h_8 rfl rfl) ?_
    refine PL.op rfl (Rd.asnT rfl) ?_
    refine PL.nil ?_
    refine thA_n ?_
    refine PC.seq ?_
    obtain ⟨xs9, h_10, hh0⟩ := bind_some hh0
    refine PC.region ?_
    refine PL.op rfl (Rd.fieldO rfl rfl) ?_
    refine PL.op rfl (Rd.loadO rfl rfl rfl) ?_
    refine PL.callM false [2] (w_slices_Delete_int N r4.free (0 : Int) (1 : Int) xs9 h_10) rfl Try.call56 rfl ⟨.os rfl, .t _, .t _, trivial⟩ rfl ⟨⟨_, rfl, rfl, rfl, .tr _⟩, trivial⟩ (fun h => by cases h) ?_
    refine PL.nm (.os 2 0 xs9.length) [some ⟨.mx [iA p_s.pages, sL p_s.free, sL p_s.held], 30, 0⟩, some ⟨.mx [iA (0 : Int), .t (.v (.slice none 0 0)), .t (.v (.slice none 0 0))], 30, 0⟩, some ⟨.tr (eL xs9), 3, 1⟩, some ⟨.tr (eL r4.held), 42, 2⟩, some ⟨.mx [iA r4.pages, .os 2 0 r4.free.length, .os 3 0 r4.held.length], 30, 0⟩] rfl rfl ?_
    refine PL.op rfl (Rd.fieldO rfl rfl) ?_
    refine PL.store rfl rfl rfl rfl rfl rfl rfl ?_
    refine PL.nO [some ⟨.mx [iA p_s.pages, sL p_s.free, sL p_s.held], 30, 0⟩, some ⟨.mx [iA (0 : Int), .t (.v (.slice none 0 0)), .t (.v (.slice none 0 0))], 30, 0⟩, some ⟨.tr (eL xs9), 3, 1⟩, some ⟨.tr (eL r4.held), 42, 2⟩, some ⟨.mx [iA r4.pages, .os 2 0 xs9.length, .os 3 0 r4.held.length], 30, 0⟩] rfl ?_
    refine PL.nil ?_
    refine thA_n ?_
    refine PC.seq ?_
    refine PC.region ?_
    refine PL.op rfl (Rd.loadBox rfl rfl rfl) ?_
    refine PL.op rfl (Rd.moveT rfl) ?_
    refine PL.store rfl rfl rfl rfl rfl rfl rfl ?_
    refine PL.nO [some ⟨.mx [iA p_s.pages, sL p_s.free, sL p_s.held], 30, 0⟩, some ⟨.mx [iA r4.pages, .os 2 0 xs9.length, .os 3 0 r4.held.length], 30, 0⟩, some ⟨.tr (eL xs9), 3, 1⟩, some ⟨.tr (eL r4.held), 42, 2⟩, some ⟨.mx [iA r4.pages, .os 2 0 xs9.length, .os 3 0 r4.held.length], 30, 0⟩] rfl ?_
    refine PL.op rfl (Rd.asnT rfl) ?_
    refine PL.op rfl (Rd.asnT rfl) ?_
    refine PL.nil ?_
    refine thA_n ?_
    refine PC.ret ?_
    refine thA_r ?_
    obtain rfl := some_in hh0
    exact FinA.mk (r := .tup [.agg [iA (((I_Space.mk r4.pages xs9 r4.held), x7, true).1.pages), .os 0 0 ((((I_Space.mk r4.pages xs9 r4.held), x7, true).1.free).length), .os 1 0 ((((I_Space.mk r4.pages xs9 r4.held), x7, true).1.held).length)], iA (((I_Space.mk r4.pages xs9 r4.held), x7, true).2.1), bA (((I_Space.mk r4.pages xs9 r4.held), x7, true).2.2)]) (bl := [⟨.tr (eL (((I_Space.mk r4.pages xs9 r4.held), x7, true).1.free)), 3, 1⟩, ⟨.tr (eL (((I_Space.mk r4.pages xs9 r4.held), x7, true).1.held)), 42, 2⟩]) [some 2, some 3] (.inl rfl) rfl (rl := [.cell 2 30, .tmp 3, .tmp 4]) (.cellN rfl rfl rfl rfl (.tmp (.tmp .nil))) rfl rfl rfl (.tupL ⟨.aggL ⟨.t _, .os rfl, .os rfl, trivial⟩, .t _, .t _, trivial⟩) ⟨⟨_, rfl, rfl, rfl, .tr _⟩, ⟨_, rfl, rfl, rfl, .tr _⟩, trivial⟩ ⟨rfl, rfl⟩
  refine PC.cond_false rfl h_6 ?_
  refine PC.skip ?_
  refine thA_n ?_
  refine PC.seq ?_
  refine PC.seq ?_
  refine PC.region ?_
  refine PL.op rfl (Rd.fieldO rfl rfl) ?_
  refine PL.op rfl (Rd.loadO rfl rfl rfl) ?_
  refine PL.op rfl (Rd.eql rfl rfl) ?_
  refine PL.nil ?_
  refine thA_n ?_
  rcases cond_some hh0 with ⟨h_11, hh0⟩ | ⟨h_11, hh0⟩
  · refine PC.cond_true rfl h_11 ?_
    refine PC.seq ?_
    refine PC.region ?_
    refine PL.op rfl (Rd.build rfl rfl rfl rfl) ?_
    refine PL.store rfl rfl rfl rfl rfl rfl rfl ?_
    refine PL.op rfl (Rd.asnT rfl) ?_
    refine PL.op rfl (Rd.asnT rfl) ?_
    refine PL.nil ?_
    refine thA_n ?_
    refine PC.ret ?_
    refine thA_r ?_
    obtain rfl := some_in hh0
    exact FinA.mk (r := .tup [.agg [iA (((I_Space.mk (0 : Int) ([] : List Int) ([] : List I_Hold)), (-1 : Int), false).1.pages), .os 0 0 ((((I_Space.mk (0 : Int) ([] : List Int) ([] : List I_Hold)), (-1 : Int), false).1.free).length), .os 1 0 ((((I_Space.mk (0 : Int) ([] : List Int) ([] : List I_Hold)), (-1 : Int), false).1.held).length)], iA (((I_Space.mk (0 : Int) ([] : List Int) ([] : List I_Hold)), (-1 : Int), false).2.1), bA (((I_Space.mk (0 : Int) ([] : List Int) ([] : List I_Hold)), (-1 : Int), false).2.2)]) (bl := [⟨.tr (eL (((I_Space.mk (0 : Int) ([] : List Int) ([] : List I_Hold)), (-1 : Int), false).1.free)), 3, 1⟩, ⟨.tr (eL (((I_Space.mk (0 : Int) ([] : List Int) ([] : List I_Hold)), (-1 : Int), false).1.held)), 42, 2⟩]) [none, none] (.inl rfl) rfl (rl := [.cell 2 30, .tmp 3, .tmp 4]) (.cellN rfl rfl rfl rfl (.tmp (.tmp .nil))) rfl rfl rfl (.tupL ⟨.aggL ⟨.t _, .osn rfl, .osn rfl, trivial⟩, .t _, .t _, trivial⟩) ⟨ow_nil _, ow_nil _, trivial⟩ ⟨rfl, rfl⟩
  refine PC.cond_false rfl h_11 ?_
  refine PC.skip ?_
  refine thA_n ?_
  refine PC.seq ?_
  obtain ⟨n12, h_13, hh0⟩ := bind_some hh0
  refine PC.region ?_
  refine PL.op rfl (Rd.fieldO rfl rfl) ?_
  refine PL.op rfl (Rd.loadO rfl rfl rfl) ?_
  refine PL.op rfl (Rd.addM rfl rfl h_13) ?_
  refine PL.op rfl (Rd.fieldO rfl rfl) ?_
  refine PL.store rfl rfl rfl rfl rfl rfl rfl ?_
  refine PL.nO [some ⟨.mx [iA p_s.pages, sL p_s.free, sL p_s.held], 30, 0⟩, some ⟨.mx [iA (0 : Int), .t (.v (.slice none 0 0)), .t (.v (.slice none 0 0))], 30, 0⟩, some ⟨.tr (eL r4.free), 3, 1⟩, some ⟨.tr (eL r4.held), 42, 2⟩, some ⟨.mx [iA n12, .os 2 0 r4.free.length, .os 3 0 r4.held.length], 30, 0⟩] rfl ?_
  refine PL.nil ?_
  refine thA_n ?_
  refine PC.seq ?_
  obtain ⟨n14, h_15, hh0⟩ := bind_some hh0
  refine PC.any (id := 11) 7 (.seg [1, 2, 3, 0, 4, 5, 6] .done) [1] rfl (by kernel_rfl) rfl ?_
  refine PT.seg ?_
  refine PR.op rfl (Rd.fieldO rfl rfl) ?_
  refine PR.op rfl (Rd.loadO rfl rfl rfl) ?_
  refine PR.op rfl (Rd.subM rfl rfl h_15) ?_
  refine PR.rdE rfl rfl (Rd.loadBox rfl rfl rfl) ?_
  refine PR.store rfl rfl rfl rfl rfl rfl rfl rfl ?_
  refine PR.nO [some ⟨.mx [iA p_s.pages, sL p_s.free, sL p_s.held], 30, 0⟩, some ⟨.mx [iA n12, .os 2 0 r4.free.length, .os 3 0 r4.held.length], 30, 0⟩, some ⟨.tr (eL r4.free), 3, 1⟩, some ⟨.tr (eL r4.held), 42, 2⟩, some ⟨.mx [iA n12, .os 2 0 r4.free.length, .os 3 0 r4.held.length], 30, 0⟩] rfl ?_
  refine PR.op rfl (Rd.asnT rfl) ?_
  refine PR.op rfl (Rd.asnT rfl) ?_
  refine PR.nil ?_
  refine PT.done ?_
  refine PL.nil ?_
  refine thA_n ?_
  refine PC.ret ?_
  obtain rfl := some_in hh0
  exact FinA.mk (r := .tup [.agg [iA (((I_Space.mk n12 r4.free r4.held), n14, true).1.pages), .os 0 0 ((((I_Space.mk n12 r4.free r4.held), n14, true).1.free).length), .os 1 0 ((((I_Space.mk n12 r4.free r4.held), n14, true).1.held).length)], iA (((I_Space.mk n12 r4.free r4.held), n14, true).2.1), bA (((I_Space.mk n12 r4.free r4.held), n14, true).2.2)]) (bl := [⟨.tr (eL (((I_Space.mk n12 r4.free r4.held), n14, true).1.free)), 3, 1⟩, ⟨.tr (eL (((I_Space.mk n12 r4.free r4.held), n14, true).1.held)), 42, 2⟩]) [some 2, some 3] (.inl rfl) rfl (rl := [.cell 2 30, .tmp 3, .tmp 4]) (.cellN rfl rfl rfl rfl (.tmp (.tmp .nil))) rfl rfl rfl (.tupL ⟨.aggL ⟨.t _, .os rfl, .os rfl, trivial⟩, .t _, .t _, trivial⟩) ⟨⟨_, rfl, rfl, rfl, .tr _⟩, ⟨_, rfl, rfl, rfl, .tr _⟩, trivial⟩ ⟨rfl, rfl⟩

end V
end Go.Proofs.Ytambkpacecjheaa
