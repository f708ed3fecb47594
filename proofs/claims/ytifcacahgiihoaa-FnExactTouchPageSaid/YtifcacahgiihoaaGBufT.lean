/- Buffers: TouchPage. No condition. -/
import Derived.Test.YtifcacahgiihoaaGBufB
namespace Go.Proofs.Ytifcacahgiihoaa
namespace V
open Enc (enc)
set_option linter.unusedVariables false
set_option linter.unusedSimpArgs false
set_option maxHeartbeats 4000000
set_option maxRecDepth 100000
open Go.RowKit
attribute [local irreducible] thA inA FinA eL

def m_I_TouchPage (N : Nat) (p_b : I_Buffer) (p_page : Int) (p_lsn : Int) : Option (I_Buffer × Bool) :=
  (m_I_ValidBuffer N p_b).bind fun r1 =>
  cond r1
    (cond (decide (p_page < (0 : Int)))
      (some ((I_Buffer.mk ([] : List I_Frame) (0 : Int)), false))
      (cond (decide ((6 : Int) ≤ p_page))
        (some ((I_Buffer.mk ([] : List I_Frame) (0 : Int)), false))
        (cond (decide (p_lsn < (1 : Int)))
          (some ((I_Buffer.mk ([] : List I_Frame) (0 : Int)), false))
          (cond (decide ((9999 : Int) < p_lsn))
            (some ((I_Buffer.mk ([] : List I_Frame) (0 : Int)), false))
            ((m_I_Buffer_clone N p_b).bind fun r8 =>
            (m_I_Buffer_find N r8 p_page).bind fun r10 =>
            cond (decide (r10 < (0 : Int)))
              (cond (decide ((r8.frames.length : Int) = (4 : Int)))
                (some ((I_Buffer.mk ([] : List I_Frame) (0 : Int)), false))
                ((appM 32 r8.frames [(I_Frame.mk p_page false (0 : Int) (0 : Int))]).bind fun xs14 =>
                (ixI xs14 (r8.frames.length : Int)).bind fun x16 =>
                cond (decide (p_lsn ≤ x16.last))
                  (some ((I_Buffer.mk ([] : List I_Frame) (0 : Int)), false))
                  (cond x16.dirty
                    (some ((I_Buffer.mk ((xs14.set (r8.frames.length : Int).toNat (I_Frame.mk x16.page true x16.first x16.last)).set (r8.frames.length : Int).toNat (I_Frame.mk x16.page true x16.first p_lsn)) r8.forced), true))
                    (some ((I_Buffer.mk (((xs14.set (r8.frames.length : Int).toNat (I_Frame.mk x16.page x16.dirty p_lsn x16.last)).set (r8.frames.length : Int).toNat (I_Frame.mk x16.page true p_lsn x16.last)).set (r8.frames.length : Int).toNat (I_Frame.mk x16.page true p_lsn p_lsn)) r8.forced), true)))))
              ((ixI r8.frames r10).bind fun x20 =>
              cond (decide (p_lsn ≤ x20.last))
                (some ((I_Buffer.mk ([] : List I_Frame) (0 : Int)), false))
                (cond x20.dirty
                  (some ((I_Buffer.mk ((r8.frames.set r10.toNat (I_Frame.mk x20.page true x20.first x20.last)).set r10.toNat (I_Frame.mk x20.page true x20.first p_lsn)) r8.forced), true))
                  (some ((I_Buffer.mk (((r8.frames.set r10.toNat (I_Frame.mk x20.page x20.dirty p_lsn x20.last)).set r10.toNat (I_Frame.mk x20.page true p_lsn x20.last)).set r10.toNat (I_Frame.mk x20.page true p_lsn p_lsn)) r8.forced), true)))))))))
    (some ((I_Buffer.mk ([] : List I_Frame) (0 : Int)), false))
theorem w_I_TouchPage (N : Nat) (p_b : I_Buffer) (p_page : Int) (p_lsn : Int) (r : I_Buffer × Bool) (hh0 : m_I_TouchPage N p_b p_page p_lsn = some r) : FnX Try.prog 23 [] [.agg [sL p_b.frames, iA p_b.forced], iA p_page, iA p_lsn] (RE (.tup [.agg [.os 0 0 r.1.frames.length, iA r.1.forced], bA r.2]) [⟨.tr (eL r.1.frames), 59, 4⟩]) := by
  unfold m_I_TouchPage at hh0
  refine FnX.mk Try.func23 rfl rfl ?_
  intro s hs
  refine PC.seq ?_
  refine PC.region ?_
  refine PL.ef rfl (Ef.box rfl rfl rfl) ?_
  refine PL.nm (.op 0 0) [some ⟨.mx [sL p_b.frames, iA p_b.forced], 28, 0⟩] rfl rfl ?_
  refine PL.ef rfl (Ef.alloc rfl rfl) ?_
  refine PL.nm (.op 1 0) [some ⟨.mx [sL p_b.frames, iA p_b.forced], 28, 0⟩, some ⟨.mx [.t (.v (.slice none 0 0)), iA (0 : Int)], 28, 0⟩] rfl rfl ?_
  refine PL.op rfl (Rd.asnT rfl) ?_
  refine PL.nil ?_
  refine thA_n ?_
  refine PC.seq ?_
  refine PC.seq ?_
  obtain ⟨r1, h_2, hh0⟩ := bind_some hh0
  rcases cond_some hh0 with ⟨h_3, hh0⟩ | ⟨h_3, hh0⟩
  rotate_left
  · refine PC.region ?_
    refine PL.op rfl (Rd.loadBox rfl rfl rfl) ?_
    refine PL.callM false [] (w_I_ValidBuffer N p_b r1 h_2) rfl Try.call20 rfl ⟨.aggL ⟨.t _, .t _, trivial⟩, trivial⟩ rfl trivial (fun h => by cases h) ?_
    refine PL.op rfl (Rd.unnot rfl) ?_
    refine PL.op rfl (Rd.moveT rfl) ?_
    refine PL.guard_off rfl rfl (not_f h_3) ?_
    refine PL.guard_off rfl rfl (not_f h_3) ?_
    refine PL.op rfl (Rd.pick_t rfl (not_f h_3)) ?_
    refine PL.op rfl (Rd.moveT rfl) ?_
    refine PL.guard_off rfl rfl rfl ?_
    refine PL.guard_off rfl rfl rfl ?_
    refine PL.op rfl (Rd.pick_t rfl rfl) ?_
    refine PL.op rfl (Rd.moveT rfl) ?_
    refine PL.guard_off rfl rfl rfl ?_
    refine PL.guard_off rfl rfl rfl ?_
    refine PL.op rfl (Rd.pick_t rfl rfl) ?_
    refine PL.op rfl (Rd.moveT rfl) ?_
    refine PL.guard_off rfl rfl rfl ?_
    refine PL.guard_off rfl rfl rfl ?_
    refine PL.op rfl (Rd.pick_t rfl rfl) ?_
    refine PL.nil ?_
    refine thA_n ?_
    refine PC.cond_true rfl rfl ?_
    refine PC.seq ?_
    refine PC.region ?_
    refine PL.op rfl (Rd.build rfl rfl rfl rfl) ?_
    refine PL.store rfl rfl rfl rfl rfl rfl rfl ?_
    refine PL.op rfl (Rd.asnT rfl) ?_
    refine PL.nil ?_
    refine thA_n ?_
    refine PC.ret ?_
    refine thA_r ?_
    obtain rfl := some_in hh0
    exact FinA.mk (r := .tup [.agg [.os 0 0 ((((I_Buffer.mk ([] : List I_Frame) (0 : Int)), false).1.frames).length), iA (((I_Buffer.mk ([] : List I_Frame) (0 : Int)), false).1.forced)], bA (((I_Buffer.mk ([] : List I_Frame) (0 : Int)), false).2)]) (bl := [⟨.tr (eL (((I_Buffer.mk ([] : List I_Frame) (0 : Int)), false).1.frames)), 59, 4⟩]) [none] (.inl rfl) rfl (rl := [.cell 6 28, .tmp 7]) (.cellN rfl rfl rfl rfl (.tmp .nil)) rfl rfl rfl (.tupL ⟨.aggL ⟨.osn rfl, .t _, trivial⟩, .t _, trivial⟩) ⟨ow_nil _, trivial⟩ ⟨rfl, rfl⟩
  rcases cond_some hh0 with ⟨h_4, hh0⟩ | ⟨h_4, hh0⟩
  · refine PC.region ?_
    refine PL.op rfl (Rd.loadBox rfl rfl rfl) ?_
    refine PL.callM false [] (w_I_ValidBuffer N p_b r1 h_2) rfl Try.call20 rfl ⟨.aggL ⟨.t _, .t _, trivial⟩, trivial⟩ rfl trivial (fun h => by cases h) ?_
    refine PL.op rfl (Rd.unnot rfl) ?_
    refine PL.op rfl (Rd.moveT rfl) ?_
    refine PL.guard_on rfl (not_t h_3) ?_
    refine PL.op rfl (Rd.moveT rfl) ?_
    refine PL.guard_on rfl (not_t h_3) ?_
    refine PL.op rfl (Rd.lss rfl rfl) ?_
    refine PL.op rfl (Rd.pick_f rfl (not_t h_3)) ?_
    refine PL.op rfl (Rd.moveT rfl) ?_
    refine PL.guard_off rfl rfl h_4 ?_
    refine PL.guard_off rfl rfl h_4 ?_
    refine PL.op rfl (Rd.pick_t rfl h_4) ?_
    refine PL.op rfl (Rd.moveT rfl) ?_
    refine PL.guard_off rfl rfl rfl ?_
    refine PL.guard_off rfl rfl rfl ?_
    refine PL.op rfl (Rd.pick_t rfl rfl) ?_
    refine PL.op rfl (Rd.moveT rfl) ?_
    refine PL.guard_off rfl rfl rfl ?_
    refine PL.guard_off rfl rfl rfl ?_
    refine PL.op rfl (Rd.pick_t rfl rfl) ?_
    refine PL.nil ?_
    refine thA_n ?_
    refine PC.cond_true rfl rfl ?_
    refine PC.seq ?_
    refine PC.region ?_
    refine PL.op rfl (Rd.build rfl rfl rfl rfl) ?_
    refine PL.store rfl rfl rfl rfl rfl rfl rfl ?_
    refine PL.op rfl (Rd.asnT rfl) ?_
    refine PL.nil ?_
    refine thA_n ?_
    refine PC.ret ?_
    refine thA_r ?_
    obtain rfl := some_in hh0
    exact FinA.mk (r := .tup [.agg [.os 0 0 ((((I_Buffer.mk ([] : List I_Frame) (0 : Int)), false).1.frames).length), iA (((I_Buffer.mk ([] : List I_Frame) (0 : Int)), false).1.forced)], bA (((I_Buffer.mk ([] : List I_Frame) (0 : Int)), false).2)]) (bl := [⟨.tr (eL (((I_Buffer.mk ([] : List I_Frame) (0 : Int)), false).1.frames)), 59, 4⟩]) [none] (.inl rfl) rfl (rl := [.cell 6 28, .tmp 7]) (.cellN rfl rfl rfl rfl (.tmp .nil)) rfl rfl rfl (.tupL ⟨.aggL ⟨.osn rfl, .t _, trivial⟩, .t _, trivial⟩) ⟨ow_nil _, trivial⟩ ⟨rfl, rfl⟩
  rcases cond_some hh0 with ⟨h_5, hh0⟩ | ⟨h_5, hh0⟩
  · refine PC.region ?_
    refine PL.op rfl (Rd.loadBox rfl rfl rfl) ?_
    refine PL.callM false [] (w_I_ValidBuffer N p_b r1 h_2) rfl Try.call20 rfl ⟨.aggL ⟨.t _, .t _, trivial⟩, trivial⟩ rfl trivial (fun h => by cases h) ?_
    refine PL.op rfl (Rd.unnot rfl) ?_
    refine PL.op rfl (Rd.moveT rfl) ?_
    refine PL.guard_on rfl (not_t h_3) ?_
    refine PL.op rfl (Rd.moveT rfl) ?_
    refine PL.guard_on rfl (not_t h_3) ?_
    refine PL.op rfl (Rd.lss rfl rfl) ?_
    refine PL.op rfl (Rd.pick_f rfl (not_t h_3)) ?_
    refine PL.op rfl (Rd.moveT rfl) ?_
    refine PL.guard_on rfl h_4 ?_
    refine PL.op rfl (Rd.moveT rfl) ?_
    refine PL.guard_on rfl h_4 ?_
    refine PL.op rfl (Rd.geq rfl rfl) ?_
    refine PL.op rfl (Rd.pick_f rfl h_4) ?_
    refine PL.op rfl (Rd.moveT rfl) ?_
    refine PL.guard_off rfl rfl h_5 ?_
    refine PL.guard_off rfl rfl h_5 ?_
    refine PL.op rfl (Rd.pick_t rfl h_5) ?_
    refine PL.op rfl (Rd.moveT rfl) ?_
    refine PL.guard_off rfl rfl rfl ?_
    refine PL.guard_off rfl rfl rfl ?_
    refine PL.op rfl (Rd.pick_t rfl rfl) ?_
    refine PL.nil ?_
    refine thA_n ?_
    refine PC.cond_true rfl rfl ?_
    refine PC.seq ?_
    refine PC.region ?_
    refine PL.op rfl (Rd.build rfl rfl rfl rfl) ?_
    refine PL.store rfl rfl rfl rfl rfl rfl rfl ?_
    refine PL.op rfl (Rd.asnT rfl) ?_
    refine PL.nil ?_
    refine thA_n ?_
    refine PC.ret ?_
    refine thA_r ?_
    obtain rfl := some_in hh0
    exact FinA.mk (r := .tup [.agg [.os 0 0 ((((I_Buffer.mk ([] : List I_Frame) (0 : Int)), false).1.frames).length), iA (((I_Buffer.mk ([] : List I_Frame) (0 : Int)), false).1.forced)], bA (((I_Buffer.mk ([] : List I_Frame) (0 : Int)), false).2)]) (bl := [⟨.tr (eL (((I_Buffer.mk ([] : List I_Frame) (0 : Int)), false).1.frames)), 59, 4⟩]) [none] (.inl rfl) rfl (rl := [.cell 6 28, .tmp 7]) (.cellN rfl rfl rfl rfl (.tmp .nil)) rfl rfl rfl (.tupL ⟨.aggL ⟨.osn rfl, .t _, trivial⟩, .t _, trivial⟩) ⟨ow_nil _, trivial⟩ ⟨rfl, rfl⟩
  rcases cond_some hh0 with ⟨h_6, hh0⟩ | ⟨h_6, hh0⟩
  · refine PC.region ?_
    refine PL.op rfl (Rd.loadBox rfl rfl rfl) ?_
    refine PL.callM false [] (w_I_ValidBuffer N p_b r1 h_2) rfl Try.call20 rfl ⟨.aggL ⟨.t _, .t _, trivial⟩, trivial⟩ rfl trivial (fun h => by cases h) ?_
    refine PL.op rfl (Rd.unnot rfl) ?_
    refine PL.op rfl (Rd.moveT rfl) ?_
    refine PL.guard_on rfl (not_t h_3) ?_
    refine PL.op rfl (Rd.moveT rfl) ?_
    refine PL.guard_on rfl (not_t h_3) ?_
    refine PL.op rfl (Rd.lss rfl rfl) ?_
    refine PL.op rfl (Rd.pick_f rfl (not_t h_3)) ?_
    refine PL.op rfl (Rd.moveT rfl) ?_
    refine PL.guard_on rfl h_4 ?_
    refine PL.op rfl (Rd.moveT rfl) ?_
    refine PL.guard_on rfl h_4 ?_
    refine PL.op rfl (Rd.geq rfl rfl) ?_
    refine PL.op rfl (Rd.pick_f rfl h_4) ?_
    refine PL.op rfl (Rd.moveT rfl) ?_
    refine PL.guard_on rfl h_5 ?_
    refine PL.op rfl (Rd.moveT rfl) ?_
    refine PL.guard_on rfl h_5 ?_
    refine PL.op rfl (Rd.lss rfl rfl) ?_
    refine PL.op rfl (Rd.pick_f rfl h_5) ?_
    refine PL.op rfl (Rd.moveT rfl) ?_
    refine PL.guard_off rfl rfl h_6 ?_
    refine PL.guard_off rfl rfl h_6 ?_
    refine PL.op rfl (Rd.pick_t rfl h_6) ?_
    refine PL.nil ?_
    refine thA_n ?_
    refine PC.cond_true rfl rfl ?_
    refine PC.seq ?_
    refine PC.region ?_
    refine PL.op rfl (Rd.build rfl rfl rfl rfl) ?_
    refine PL.store rfl rfl rfl rfl rfl rfl rfl ?_
    refine PL.op rfl (Rd.asnT rfl) ?_
    refine PL.nil ?_
    refine thA_n ?_
    refine PC.ret ?_
    refine thA_r ?_
    obtain rfl := some_in hh0
    exact FinA.mk (r := .tup [.agg [.os 0 0 ((((I_Buffer.mk ([] : List I_Frame) (0 : Int)), false).1.frames).length), iA (((I_Buffer.mk ([] : List I_Frame) (0 : Int)), false).1.forced)], bA (((I_Buffer.mk ([] : List I_Frame) (0 : Int)), false).2)]) (bl := [⟨.tr (eL (((I_Buffer.mk ([] : List I_Frame) (0 : Int)), false).1.frames)), 59, 4⟩]) [none] (.inl rfl) rfl (rl := [.cell 6 28, .tmp 7]) (.cellN rfl rfl rfl rfl (.tmp .nil)) rfl rfl rfl (.tupL ⟨.aggL ⟨.osn rfl, .t _, trivial⟩, .t _, trivial⟩) ⟨ow_nil _, trivial⟩ ⟨rfl, rfl⟩
  refine PC.region ?_
  refine PL.op rfl (Rd.loadBox rfl rfl rfl) ?_
  refine PL.callM false [] (w_I_ValidBuffer N p_b r1 h_2) rfl Try.call20 rfl ⟨.aggL ⟨.t _, .t _, trivial⟩, trivial⟩ rfl trivial (fun h => by cases h) ?_
  refine PL.op rfl (Rd.unnot rfl) ?_
  refine PL.op rfl (Rd.moveT rfl) ?_
  refine PL.guard_on rfl (not_t h_3) ?_
  refine PL.op rfl (Rd.moveT rfl) ?_
  refine PL.guard_on rfl (not_t h_3) ?_
  refine PL.op rfl (Rd.lss rfl rfl) ?_
  refine PL.op rfl (Rd.pick_f rfl (not_t h_3)) ?_
  refine PL.op rfl (Rd.moveT rfl) ?_
  refine PL.guard_on rfl h_4 ?_
  refine PL.op rfl (Rd.moveT rfl) ?_
  refine PL.guard_on rfl h_4 ?_
  refine PL.op rfl (Rd.geq rfl rfl) ?_
  refine PL.op rfl (Rd.pick_f rfl h_4) ?_
  refine PL.op rfl (Rd.moveT rfl) ?_
  refine PL.guard_on rfl h_5 ?_
  refine PL.op rfl (Rd.moveT rfl) ?_
  refine PL.guard_on rfl h_5 ?_
  refine PL.op rfl (Rd.lss rfl rfl) ?_
  refine PL.op rfl (Rd.pick_f rfl h_5) ?_
  refine PL.op rfl (Rd.moveT rfl) ?_
  refine PL.guard_on rfl h_6 ?_
  refine PL.op rfl (Rd.moveT rfl) ?_
  refine PL.guard_on rfl h_6 ?_
  refine PL.op rfl (Rd.gtr rfl rfl) ?_
  refine PL.op rfl (Rd.pick_f rfl h_6) ?_
  refine PL.nil ?_
  refine thA_n ?_
  rcases cond_some hh0 with ⟨h_7, hh0⟩ | ⟨h_7, hh0⟩
  · refine PC.cond_true rfl h_7 ?_
    refine PC.seq ?_
    refine PC.region ?_
    refine PL.op rfl (Rd.build rfl rfl rfl rfl) ?_
    refine PL.store rfl rfl rfl rfl rfl rfl rfl ?_
    refine PL.op rfl (Rd.asnT rfl) ?_
    refine PL.nil ?_
    refine thA_n ?_
    refine PC.ret ?_
    refine thA_r ?_
    obtain rfl := some_in hh0
    exact FinA.mk (r := .tup [.agg [.os 0 0 ((((I_Buffer.mk ([] : List I_Frame) (0 : Int)), false).1.frames).length), iA (((I_Buffer.mk ([] : List I_Frame) (0 : Int)), false).1.forced)], bA (((I_Buffer.mk ([] : List I_Frame) (0 : Int)), false).2)]) (bl := [⟨.tr (eL (((I_Buffer.mk ([] : List I_Frame) (0 : Int)), false).1.frames)), 59, 4⟩]) [none] (.inl rfl) rfl (rl := [.cell 6 28, .tmp 7]) (.cellN rfl rfl rfl rfl (.tmp .nil)) rfl rfl rfl (.tupL ⟨.aggL ⟨.osn rfl, .t _, trivial⟩, .t _, trivial⟩) ⟨ow_nil _, trivial⟩ ⟨rfl, rfl⟩
  refine PC.cond_false rfl h_7 ?_
  refine PC.skip ?_
  refine thA_n ?_
  refine PC.seq ?_
  obtain ⟨r8, h_9, hh0⟩ := bind_some hh0
  refine PC.region ?_
  refine PL.op rfl (Rd.loadBox rfl rfl rfl) ?_
  refine PL.callM false [] (w_I_Buffer_clone N p_b r8 h_9) rfl Try.call33 rfl ⟨.aggL ⟨.t _, .t _, trivial⟩, trivial⟩ rfl trivial (fun h => by cases h) ?_
  refine PL.nm (.agg [.os 2 0 r8.frames.length, iA r8.forced]) [some ⟨.mx [sL p_b.frames, iA p_b.forced], 28, 0⟩, some ⟨.mx [.t (.v (.slice none 0 0)), iA (0 : Int)], 28, 0⟩, some ⟨.tr (eL r8.frames), 59, 4⟩] rfl rfl ?_
  refine PL.ef rfl (Ef.alloc rfl rfl) ?_
  refine PL.nm (.op 3 0) [some ⟨.mx [sL p_b.frames, iA p_b.forced], 28, 0⟩, some ⟨.mx [.t (.v (.slice none 0 0)), iA (0 : Int)], 28, 0⟩, some ⟨.tr (eL r8.frames), 59, 4⟩, some ⟨.mx [.t (.v (.slice none 0 0)), iA (0 : Int)], 28, 0⟩] rfl rfl ?_
  refine PL.store rfl rfl rfl rfl rfl rfl rfl ?_
  refine PL.nO [some ⟨.mx [sL p_b.frames, iA p_b.forced], 28, 0⟩, some ⟨.mx [.t (.v (.slice none 0 0)), iA (0 : Int)], 28, 0⟩, some ⟨.tr (eL r8.frames), 59, 4⟩, some ⟨.mx [.os 2 0 r8.frames.length, iA r8.forced], 28, 0⟩] rfl ?_
  refine PL.nil ?_
  refine thA_n ?_
  refine PC.seq ?_
  obtain ⟨r10, h_11, hh0⟩ := bind_some hh0
  refine PC.region ?_
  refine PL.op rfl (Rd.loadBox rfl rfl rfl) ?_
  refine PL.op rfl (Rd.moveT rfl) ?_
  refine PL.callM true [] (w_I_Buffer_find N r8 p_page r10 h_11) rfl Try.call41 rfl ⟨.aggL ⟨.own rfl (by first | decide | exact List.not_mem_nil) rfl rfl, .t _, trivial⟩, .t _, trivial⟩ rfl trivial (fun _ => ⟨trivial, flat_nil⟩) ?_
  refine PL.op rfl (Rd.asnT rfl) ?_
  refine PL.nil ?_
  refine thA_n ?_
  refine PC.seq ?_
  refine PC.seq ?_
  refine PC.region ?_
  refine PL.op rfl (Rd.moveT rfl) ?_
  refine PL.op rfl (Rd.lss rfl rfl) ?_
  refine PL.nil ?_
  refine thA_n ?_
  rcases cond_some hh0 with ⟨h_12, hh0⟩ | ⟨h_12, hh0⟩
  rotate_left
  · refine PC.cond_false rfl h_12 ?_
    refine PC.skip ?_
    refine thA_n ?_
    refine PC.seq ?_
    obtain ⟨x20, h_21, hh0⟩ := bind_some hh0
    refine PC.region ?_
    refine PL.op rfl (Rd.fieldO rfl rfl) ?_
    refine PL.op rfl (Rd.loadO rfl rfl rfl) ?_
    refine PL.op rfl (Rd.moveT rfl) ?_
    refine PL.op rfl (Rd.ixOM rfl rfl rfl (ixI_lt h_21)) ?_
    refine PL.op rfl (Rd.asnP rfl) ?_
    refine PL.nil ?_
    refine thA_n ?_
    refine PC.seq ?_
    refine PC.seq ?_
    refine PC.region ?_
    refine PL.op rfl (Rd.moveT rfl) ?_
    refine PL.op rfl (Rd.moveP rfl) ?_
    refine PL.op rfl (Rd.nilCheckO rfl rfl) ?_
    refine PL.op rfl (Rd.fieldO rfl rfl) ?_
    refine PL.op rfl (Rd.owMF (f := 3) rfl rfl h_21 rfl rfl) ?_
    refine PL.op rfl (Rd.leq rfl rfl) ?_
    refine PL.nil ?_
    refine thA_n ?_
    rcases cond_some hh0 with ⟨h_22, hh0⟩ | ⟨h_22, hh0⟩
    · refine PC.cond_true rfl h_22 ?_
      refine PC.seq ?_
      refine PC.region ?_
      refine PL.op rfl (Rd.build rfl rfl rfl rfl) ?_
      refine PL.store rfl rfl rfl rfl rfl rfl rfl ?_
      refine PL.op rfl (Rd.asnT rfl) ?_
      refine PL.nil ?_
      refine thA_n ?_
      refine PC.ret ?_
      refine thA_r ?_
      obtain rfl := some_in hh0
      exact FinA.mk (r := .tup [.agg [.os 0 0 ((((I_Buffer.mk ([] : List I_Frame) (0 : Int)), false).1.frames).length), iA (((I_Buffer.mk ([] : List I_Frame) (0 : Int)), false).1.forced)], bA (((I_Buffer.mk ([] : List I_Frame) (0 : Int)), false).2)]) (bl := [⟨.tr (eL (((I_Buffer.mk ([] : List I_Frame) (0 : Int)), false).1.frames)), 59, 4⟩]) [none] (.inl rfl) rfl (rl := [.cell 6 28, .tmp 7]) (.cellN rfl rfl rfl rfl (.tmp .nil)) rfl rfl rfl (.tupL ⟨.aggL ⟨.osn rfl, .t _, trivial⟩, .t _, trivial⟩) ⟨ow_nil _, trivial⟩ ⟨rfl, rfl⟩
    refine PC.cond_false rfl h_22 ?_
    refine PC.skip ?_
    refine thA_n ?_
    refine PC.seq ?_
    refine PC.seq ?_
    refine PC.region ?_
    refine PL.op rfl (Rd.moveP rfl) ?_
    refine PL.op rfl (Rd.nilCheckO rfl rfl) ?_
    refine PL.op rfl (Rd.fieldO rfl rfl) ?_
    refine PL.op rfl (Rd.owMF (f := 1) rfl rfl h_21 rfl rfl) ?_
    refine PL.op rfl (Rd.unnot rfl) ?_
    refine PL.nil ?_
    refine thA_n ?_
    rcases cond_some hh0 with ⟨h_23, hh0⟩ | ⟨h_23, hh0⟩
    · refine PC.cond_false rfl (not_t h_23) ?_
      refine PC.skip ?_
      refine thA_n ?_
      refine PC.seq ?_
      refine PC.region ?_
      refine PL.op rfl (Rd.moveP rfl) ?_
      refine PL.op rfl (Rd.nilCheckO rfl rfl) ?_
      refine PL.op rfl (Rd.fieldO rfl rfl) ?_
      refine PL.stFM (f := 1) (I_Frame.mk x20.page true x20.first x20.last) rfl rfl rfl rfl h_21 rfl rfl ?_
      refine PL.nO [some ⟨.mx [sL p_b.frames, iA p_b.forced], 28, 0⟩, some ⟨.mx [.t (.v (.slice none 0 0)), iA (0 : Int)], 28, 0⟩, some ⟨.tr (eL (r8.frames.set r10.toNat (I_Frame.mk x20.page true x20.first x20.last))), 59, 4⟩, some ⟨.mx [.os 2 0 r8.frames.length, iA r8.forced], 28, 0⟩] rfl ?_
      refine PL.nil ?_
      refine thA_n ?_
      refine PC.seq ?_
      refine PC.region ?_
      refine PL.op rfl (Rd.moveP rfl) ?_
      refine PL.op rfl (Rd.moveT rfl) ?_
      refine PL.op rfl (Rd.nilCheckO rfl rfl) ?_
      refine PL.op rfl (Rd.fieldO rfl rfl) ?_
      refine PL.stFM (f := 3) (I_Frame.mk x20.page true x20.first p_lsn) rfl rfl rfl rfl (ixI_set (y := (I_Frame.mk x20.page true x20.first x20.last)) h_21) rfl rfl ?_
      refine PL.nO [some ⟨.mx [sL p_b.frames, iA p_b.forced], 28, 0⟩, some ⟨.mx [.t (.v (.slice none 0 0)), iA (0 : Int)], 28, 0⟩, some ⟨.tr (eL ((r8.frames.set r10.toNat (I_Frame.mk x20.page true x20.first x20.last)).set r10.toNat (I_Frame.mk x20.page true x20.first p_lsn))), 59, 4⟩, some ⟨.mx [.os 2 0 r8.frames.length, iA r8.forced], 28, 0⟩] rfl ?_
      refine PL.nil ?_
      refine thA_n ?_
      refine PC.seq ?_
      refine PC.region ?_
      refine PL.op rfl (Rd.loadBox rfl rfl rfl) ?_
      refine PL.store rfl rfl rfl rfl rfl rfl rfl ?_
      refine PL.nO [some ⟨.mx [sL p_b.frames, iA p_b.forced], 28, 0⟩, some ⟨.mx [.os 2 0 r8.frames.length, iA r8.forced], 28, 0⟩, some ⟨.tr (eL ((r8.frames.set r10.toNat (I_Frame.mk x20.page true x20.first x20.last)).set r10.toNat (I_Frame.mk x20.page true x20.first p_lsn))), 59, 4⟩, some ⟨.mx [.os 2 0 r8.frames.length, iA r8.forced], 28, 0⟩] rfl ?_
      refine PL.op rfl (Rd.asnT rfl) ?_
      refine PL.nil ?_
      refine thA_n ?_
      refine PC.ret ?_
      obtain rfl := some_in hh0
      exact FinA.mk (r := .tup [.agg [.os 0 0 ((((I_Buffer.mk ((r8.frames.set r10.toNat (I_Frame.mk x20.page true x20.first x20.last)).set r10.toNat (I_Frame.mk x20.page true x20.first p_lsn)) r8.forced), true).1.frames).length), iA (((I_Buffer.mk ((r8.frames.set r10.toNat (I_Frame.mk x20.page true x20.first x20.last)).set r10.toNat (I_Frame.mk x20.page true x20.first p_lsn)) r8.forced), true).1.forced)], bA (((I_Buffer.mk ((r8.frames.set r10.toNat (I_Frame.mk x20.page true x20.first x20.last)).set r10.toNat (I_Frame.mk x20.page true x20.first p_lsn)) r8.forced), true).2)]) (bl := [⟨.tr (eL (((I_Buffer.mk ((r8.frames.set r10.toNat (I_Frame.mk x20.page true x20.first x20.last)).set r10.toNat (I_Frame.mk x20.page true x20.first p_lsn)) r8.forced), true).1.frames)), 59, 4⟩]) [some 2] (.inl rfl) rfl (rl := [.cell 6 28, .tmp 7]) (.cellN rfl rfl rfl rfl (.tmp .nil)) rfl rfl rfl (.tupL ⟨.aggL ⟨.osE rfl (by simp only [List.length_set]), .t _, trivial⟩, .t _, trivial⟩) ⟨⟨_, rfl, rfl, rfl, .tr _⟩, trivial⟩ ⟨rfl, rfl⟩
    refine PC.cond_true rfl (not_f h_23) ?_
    refine PC.region ?_
    refine PL.op rfl (Rd.moveP rfl) ?_
    refine PL.op rfl (Rd.moveT rfl) ?_
    refine PL.op rfl (Rd.nilCheckO rfl rfl) ?_
    refine PL.op rfl (Rd.fieldO rfl rfl) ?_
    refine PL.stFM (f := 2) (I_Frame.mk x20.page x20.dirty p_lsn x20.last) rfl rfl rfl rfl h_21 rfl rfl ?_
    refine PL.nO [some ⟨.mx [sL p_b.frames, iA p_b.forced], 28, 0⟩, some ⟨.mx [.t (.v (.slice none 0 0)), iA (0 : Int)], 28, 0⟩, some ⟨.tr (eL (r8.frames.set r10.toNat (I_Frame.mk x20.page x20.dirty p_lsn x20.last))), 59, 4⟩, some ⟨.mx [.os 2 0 r8.frames.length, iA r8.forced], 28, 0⟩] rfl ?_
    refine PL.nil ?_
    refine thA_n ?_
    refine PC.seq ?_
    refine PC.region ?_
    refine PL.op rfl (Rd.moveP rfl) ?_
    refine PL.op rfl (Rd.nilCheckO rfl rfl) ?_
    refine PL.op rfl (Rd.fieldO rfl rfl) ?_
    refine PL.stFM (f := 1) (I_Frame.mk x20.page true p_lsn x20.last) rfl rfl rfl rfl (ixI_set (y := (I_Frame.mk x20.page x20.dirty p_lsn x20.last)) h_21) rfl rfl ?_
    refine PL.nO [some ⟨.mx [sL p_b.frames, iA p_b.forced], 28, 0⟩, some ⟨.mx [.t (.v (.slice none 0 0)), iA (0 : Int)], 28, 0⟩, some ⟨.tr (eL ((r8.frames.set r10.toNat (I_Frame.mk x20.page x20.dirty p_lsn x20.last)).set r10.toNat (I_Frame.mk x20.page true p_lsn x20.last))), 59, 4⟩, some ⟨.mx [.os 2 0 r8.frames.length, iA r8.forced], 28, 0⟩] rfl ?_
    refine PL.nil ?_
    refine thA_n ?_
    refine PC.seq ?_
    refine PC.region ?_
    refine PL.op rfl (Rd.moveP rfl) ?_
    refine PL.op rfl (Rd.moveT rfl) ?_
    refine PL.op rfl (Rd.nilCheckO rfl rfl) ?_
    refine PL.op rfl (Rd.fieldO rfl rfl) ?_
    refine PL.stFM (f := 3) (I_Frame.mk x20.page true p_lsn p_lsn) rfl rfl rfl rfl (ixI_set (y := (I_Frame.mk x20.page true p_lsn x20.last)) (ixI_set (y := (I_Frame.mk x20.page x20.dirty p_lsn x20.last)) h_21)) rfl rfl ?_
    refine PL.nO [some ⟨.mx [sL p_b.frames, iA p_b.forced], 28, 0⟩, some ⟨.mx [.t (.v (.slice none 0 0)), iA (0 : Int)], 28, 0⟩, some ⟨.tr (eL (((r8.frames.set r10.toNat (I_Frame.mk x20.page x20.dirty p_lsn x20.last)).set r10.toNat (I_Frame.mk x20.page true p_lsn x20.last)).set r10.toNat (I_Frame.mk x20.page true p_lsn p_lsn))), 59, 4⟩, some ⟨.mx [.os 2 0 r8.frames.length, iA r8.forced], 28, 0⟩] rfl ?_
    refine PL.nil ?_
    refine thA_n ?_
    refine PC.seq ?_
    refine PC.region ?_
    refine PL.op rfl (Rd.loadBox rfl rfl rfl) ?_
    refine PL.store rfl rfl rfl rfl rfl rfl rfl ?_
    refine PL.nO [some ⟨.mx [sL p_b.frames, iA p_b.forced], 28, 0⟩, some ⟨.mx [.os 2 0 r8.frames.length, iA r8.forced], 28, 0⟩, some ⟨.tr (eL (((r8.frames.set r10.toNat (I_Frame.mk x20.page x20.dirty p_lsn x20.last)).set r10.toNat (I_Frame.mk x20.page true p_lsn x20.last)).set r10.toNat (I_Frame.mk x20.page true p_lsn p_lsn))), 59, 4⟩, some ⟨.mx [.os 2 0 r8.frames.length, iA r8.forced], 28, 0⟩] rfl ?_
    refine PL.op rfl (Rd.asnT rfl) ?_
    refine PL.nil ?_
    refine thA_n ?_
    refine PC.ret ?_
    obtain rfl := some_in hh0
    exact FinA.mk (r := .tup [.agg [.os 0 0 ((((I_Buffer.mk (((r8.frames.set r10.toNat (I_Frame.mk x20.page x20.dirty p_lsn x20.last)).set r10.toNat (I_Frame.mk x20.page true p_lsn x20.last)).set r10.toNat (I_Frame.mk x20.page true p_lsn p_lsn)) r8.forced), true).1.frames).length), iA (((I_Buffer.mk (((r8.frames.set r10.toNat (I_Frame.mk x20.page x20.dirty p_lsn x20.last)).set r10.toNat (I_Frame.mk x20.page true p_lsn x20.last)).set r10.toNat (I_Frame.mk x20.page true p_lsn p_lsn)) r8.forced), true).1.forced)], bA (((I_Buffer.mk (((r8.frames.set r10.toNat (I_Frame.mk x20.page x20.dirty p_lsn x20.last)).set r10.toNat (I_Frame.mk x20.page true p_lsn x20.last)).set r10.toNat (I_Frame.mk x20.page true p_lsn p_lsn)) r8.forced), true).2)]) (bl := [⟨.tr (eL (((I_Buffer.mk (((r8.frames.set r10.toNat (I_Frame.mk x20.page x20.dirty p_lsn x20.last)).set r10.toNat (I_Frame.mk x20.page true p_lsn x20.last)).set r10.toNat (I_Frame.mk x20.page true p_lsn p_lsn)) r8.forced), true).1.frames)), 59, 4⟩]) [some 2] (.inl rfl) rfl (rl := [.cell 6 28, .tmp 7]) (.cellN rfl rfl rfl rfl (.tmp .nil)) rfl rfl rfl (.tupL ⟨.aggL ⟨.osE rfl (by simp only [List.length_set]), .t _, trivial⟩, .t _, trivial⟩) ⟨⟨_, rfl, rfl, rfl, .tr _⟩, trivial⟩ ⟨rfl, rfl⟩
  refine PC.cond_true rfl h_12 ?_
  refine PC.seq ?_
  refine PC.seq ?_
  refine PC.region ?_
  refine PL.op rfl (Rd.fieldO rfl rfl) ?_
  refine PL.op rfl (Rd.loadO rfl rfl rfl) ?_
  refine PL.op rfl (Rd.lenO rfl rfl) ?_
  refine PL.op rfl (Rd.eql rfl rfl) ?_
  refine PL.nil ?_
  refine thA_n ?_
  rcases cond_some hh0 with ⟨h_13, hh0⟩ | ⟨h_13, hh0⟩
  · refine PC.cond_true rfl h_13 ?_
    refine PC.seq ?_
    refine PC.region ?_
    refine PL.op rfl (Rd.build rfl rfl rfl rfl) ?_
    refine PL.store rfl rfl rfl rfl rfl rfl rfl ?_
    refine PL.op rfl (Rd.asnT rfl) ?_
    refine PL.nil ?_
    refine thA_n ?_
    refine PC.ret ?_
    refine thA_r ?_
    refine thA_r ?_
    obtain rfl := some_in hh0
    exact FinA.mk (r := .tup [.agg [.os 0 0 ((((I_Buffer.mk ([] : List I_Frame) (0 : Int)), false).1.frames).length), iA (((I_Buffer.mk ([] : List I_Frame) (0 : Int)), false).1.forced)], bA (((I_Buffer.mk ([] : List I_Frame) (0 : Int)), false).2)]) (bl := [⟨.tr (eL (((I_Buffer.mk ([] : List I_Frame) (0 : Int)), false).1.frames)), 59, 4⟩]) [none] (.inl rfl) rfl (rl := [.cell 6 28, .tmp 7]) (.cellN rfl rfl rfl rfl (.tmp .nil)) rfl rfl rfl (.tupL ⟨.aggL ⟨.osn rfl, .t _, trivial⟩, .t _, trivial⟩) ⟨ow_nil _, trivial⟩ ⟨rfl, rfl⟩
  refine PC.cond_false rfl h_13 ?_
  refine PC.skip ?_
  refine thA_n ?_
  refine PC.seq ?_
  refine PC.region ?_
  refine PL.op rfl (Rd.fieldO rfl rfl) ?_
  refine PL.op rfl (Rd.loadO rfl rfl rfl) ?_
  refine PL.op rfl (Rd.lenO rfl rfl) ?_
  refine PL.op rfl (Rd.asnT rfl) ?_
  refine PL.nil ?_
  refine thA_n ?_
  obtain ⟨xs14, h_15, hh0⟩ := bind_some hh0
  refine PC.region ?_
  refine PL.op rfl (Rd.fieldO rfl rfl) ?_
  refine PL.op rfl (Rd.loadO rfl rfl rfl) ?_
  refine PL.op rfl (Rd.moveT rfl) ?_
  refine PL.op rfl (Rd.build rfl rfl rfl rfl) ?_
  refine PL.ef rfl (Ef.litM (α := I_Frame) [(I_Frame.mk p_page false (0 : Int) (0 : Int))] [_] rfl rfl (by decide) rfl rfl rfl rfl) ?_
  refine PL.nm (.os 4 0 1) [some ⟨.mx [sL p_b.frames, iA p_b.forced], 28, 0⟩, some ⟨.mx [.t (.v (.slice none 0 0)), iA (0 : Int)], 28, 0⟩, some ⟨.tr (eL r8.frames), 59, 4⟩, some ⟨.mx [.os 2 0 r8.frames.length, iA r8.forced], 28, 0⟩, some ⟨.tr (eL [(I_Frame.mk p_page false (0 : Int) (0 : Int))]), 59, 4⟩] rfl rfl ?_
  refine PL.apM hs rfl rfl rfl rfl (SrcA.ownE rfl rfl rfl) rfl rfl rfl rfl h_15 ?_
  refine PL.nm (.os 5 0 xs14.length) [some ⟨.mx [sL p_b.frames, iA p_b.forced], 28, 0⟩, some ⟨.mx [.t (.v (.slice none 0 0)), iA (0 : Int)], 28, 0⟩, none, some ⟨.mx [.os 2 0 r8.frames.length, iA r8.forced], 28, 0⟩, some ⟨.tr (eL [(I_Frame.mk p_page false (0 : Int) (0 : Int))]), 59, 4⟩, some ⟨.tr (eL xs14), 59, 4⟩] rfl rfl ?_
  refine PL.op rfl (Rd.fieldO rfl rfl) ?_
  refine PL.store rfl rfl rfl rfl rfl rfl rfl ?_
  refine PL.nO [some ⟨.mx [sL p_b.frames, iA p_b.forced], 28, 0⟩, some ⟨.mx [.t (.v (.slice none 0 0)), iA (0 : Int)], 28, 0⟩, none, some ⟨.mx [.os 5 0 xs14.length, iA r8.forced], 28, 0⟩, some ⟨.tr (eL [(I_Frame.mk p_page false (0 : Int) (0 : Int))]), 59, 4⟩, some ⟨.tr (eL xs14), 59, 4⟩] rfl ?_
  refine PL.nil ?_
  refine thA_n ?_
  refine PC.seq ?_
  obtain ⟨x16, h_17, hh0⟩ := bind_some hh0
  refine PC.region ?_
  refine PL.op rfl (Rd.fieldO rfl rfl) ?_
  refine PL.op rfl (Rd.loadO rfl rfl rfl) ?_
  refine PL.op rfl (Rd.moveT rfl) ?_
  refine PL.op rfl (Rd.ixOM rfl rfl rfl (ixI_lt h_17)) ?_
  refine PL.op rfl (Rd.asnP rfl) ?_
  refine PL.nil ?_
  refine thA_n ?_
  refine PC.seq ?_
  refine PC.seq ?_
  refine PC.region ?_
  refine PL.op rfl (Rd.moveT rfl) ?_
  refine PL.op rfl (Rd.moveP rfl) ?_
  refine PL.op rfl (Rd.nilCheckO rfl rfl) ?_
  refine PL.op rfl (Rd.fieldO rfl rfl) ?_
  refine PL.op rfl (Rd.owMF (f := 3) rfl rfl h_17 rfl rfl) ?_
  refine PL.op rfl (Rd.leq rfl rfl) ?_
  refine PL.nil ?_
  refine thA_n ?_
  rcases cond_some hh0 with ⟨h_18, hh0⟩ | ⟨h_18, hh0⟩
  · refine PC.cond_true rfl h_18 ?_
    refine PC.seq ?_
    refine PC.region ?_
    refine PL.op rfl (Rd.build rfl rfl rfl rfl) ?_
    refine PL.store rfl rfl rfl rfl rfl rfl rfl ?_
    refine PL.op rfl (Rd.asnT rfl) ?_
    refine PL.nil ?_
    refine thA_n ?_
    refine PC.ret ?_
    refine thA_r ?_
    obtain rfl := some_in hh0
    exact FinA.mk (r := .tup [.agg [.os 0 0 ((((I_Buffer.mk ([] : List I_Frame) (0 : Int)), false).1.frames).length), iA (((I_Buffer.mk ([] : List I_Frame) (0 : Int)), false).1.forced)], bA (((I_Buffer.mk ([] : List I_Frame) (0 : Int)), false).2)]) (bl := [⟨.tr (eL (((I_Buffer.mk ([] : List I_Frame) (0 : Int)), false).1.frames)), 59, 4⟩]) [none] (.inl rfl) rfl (rl := [.cell 6 28, .tmp 7]) (.cellN rfl rfl rfl rfl (.tmp .nil)) rfl rfl rfl (.tupL ⟨.aggL ⟨.osn rfl, .t _, trivial⟩, .t _, trivial⟩) ⟨ow_nil _, trivial⟩ ⟨rfl, rfl⟩
  refine PC.cond_false rfl h_18 ?_
  refine PC.skip ?_
  refine thA_n ?_
  refine PC.seq ?_
  refine PC.seq ?_
  refine PC.region ?_
  refine PL.op rfl (Rd.moveP rfl) ?_
  refine PL.op rfl (Rd.nilCheckO rfl rfl) ?_
  refine PL.op rfl (Rd.fieldO rfl rfl) ?_
  refine PL.op rfl (Rd.owMF (f := 1) rfl rfl h_17 rfl rfl) ?_
  refine PL.op rfl (Rd.unnot rfl) ?_
  refine PL.nil ?_
  refine thA_n ?_
  rcases cond_some hh0 with ⟨h_19, hh0⟩ | ⟨h_19, hh0⟩
  · refine PC.cond_false rfl (not_t h_19) ?_
    refine PC.skip ?_
    refine thA_n ?_
    refine PC.seq ?_
    refine PC.region ?_
    refine PL.op rfl (Rd.moveP rfl) ?_
    refine PL.op rfl (Rd.nilCheckO rfl rfl) ?_
    refine PL.op rfl (Rd.fieldO rfl rfl) ?_
    refine PL.stFM (f := 1) (I_Frame.mk x16.page true x16.first x16.last) rfl rfl rfl rfl h_17 rfl rfl ?_
    refine PL.nO [some ⟨.mx [sL p_b.frames, iA p_b.forced], 28, 0⟩, some ⟨.mx [.t (.v (.slice none 0 0)), iA (0 : Int)], 28, 0⟩, none, some ⟨.mx [.os 5 0 xs14.length, iA r8.forced], 28, 0⟩, some ⟨.tr (eL [(I_Frame.mk p_page false (0 : Int) (0 : Int))]), 59, 4⟩, some ⟨.tr (eL (xs14.set (r8.frames.length : Int).toNat (I_Frame.mk x16.page true x16.first x16.last))), 59, 4⟩] rfl ?_
    refine PL.nil ?_
    refine thA_n ?_
    refine PC.seq ?_
    refine PC.region ?_
    refine PL.op rfl (Rd.moveP rfl) ?_
    refine PL.op rfl (Rd.moveT rfl) ?_
    refine PL.op rfl (Rd.nilCheckO rfl rfl) ?_
    refine PL.op rfl (Rd.fieldO rfl rfl) ?_
    refine PL.stFM (f := 3) (I_Frame.mk x16.page true x16.first p_lsn) rfl rfl rfl rfl (ixI_set (y := (I_Frame.mk x16.page true x16.first x16.last)) h_17) rfl rfl ?_
    refine PL.nO [some ⟨.mx [sL p_b.frames, iA p_b.forced], 28, 0⟩, some ⟨.mx [.t (.v (.slice none 0 0)), iA (0 : Int)], 28, 0⟩, none, some ⟨.mx [.os 5 0 xs14.length, iA r8.forced], 28, 0⟩, some ⟨.tr (eL [(I_Frame.mk p_page false (0 : Int) (0 : Int))]), 59, 4⟩, some ⟨.tr (eL ((xs14.set (r8.frames.length : Int).toNat (I_Frame.mk x16.page true x16.first x16.last)).set (r8.frames.length : Int).toNat (I_Frame.mk x16.page true x16.first p_lsn))), 59, 4⟩] rfl ?_
    refine PL.nil ?_
    refine thA_n ?_
    refine PC.seq ?_
    refine PC.region ?_
    refine PL.op rfl (Rd.loadBox rfl rfl rfl) ?_
    refine PL.store rfl rfl rfl rfl rfl rfl rfl ?_
    refine PL.nO [some ⟨.mx [sL p_b.frames, iA p_b.forced], 28, 0⟩, some ⟨.mx [.os 5 0 xs14.length, iA r8.forced], 28, 0⟩, none, some ⟨.mx [.os 5 0 xs14.length, iA r8.forced], 28, 0⟩, some ⟨.tr (eL [(I_Frame.mk p_page false (0 : Int) (0 : Int))]), 59, 4⟩, some ⟨.tr (eL ((xs14.set (r8.frames.length : Int).toNat (I_Frame.mk x16.page true x16.first x16.last)).set (r8.frames.length : Int).toNat (I_Frame.mk x16.page true x16.first p_lsn))), 59, 4⟩] rfl ?_
    refine PL.op rfl (Rd.asnT rfl) ?_
    refine PL.nil ?_
    refine thA_n ?_
    refine PC.ret ?_
    obtain rfl := some_in hh0
    exact FinA.mk (r := .tup [.agg [.os 0 0 ((((I_Buffer.mk ((xs14.set (r8.frames.length : Int).toNat (I_Frame.mk x16.page true x16.first x16.last)).set (r8.frames.length : Int).toNat (I_Frame.mk x16.page true x16.first p_lsn)) r8.forced), true).1.frames).length), iA (((I_Buffer.mk ((xs14.set (r8.frames.length : Int).toNat (I_Frame.mk x16.page true x16.first x16.last)).set (r8.frames.length : Int).toNat (I_Frame.mk x16.page true x16.first p_lsn)) r8.forced), true).1.forced)], bA (((I_Buffer.mk ((xs14.set (r8.frames.length : Int).toNat (I_Frame.mk x16.page true x16.first x16.last)).set (r8.frames.length : Int).toNat (I_Frame.mk x16.page true x16.first p_lsn)) r8.forced), true).2)]) (bl := [⟨.tr (eL (((I_Buffer.mk ((xs14.set (r8.frames.length : Int).toNat (I_Frame.mk x16.page true x16.first x16.last)).set (r8.frames.length : Int).toNat (I_Frame.mk x16.page true x16.first p_lsn)) r8.forced), true).1.frames)), 59, 4⟩]) [some 5] (.inl rfl) rfl (rl := [.cell 6 28, .tmp 7]) (.cellN rfl rfl rfl rfl (.tmp .nil)) rfl rfl rfl (.tupL ⟨.aggL ⟨.osE rfl (by simp only [List.length_set]), .t _, trivial⟩, .t _, trivial⟩) ⟨⟨_, rfl, rfl, rfl, .tr _⟩, trivial⟩ ⟨rfl, rfl⟩
  refine PC.cond_true rfl (not_f h_19) ?_
  refine PC.region ?_
  refine PL.op rfl (Rd.moveP rfl) ?_
  refine PL.op rfl (Rd.moveT rfl) ?_
  refine PL.op rfl (Rd.nilCheckO rfl rfl) ?_
  refine PL.op rfl (Rd.fieldO rfl rfl) ?_
  refine PL.stFM (f := 2) (I_Frame.mk x16.page x16.dirty p_lsn x16.last) rfl rfl rfl rfl h_17 rfl rfl ?_
  refine PL.nO [some ⟨.mx [sL p_b.frames, iA p_b.forced], 28, 0⟩, some ⟨.mx [.t (.v (.slice none 0 0)), iA (0 : Int)], 28, 0⟩, none, some ⟨.mx [.os 5 0 xs14.length, iA r8.forced], 28, 0⟩, some ⟨.tr (eL [(I_Frame.mk p_page false (0 : Int) (0 : Int))]), 59, 4⟩, some ⟨.tr (eL (xs14.set (r8.frames.length : Int).toNat (I_Frame.mk x16.page x16.dirty p_lsn x16.last))), 59, 4⟩] rfl ?_
  refine PL.nil ?_
  refine thA_n ?_
  refine PC.seq ?_
  refine PC.region ?_
  refine PL.op rfl (Rd.moveP rfl) ?_
  refine PL.op rfl (Rd.nilCheckO rfl rfl) ?_
  refine PL.op rfl (Rd.fieldO rfl rfl) ?_
  refine PL.stFM (f := 1) (I_Frame.mk x16.page true p_lsn x16.last) rfl rfl rfl rfl (ixI_set (y := (I_Frame.mk x16.page x16.dirty p_lsn x16.last)) h_17) rfl rfl ?_
  refine PL.nO [some ⟨.mx [sL p_b.frames, iA p_b.forced], 28, 0⟩, some ⟨.mx [.t (.v (.slice none 0 0)), iA (0 : Int)], 28, 0⟩, none, some ⟨.mx [.os 5 0 xs14.length, iA r8.forced], 28, 0⟩, some ⟨.tr (eL [(I_Frame.mk p_page false (0 : Int) (0 : Int))]), 59, 4⟩, some ⟨.tr (eL ((xs14.set (r8.frames.length : Int).toNat (I_Frame.mk x16.page x16.dirty p_lsn x16.last)).set (r8.frames.length : Int).toNat (I_Frame.mk x16.page true p_lsn x16.last))), 59, 4⟩] rfl ?_
  refine PL.nil ?_
  refine thA_n ?_
  refine PC.seq ?_
  refine PC.region ?_
  refine PL.op rfl (Rd.moveP rfl) ?_
  refine PL.op rfl (Rd.moveT rfl) ?_
  refine PL.op rfl (Rd.nilCheckO rfl rfl) ?_
  refine PL.op rfl (Rd.fieldO rfl rfl) ?_
  refine PL.stFM (f := 3) (I_Frame.mk x16.page true p_lsn p_lsn) rfl rfl rfl rfl (ixI_set (y := (I_Frame.mk x16.page true p_lsn x16.last)) (ixI_set (y := (I_Frame.mk x16.page x16.dirty p_lsn x16.last)) h_17)) rfl rfl ?_
  refine PL.nO [some ⟨.mx [sL p_b.frames, iA p_b.forced], 28, 0⟩, some ⟨.mx [.t (.v (.slice none 0 0)), iA (0 : Int)], 28, 0⟩, none, some ⟨.mx [.os 5 0 xs14.length, iA r8.forced], 28, 0⟩, some ⟨.tr (eL [(I_Frame.mk p_page false (0 : Int) (0 : Int))]), 59, 4⟩, some ⟨.tr (eL (((xs14.set (r8.frames.length : Int).toNat (I_Frame.mk x16.page x16.dirty p_lsn x16.last)).set (r8.frames.length : Int).toNat (I_Frame.mk x16.page true p_lsn x16.last)).set (r8.frames.length : Int).toNat (I_Frame.mk x16.page true p_lsn p_lsn))), 59, 4⟩] rfl ?_
  refine PL.nil ?_
  refine thA_n ?_
  refine PC.seq ?_
  refine PC.region ?_
  refine PL.op rfl (Rd.loadBox rfl rfl rfl) ?_
  refine PL.store rfl rfl rfl rfl rfl rfl rfl ?_
  refine PL.nO [some ⟨.mx [sL p_b.frames, iA p_b.forced], 28, 0⟩, some ⟨.mx [.os 5 0 xs14.length, iA r8.forced], 28, 0⟩, none, some ⟨.mx [.os 5 0 xs14.length, iA r8.forced], 28, 0⟩, some ⟨.tr (eL [(I_Frame.mk p_page false (0 : Int) (0 : Int))]), 59, 4⟩, some ⟨.tr (eL (((xs14.set (r8.frames.length : Int).toNat (I_Frame.mk x16.page x16.dirty p_lsn x16.last)).set (r8.frames.length : Int).toNat (I_Frame.mk x16.page true p_lsn x16.last)).set (r8.frames.length : Int).toNat (I_Frame.mk x16.page true p_lsn p_lsn))), 59, 4⟩] rfl ?_
  refine PL.op rfl (Rd.asnT rfl) ?_
  refine PL.nil ?_
  refine thA_n ?_
  refine PC.ret ?_
  obtain rfl := some_in hh0
  exact FinA.mk (r := .tup [.agg [.os 0 0 ((((I_Buffer.mk (((xs14.set (r8.frames.length : Int).toNat (I_Frame.mk x16.page x16.dirty p_lsn x16.last)).set (r8.frames.length : Int).toNat (I_Frame.mk x16.page true p_lsn x16.last)).set (r8.frames.length : Int).toNat (I_Frame.mk x16.page true p_lsn p_lsn)) r8.forced), true).1.frames).length), iA (((I_Buffer.mk (((xs14.set (r8.frames.length : Int).toNat (I_Frame.mk x16.page x16.dirty p_lsn x16.last)).set (r8.frames.length : Int).toNat (I_Frame.mk x16.page true p_lsn x16.last)).set (r8.frames.length : Int).toNat (I_Frame.mk x16.page true p_lsn p_lsn)) r8.forced), true).1.forced)], bA (((I_Buffer.mk (((xs14.set (r8.frames.length : Int).toNat (I_Frame.mk x16.page x16.dirty p_lsn x16.last)).set (r8.frames.length : Int).toNat (I_Frame.mk x16.page true p_lsn x16.last)).set (r8.frames.length : Int).toNat (I_Frame.mk x16.page true p_lsn p_lsn)) r8.forced), true).2)]) (bl := [⟨.tr (eL (((I_Buffer.mk (((xs14.set (r8.frames.length : Int).toNat (I_Frame.mk x16.page x16.dirty p_lsn x16.last)).set (r8.frames.length : Int).toNat (I_Frame.mk x16.page true p_lsn x16.last)).set (r8.frames.length : Int).toNat (I_Frame.mk x16.page true p_lsn p_lsn)) r8.forced), true).1.frames)), 59, 4⟩]) [some 5] (.inl rfl) rfl (rl := [.cell 6 28, .tmp 7]) (.cellN rfl rfl rfl rfl (.tmp .nil)) rfl rfl rfl (.tupL ⟨.aggL ⟨.osE rfl (by simp only [List.length_set]), .t _, trivial⟩, .t _, trivial⟩) ⟨⟨_, rfl, rfl, rfl, .tr _⟩, trivial⟩ ⟨rfl, rfl⟩

end V
end Go.Proofs.Ytifcacahgiihoaa
