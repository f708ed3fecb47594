/- Pages: a law's function. No condition. -/
import Derived.Test.YtoljdhdfijnjiaaPgEa
namespace Go.Proofs.Ytoljdhdfijnjiaa
namespace V
open Enc (enc)
set_option linter.unusedVariables false
set_option linter.unusedSimpArgs false
set_option maxHeartbeats 4000000
set_option maxRecDepth 100000
open Go.RowKit
attribute [local irreducible] thA inA FinA eL

def m_L_FnSetSlot (N : Nat) (p_code : (List UInt8)) : Option (Bool) :=
  cond (decide ((1048576 : Int) < (p_code.length : Int)))
    (some true)
    ((m_S_DrawSetSlot N p_code).bind fun r2 =>
    (m_I_SetSlot N r2.1 r2.2.1 r2.2.2).bind fun r4 =>
    (m_S_SetSlot N r2.1 r2.2.1 r2.2.2).bind fun r6 =>
    (m_L_equalSlots N r4.1.slots r6.1.slots).bind fun r8 =>
    cond r8
      (cond (r4.2 == r6.2)
        (cond r4.2
          ((m_I_GetSlot N r2.1 r2.2.1).bind fun r13 =>
          (m_I_GetSlot N r4.1 r2.2.1).bind fun r15 =>
          (m_I_SetSlot N r4.1 r2.2.1 r13.1).bind fun r17 =>
          cond r13.2
            (cond r15.2
              (cond (r15.1.toList == r2.2.2.toList)
                (cond r17.2
                  ((m_L_equalSlots N r17.1.slots r2.1.slots).bind fun r23 =>
                  cond r23
                    (some (decide ((r4.1.slots.length : Int) = (r2.1.slots.length : Int))))
                    (some false))
                  (some false))
                (some false))
              (some false))
            (some false))
          ((m_L_equalSlots N r4.1.slots r6.1.slots).bind fun r26 =>
          cond r26
            (some (r4.2 == r6.2))
            (some false)))
        ((m_L_equalSlots N r4.1.slots r6.1.slots).bind fun r29 =>
        cond r29
          (some (r4.2 == r6.2))
          (some false)))
      ((m_L_equalSlots N r4.1.slots r6.1.slots).bind fun r32 =>
      cond r32
        (some (r4.2 == r6.2))
        (some false)))
theorem w_L_FnSetSlot (N : Nat) (p_code : (List UInt8)) (r : Bool) (hh0 : m_L_FnSetSlot N p_code = some r) : FnX Try.prog 6 [] [sL p_code] (RE (bA r) []) := by
  unfold m_L_FnSetSlot at hh0
  refine FnX.mk Try.func6 rfl rfl ?_
  intro s hs
  refine PC.seq ?_
  refine PC.region ?_
  refine PL.op rfl (Rd.asnT rfl) ?_
  refine PL.nil ?_
  refine thA_n ?_
  refine PC.seq ?_
  refine PC.seq ?_
  refine PC.region ?_
  refine PL.op rfl (Rd.moveT rfl) ?_
  refine PL.op rfl (Rd.lenT rfl) ?_
  refine PL.op rfl (Rd.gtr rfl rfl) ?_
  refine PL.nil ?_
  refine thA_n ?_
  rcases cond_some hh0 with ⟨h_1, hh0⟩ | ⟨h_1, hh0⟩
  · refine PC.cond_true rfl h_1 ?_
    refine PC.seq ?_
    refine PC.region ?_
    refine PL.op rfl (Rd.asnT rfl) ?_
    refine PL.nil ?_
    refine thA_n ?_
    refine PC.ret ?_
    refine thA_r ?_
    obtain rfl := some_in hh0
    exact FinA.mk (r := bA true) (bl := []) [] (.inl rfl) rfl (rl := [.tmp 2]) (.tmp .nil) rfl rfl rfl (.t _) trivial ⟨rfl, rfl⟩
  refine PC.cond_false rfl h_1 ?_
  refine PC.skip ?_
  refine thA_n ?_
  refine PC.seq ?_
  obtain ⟨r2, h_3, hh0⟩ := bind_some hh0
  refine PC.region ?_
  refine PL.op rfl (Rd.moveT rfl) ?_
  refine PL.callM false [] (w_S_DrawSetSlot N p_code r2 h_3) rfl Try.call28 rfl ⟨.t _, trivial⟩ rfl trivial (fun h => by cases h) ?_
  refine PL.nm (.tup [.agg [.os 0 0 r2.1.slots.length], iA r2.2.1, sA r2.2.2]) [some ⟨.tr (eL r2.1.slots), 35, 2⟩] rfl rfl ?_
  refine PL.op rfl (Rd.moveU rfl) ?_
  refine PL.op rfl (Rd.extract rfl rfl) ?_
  refine PL.op rfl (Rd.extract rfl rfl) ?_
  refine PL.op rfl (Rd.extract rfl rfl) ?_
  refine PL.ef rfl (Ef.alloc rfl rfl) ?_
  refine PL.nm (.op 1 0) [some ⟨.tr (eL r2.1.slots), 35, 2⟩, some ⟨.mx [.t (.v (.slice none 0 0))], 25, 0⟩] rfl rfl ?_
  refine PL.store rfl rfl rfl rfl rfl rfl rfl ?_
  refine PL.nO [some ⟨.tr (eL r2.1.slots), 35, 2⟩, some ⟨.mx [.os 0 0 r2.1.slots.length], 25, 0⟩] rfl ?_
  refine PL.op rfl (Rd.asnT rfl) ?_
  refine PL.op rfl (Rd.asnT rfl) ?_
  refine PL.nil ?_
  refine thA_n ?_
  refine PC.seq ?_
  obtain ⟨r4, h_5, hh0⟩ := bind_some hh0
  refine PC.region ?_
  refine PL.op rfl (Rd.loadBox rfl rfl rfl) ?_
  refine PL.op rfl (Rd.moveT rfl) ?_
  refine PL.op rfl (Rd.moveT rfl) ?_
  refine PL.callM true [] (w_I_SetSlot N r2.1 r2.2.1 r2.2.2 r4 h_5) rfl Try.call29 rfl ⟨.aggL ⟨.own rfl (by first | decide | exact List.not_mem_nil) rfl rfl, trivial⟩, .t _, .t _, trivial⟩ rfl trivial (fun _ => ⟨⟨⟨trivial, trivial⟩, trivial, trivial⟩, (flat_cons flat_ow flat_nil)⟩) ?_
  refine PL.nm (.tup [.agg [.os 2 0 r4.1.slots.length], bA r4.2]) [some ⟨.tr (eL r2.1.slots), 35, 2⟩, some ⟨.mx [.os 0 0 r2.1.slots.length], 25, 0⟩, some ⟨.tr (eL r4.1.slots), 35, 2⟩] rfl rfl ?_
  refine PL.op rfl (Rd.moveU rfl) ?_
  refine PL.op rfl (Rd.extract rfl rfl) ?_
  refine PL.op rfl (Rd.extract rfl rfl) ?_
  refine PL.ef rfl (Ef.alloc rfl rfl) ?_
  refine PL.nm (.op 3 0) [some ⟨.tr (eL r2.1.slots), 35, 2⟩, some ⟨.mx [.os 0 0 r2.1.slots.length], 25, 0⟩, some ⟨.tr (eL r4.1.slots), 35, 2⟩, some ⟨.mx [.t (.v (.slice none 0 0))], 25, 0⟩] rfl rfl ?_
  refine PL.store rfl rfl rfl rfl rfl rfl rfl ?_
  refine PL.nO [some ⟨.tr (eL r2.1.slots), 35, 2⟩, some ⟨.mx [.os 0 0 r2.1.slots.length], 25, 0⟩, some ⟨.tr (eL r4.1.slots), 35, 2⟩, some ⟨.mx [.os 2 0 r4.1.slots.length], 25, 0⟩] rfl ?_
  refine PL.op rfl (Rd.asnT rfl) ?_
  refine PL.nil ?_
  refine thA_n ?_
  refine PC.seq ?_
  obtain ⟨r6, h_7, hh0⟩ := bind_some hh0
  refine PC.region ?_
  refine PL.op rfl (Rd.loadBox rfl rfl rfl) ?_
  refine PL.op rfl (Rd.moveT rfl) ?_
  refine PL.op rfl (Rd.moveT rfl) ?_
  refine PL.callM true [] (w_S_SetSlot N r2.1 r2.2.1 r2.2.2 r6 h_7) rfl Try.call30 rfl ⟨.aggL ⟨.own rfl (by first | decide | exact List.not_mem_nil) rfl rfl, trivial⟩, .t _, .t _, trivial⟩ rfl trivial (fun _ => ⟨⟨⟨trivial, trivial⟩, trivial, trivial⟩, (flat_cons flat_ow flat_nil)⟩) ?_
  refine PL.nm (.tup [.agg [.os 4 0 r6.1.slots.length], bA r6.2]) [some ⟨.tr (eL r2.1.slots), 35, 2⟩, some ⟨.mx [.os 0 0 r2.1.slots.length], 25, 0⟩, some ⟨.tr (eL r4.1.slots), 35, 2⟩, some ⟨.mx [.os 2 0 r4.1.slots.length], 25, 0⟩, some ⟨.tr (eL r6.1.slots), 35, 2⟩] rfl rfl ?_
  refine PL.op rfl (Rd.moveU rfl) ?_
  refine PL.op rfl (Rd.extract rfl rfl) ?_
  refine PL.op rfl (Rd.extract rfl rfl) ?_
  refine PL.ef rfl (Ef.alloc rfl rfl) ?_
  refine PL.nm (.op 5 0) [some ⟨.tr (eL r2.1.slots), 35, 2⟩, some ⟨.mx [.os 0 0 r2.1.slots.length], 25, 0⟩, some ⟨.tr (eL r4.1.slots), 35, 2⟩, some ⟨.mx [.os 2 0 r4.1.slots.length], 25, 0⟩, some ⟨.tr (eL r6.1.slots), 35, 2⟩, some ⟨.mx [.t (.v (.slice none 0 0))], 25, 0⟩] rfl rfl ?_
  refine PL.store rfl rfl rfl rfl rfl rfl rfl ?_
  refine PL.nO [some ⟨.tr (eL r2.1.slots), 35, 2⟩, some ⟨.mx [.os 0 0 r2.1.slots.length], 25, 0⟩, some ⟨.tr (eL r4.1.slots), 35, 2⟩, some ⟨.mx [.os 2 0 r4.1.slots.length], 25, 0⟩, some ⟨.tr (eL r6.1.slots), 35, 2⟩, some ⟨.mx [.os 4 0 r6.1.slots.length], 25, 0⟩] rfl ?_
  refine PL.op rfl (Rd.asnT rfl) ?_
  refine PL.nil ?_
  refine thA_n ?_
  refine PC.seq ?_
  refine PC.seq ?_
  obtain ⟨r8, h_9, hh0⟩ := bind_some hh0
  rcases cond_some hh0 with ⟨h_10, hh0⟩ | ⟨h_10, hh0⟩
  rotate_left
  · refine PC.region ?_
    refine PL.op rfl (Rd.fieldO rfl rfl) ?_
    refine PL.op rfl (Rd.loadO rfl rfl rfl) ?_
    refine PL.op rfl (Rd.fieldO rfl rfl) ?_
    refine PL.op rfl (Rd.loadO rfl rfl rfl) ?_
    refine PL.callM true [] (w_L_equalSlots N r4.1.slots r6.1.slots r8 h_9) rfl Try.call25 rfl ⟨.own rfl (by first | decide | exact List.not_mem_nil) rfl rfl, .own rfl (by first | decide | exact List.not_mem_nil) rfl rfl, trivial⟩ rfl trivial (fun _ => ⟨trivial, flat_nil⟩) ?_
    refine PL.op rfl (Rd.unnot rfl) ?_
    refine PL.op rfl (Rd.moveT rfl) ?_
    refine PL.guard_off rfl rfl (not_f h_10) ?_
    refine PL.guard_off rfl rfl (not_f h_10) ?_
    refine PL.guard_off rfl rfl (not_f h_10) ?_
    refine PL.op rfl (Rd.pick_t rfl (not_f h_10)) ?_
    refine PL.op rfl (Rd.moveT rfl) ?_
    refine PL.guard_off rfl rfl rfl ?_
    refine PL.guard_off rfl rfl rfl ?_
    refine PL.op rfl (Rd.pick_t rfl rfl) ?_
    refine PL.nil ?_
    refine thA_n ?_
    refine PC.cond_true rfl rfl ?_
    refine PC.seq ?_
    obtain ⟨r32, h_33, hh0⟩ := bind_some hh0
    rcases cond_some hh0 with ⟨h_34, hh0⟩ | ⟨h_34, hh0⟩
    rotate_left
    · refine PC.region ?_
      refine PL.op rfl (Rd.fieldO rfl rfl) ?_
      refine PL.op rfl (Rd.loadO rfl rfl rfl) ?_
      refine PL.op rfl (Rd.fieldO rfl rfl) ?_
      refine PL.op rfl (Rd.loadO rfl rfl rfl) ?_
      refine PL.callM true [] (w_L_equalSlots N r4.1.slots r6.1.slots r32 h_33) rfl Try.call25 rfl ⟨.own rfl (by first | decide | exact List.not_mem_nil) rfl rfl, .own rfl (by first | decide | exact List.not_mem_nil) rfl rfl, trivial⟩ rfl trivial (fun _ => ⟨trivial, flat_nil⟩) ?_
      refine PL.op rfl (Rd.moveT rfl) ?_
      refine PL.guard_off rfl rfl h_34 ?_
      refine PL.guard_off rfl rfl h_34 ?_
      refine PL.guard_off rfl rfl h_34 ?_
      refine PL.op rfl (Rd.pick_f rfl h_34) ?_
      refine PL.op rfl (Rd.asnT rfl) ?_
      refine PL.nil ?_
      refine thA_n ?_
      refine PC.ret ?_
      refine thA_r ?_
      obtain rfl := some_in hh0
      exact FinA.mk (r := bA false) (bl := []) [] (.inl rfl) rfl (rl := [.tmp 2]) (.tmp .nil) rfl rfl rfl (.t _) trivial ⟨rfl, rfl⟩
    refine PC.region ?_
    refine PL.op rfl (Rd.fieldO rfl rfl) ?_
    refine PL.op rfl (Rd.loadO rfl rfl rfl) ?_
    refine PL.op rfl (Rd.fieldO rfl rfl) ?_
    refine PL.op rfl (Rd.loadO rfl rfl rfl) ?_
    refine PL.callM true [] (w_L_equalSlots N r4.1.slots r6.1.slots r32 h_33) rfl Try.call25 rfl ⟨.own rfl (by first | decide | exact List.not_mem_nil) rfl rfl, .own rfl (by first | decide | exact List.not_mem_nil) rfl rfl, trivial⟩ rfl trivial (fun _ => ⟨trivial, flat_nil⟩) ?_
    refine PL.op rfl (Rd.moveT rfl) ?_
    refine PL.guard_on rfl h_34 ?_
    refine PL.op rfl (Rd.moveT rfl) ?_
    refine PL.guard_on rfl h_34 ?_
    refine PL.op rfl (Rd.moveT rfl) ?_
    refine PL.guard_on rfl h_34 ?_
    refine PL.op rfl (Rd.eqlB rfl rfl) ?_
    refine PL.op rfl (Rd.pick_t rfl h_34) ?_
    refine PL.op rfl (Rd.asnT rfl) ?_
    refine PL.nil ?_
    refine thA_n ?_
    refine PC.ret ?_
    refine thA_r ?_
    obtain rfl := some_in hh0
    exact FinA.mk (r := bA (r4.2 == r6.2)) (bl := []) [] (.inl rfl) rfl (rl := [.tmp 2]) (.tmp .nil) rfl rfl rfl (.t _) trivial ⟨rfl, rfl⟩
  rcases cond_some hh0 with ⟨h_11, hh0⟩ | ⟨h_11, hh0⟩
  rotate_left
  · refine PC.region ?_
    refine PL.op rfl (Rd.fieldO rfl rfl) ?_
    refine PL.op rfl (Rd.loadO rfl rfl rfl) ?_
    refine PL.op rfl (Rd.fieldO rfl rfl) ?_
    refine PL.op rfl (Rd.loadO rfl rfl rfl) ?_
    refine PL.callM true [] (w_L_equalSlots N r4.1.slots r6.1.slots r8 h_9) rfl Try.call25 rfl ⟨.own rfl (by first | decide | exact List.not_mem_nil) rfl rfl, .own rfl (by first | decide | exact List.not_mem_nil) rfl rfl, trivial⟩ rfl trivial (fun _ => ⟨trivial, flat_nil⟩) ?_
    refine PL.op rfl (Rd.unnot rfl) ?_
    refine PL.op rfl (Rd.moveT rfl) ?_
    refine PL.guard_on rfl (not_t h_10) ?_
    refine PL.op rfl (Rd.moveT rfl) ?_
    refine PL.guard_on rfl (not_t h_10) ?_
    refine PL.op rfl (Rd.moveT rfl) ?_
    refine PL.guard_on rfl (not_t h_10) ?_
    refine PL.op rfl (Rd.neqB rfl rfl) ?_
    refine PL.op rfl (Rd.pick_f rfl (not_t h_10)) ?_
    refine PL.op rfl (Rd.moveT rfl) ?_
    refine PL.guard_off rfl rfl (not_f h_11) ?_
    refine PL.guard_off rfl rfl (not_f h_11) ?_
    refine PL.op rfl (Rd.pick_t rfl (not_f h_11)) ?_
    refine PL.nil ?_
    refine thA_n ?_
    refine PC.cond_true rfl rfl ?_
    refine PC.seq ?_
    obtain ⟨r29, h_30, hh0⟩ := bind_some hh0
    rcases cond_some hh0 with ⟨h_31, hh0⟩ | ⟨h_31, hh0⟩
    rotate_left
    · refine PC.region ?_
      refine PL.op rfl (Rd.fieldO rfl rfl) ?_
      refine PL.op rfl (Rd.loadO rfl rfl rfl) ?_
      refine PL.op rfl (Rd.fieldO rfl rfl) ?_
      refine PL.op rfl (Rd.loadO rfl rfl rfl) ?_
      refine PL.callM true [] (w_L_equalSlots N r4.1.slots r6.1.slots r29 h_30) rfl Try.call25 rfl ⟨.own rfl (by first | decide | exact List.not_mem_nil) rfl rfl, .own rfl (by first | decide | exact List.not_mem_nil) rfl rfl, trivial⟩ rfl trivial (fun _ => ⟨trivial, flat_nil⟩) ?_
      refine PL.op rfl (Rd.moveT rfl) ?_
      refine PL.guard_off rfl rfl h_31 ?_
      refine PL.guard_off rfl rfl h_31 ?_
      refine PL.guard_off rfl rfl h_31 ?_
      refine PL.op rfl (Rd.pick_f rfl h_31) ?_
      refine PL.op rfl (Rd.asnT rfl) ?_
      refine PL.nil ?_
      refine thA_n ?_
      refine PC.ret ?_
      refine thA_r ?_
      obtain rfl := some_in hh0
      exact FinA.mk (r := bA false) (bl := []) [] (.inl rfl) rfl (rl := [.tmp 2]) (.tmp .nil) rfl rfl rfl (.t _) trivial ⟨rfl, rfl⟩
    refine PC.region ?_
    refine PL.op rfl (Rd.fieldO rfl rfl) ?_
    refine PL.op rfl (Rd.loadO rfl rfl rfl) ?_
    refine PL.op rfl (Rd.fieldO rfl rfl) ?_
    refine PL.op rfl (Rd.loadO rfl rfl rfl) ?_
    refine PL.callM true [] (w_L_equalSlots N r4.1.slots r6.1.slots r29 h_30) rfl Try.call25 rfl ⟨.own rfl (by first | decide | exact List.not_mem_nil) rfl rfl, .own rfl (by first | decide | exact List.not_mem_nil) rfl rfl, trivial⟩ rfl trivial (fun _ => ⟨trivial, flat_nil⟩) ?_
    refine PL.op rfl (Rd.moveT rfl) ?_
    refine PL.guard_on rfl h_31 ?_
    refine PL.op rfl (Rd.moveT rfl) ?_
    refine PL.guard_on rfl h_31 ?_
    refine PL.op rfl (Rd.moveT rfl) ?_
    refine PL.guard_on rfl h_31 ?_
    refine PL.op rfl (Rd.eqlB rfl rfl) ?_
    refine PL.op rfl (Rd.pick_t rfl h_31) ?_
    refine PL.op rfl (Rd.asnT rfl) ?_
    refine PL.nil ?_
    refine thA_n ?_
    refine PC.ret ?_
    refine thA_r ?_
    obtain rfl := some_in hh0
    exact FinA.mk (r := bA (r4.2 == r6.2)) (bl := []) [] (.inl rfl) rfl (rl := [.tmp 2]) (.tmp .nil) rfl rfl rfl (.t _) trivial ⟨rfl, rfl⟩
  refine PC.region ?_
  refine PL.op rfl (Rd.fieldO rfl rfl) ?_
  refine PL.op rfl (Rd.loadO rfl rfl rfl) ?_
  refine PL.op rfl (Rd.fieldO rfl rfl) ?_
  refine PL.op rfl (Rd.loadO rfl rfl rfl) ?_
  refine PL.callM true [] (w_L_equalSlots N r4.1.slots r6.1.slots r8 h_9) rfl Try.call25 rfl ⟨.own rfl (by first | decide | exact List.not_mem_nil) rfl rfl, .own rfl (by first | decide | exact List.not_mem_nil) rfl rfl, trivial⟩ rfl trivial (fun _ => ⟨trivial, flat_nil⟩) ?_
  refine PL.op rfl (Rd.unnot rfl) ?_
  refine PL.op rfl (Rd.moveT rfl) ?_
  refine PL.guard_on rfl (not_t h_10) ?_
  refine PL.op rfl (Rd.moveT rfl) ?_
  refine PL.guard_on rfl (not_t h_10) ?_
  refine PL.op rfl (Rd.moveT rfl) ?_
  refine PL.guard_on rfl (not_t h_10) ?_
  refine PL.op rfl (Rd.neqB rfl rfl) ?_
  refine PL.op rfl (Rd.pick_f rfl (not_t h_10)) ?_
  refine PL.op rfl (Rd.moveT rfl) ?_
  refine PL.guard_on rfl (not_t h_11) ?_
  refine PL.op rfl (Rd.moveT rfl) ?_
  refine PL.guard_on rfl (not_t h_11) ?_
  refine PL.op rfl (Rd.unnot rfl) ?_
  refine PL.op rfl (Rd.pick_f rfl (not_t h_11)) ?_
  refine PL.nil ?_
  refine thA_n ?_
  rcases cond_some hh0 with ⟨h_12, hh0⟩ | ⟨h_12, hh0⟩
  rotate_left
  · refine PC.cond_true rfl (not_f h_12) ?_
    refine PC.seq ?_
    obtain ⟨r26, h_27, hh0⟩ := bind_some hh0
    rcases cond_some hh0 with ⟨h_28, hh0⟩ | ⟨h_28, hh0⟩
    rotate_left
    · refine PC.region ?_
      refine PL.op rfl (Rd.fieldO rfl rfl) ?_
      refine PL.op rfl (Rd.loadO rfl rfl rfl) ?_
      refine PL.op rfl (Rd.fieldO rfl rfl) ?_
      refine PL.op rfl (Rd.loadO rfl rfl rfl) ?_
      refine PL.callM true [] (w_L_equalSlots N r4.1.slots r6.1.slots r26 h_27) rfl Try.call25 rfl ⟨.own rfl (by first | decide | exact List.not_mem_nil) rfl rfl, .own rfl (by first | decide | exact List.not_mem_nil) rfl rfl, trivial⟩ rfl trivial (fun _ => ⟨trivial, flat_nil⟩) ?_
      refine PL.op rfl (Rd.moveT rfl) ?_
      refine PL.guard_off rfl rfl h_28 ?_
      refine PL.guard_off rfl rfl h_28 ?_
      refine PL.guard_off rfl rfl h_28 ?_
      refine PL.op rfl (Rd.pick_f rfl h_28) ?_
      refine PL.op rfl (Rd.asnT rfl) ?_
      refine PL.nil ?_
      refine thA_n ?_
      refine PC.ret ?_
      refine thA_r ?_
      obtain rfl := some_in hh0
      exact FinA.mk (r := bA false) (bl := []) [] (.inl rfl) rfl (rl := [.tmp 2]) (.tmp .nil) rfl rfl rfl (.t _) trivial ⟨rfl, rfl⟩
    refine PC.region ?_
    refine PL.op rfl (Rd.fieldO rfl rfl) ?_
    refine PL.op rfl (Rd.loadO rfl rfl rfl) ?_
    refine PL.op rfl (Rd.fieldO rfl rfl) ?_
    refine PL.op rfl (Rd.loadO rfl rfl rfl) ?_
    refine PL.callM true [] (w_L_equalSlots N r4.1.slots r6.1.slots r26 h_27) rfl Try.call25 rfl ⟨.own rfl (by first | decide | exact List.not_mem_nil) rfl rfl, .own rfl (by first | decide | exact List.not_mem_nil) rfl rfl, trivial⟩ rfl trivial (fun _ => ⟨trivial, flat_nil⟩) ?_
    refine PL.op rfl (Rd.moveT rfl) ?_
    refine PL.guard_on rfl h_28 ?_
    refine PL.op rfl (Rd.moveT rfl) ?_
    refine PL.guard_on rfl h_28 ?_
    refine PL.op rfl (Rd.moveT rfl) ?_
    refine PL.guard_on rfl h_28 ?_
    refine PL.op rfl (Rd.eqlB rfl rfl) ?_
    refine PL.op rfl (Rd.pick_t rfl h_28) ?_
    refine PL.op rfl (Rd.asnT rfl) ?_
    refine PL.nil ?_
    refine thA_n ?_
    refine PC.ret ?_
    refine thA_r ?_
    obtain rfl := some_in hh0
    exact FinA.mk (r := bA (r4.2 == r6.2)) (bl := []) [] (.inl rfl) rfl (rl := [.tmp 2]) (.tmp .nil) rfl rfl rfl (.t _) trivial ⟨rfl, rfl⟩
  refine PC.cond_false rfl (not_t h_12) ?_
  refine PC.skip ?_
  refine thA_n ?_
  refine PC.seq ?_
  obtain ⟨r13, h_14, hh0⟩ := bind_some hh0
  refine PC.region ?_
  refine PL.op rfl (Rd.loadBox rfl rfl rfl) ?_
  refine PL.op rfl (Rd.moveT rfl) ?_
  refine PL.callM true [] (w_I_GetSlot N r2.1 r2.2.1 r13 h_14) rfl Try.call26 rfl ⟨.aggL ⟨.own rfl (by first | decide | exact List.not_mem_nil) rfl rfl, trivial⟩, .t _, trivial⟩ rfl trivial (fun _ => ⟨⟨trivial, trivial, trivial⟩, flat_nil⟩) ?_
  refine PL.op rfl (Rd.moveU rfl) ?_
  refine PL.op rfl (Rd.extract rfl rfl) ?_
  refine PL.op rfl (Rd.extract rfl rfl) ?_
  refine PL.op rfl (Rd.asnT rfl) ?_
  refine PL.op rfl (Rd.asnT rfl) ?_
  refine PL.nil ?_
  refine thA_n ?_
  refine PC.seq ?_
  obtain ⟨r15, h_16, hh0⟩ := bind_some hh0
  refine PC.region ?_
  refine PL.op rfl (Rd.loadBox rfl rfl rfl) ?_
  refine PL.op rfl (Rd.moveT rfl) ?_
  refine PL.callM true [] (w_I_GetSlot N r4.1 r2.2.1 r15 h_16) rfl Try.call26 rfl ⟨.aggL ⟨.own rfl (by first | decide | exact List.not_mem_nil) rfl rfl, trivial⟩, .t _, trivial⟩ rfl trivial (fun _ => ⟨⟨trivial, trivial, trivial⟩, flat_nil⟩) ?_
  refine PL.op rfl (Rd.moveU rfl) ?_
  refine PL.op rfl (Rd.extract rfl rfl) ?_
  refine PL.op rfl (Rd.extract rfl rfl) ?_
  refine PL.op rfl (Rd.asnT rfl) ?_
  refine PL.op rfl (Rd.asnT rfl) ?_
  refine PL.nil ?_
  refine thA_n ?_
  refine PC.seq ?_
  obtain ⟨r17, h_18, hh0⟩ := bind_some hh0
  refine PC.region ?_
  refine PL.op rfl (Rd.loadBox rfl rfl rfl) ?_
  refine PL.op rfl (Rd.moveT rfl) ?_
  refine PL.op rfl (Rd.moveT rfl) ?_
  refine PL.callM true [] (w_I_SetSlot N r4.1 r2.2.1 r13.1 r17 h_18) rfl Try.call29 rfl ⟨.aggL ⟨.own rfl (by first | decide | exact List.not_mem_nil) rfl rfl, trivial⟩, .t _, .t _, trivial⟩ rfl trivial (fun _ => ⟨⟨⟨trivial, trivial⟩, trivial, trivial⟩, (flat_cons flat_ow flat_nil)⟩) ?_
  refine PL.nm (.tup [.agg [.os 6 0 r17.1.slots.length], bA r17.2]) [some ⟨.tr (eL r2.1.slots), 35, 2⟩, some ⟨.mx [.os 0 0 r2.1.slots.length], 25, 0⟩, some ⟨.tr (eL r4.1.slots), 35, 2⟩, some ⟨.mx [.os 2 0 r4.1.slots.length], 25, 0⟩, some ⟨.tr (eL r6.1.slots), 35, 2⟩, some ⟨.mx [.os 4 0 r6.1.slots.length], 25, 0⟩, some ⟨.tr (eL r17.1.slots), 35, 2⟩] rfl rfl ?_
  refine PL.op rfl (Rd.moveU rfl) ?_
  refine PL.op rfl (Rd.extract rfl rfl) ?_
  refine PL.op rfl (Rd.extract rfl rfl) ?_
  refine PL.ef rfl (Ef.alloc rfl rfl) ?_
  refine PL.nm (.op 7 0) [some ⟨.tr (eL r2.1.slots), 35, 2⟩, some ⟨.mx [.os 0 0 r2.1.slots.length], 25, 0⟩, some ⟨.tr (eL r4.1.slots), 35, 2⟩, some ⟨.mx [.os 2 0 r4.1.slots.length], 25, 0⟩, some ⟨.tr (eL r6.1.slots), 35, 2⟩, some ⟨.mx [.os 4 0 r6.1.slots.length], 25, 0⟩, some ⟨.tr (eL r17.1.slots), 35, 2⟩, some ⟨.mx [.t (.v (.slice none 0 0))], 25, 0⟩] rfl rfl ?_
  refine PL.store rfl rfl rfl rfl rfl rfl rfl ?_
  refine PL.nO [some ⟨.tr (eL r2.1.slots), 35, 2⟩, some ⟨.mx [.os 0 0 r2.1.slots.length], 25, 0⟩, some ⟨.tr (eL r4.1.slots), 35, 2⟩, some ⟨.mx [.os 2 0 r4.1.slots.length], 25, 0⟩, some ⟨.tr (eL r6.1.slots), 35, 2⟩, some ⟨.mx [.os 4 0 r6.1.slots.length], 25, 0⟩, some ⟨.tr (eL r17.1.slots), 35, 2⟩, some ⟨.mx [.os 6 0 r17.1.slots.length], 25, 0⟩] rfl ?_
  refine PL.op rfl (Rd.asnT rfl) ?_
  refine PL.nil ?_
  refine thA_n ?_
  refine PC.seq ?_
  rcases cond_some hh0 with ⟨h_19, hh0⟩ | ⟨h_19, hh0⟩
  rotate_left
  · refine PC.region ?_
    refine PL.op rfl (Rd.moveT rfl) ?_
    refine PL.op rfl (Rd.moveT rfl) ?_
    refine PL.guard_off rfl rfl h_19 ?_
    refine PL.op rfl (Rd.pick_f rfl h_19) ?_
    refine PL.op rfl (Rd.moveT rfl) ?_
    refine PL.guard_off rfl rfl rfl ?_
    refine PL.guard_off rfl rfl rfl ?_
    refine PL.guard_off rfl rfl rfl ?_
    refine PL.op rfl (Rd.pick_f rfl rfl) ?_
    refine PL.op rfl (Rd.moveT rfl) ?_
    refine PL.guard_off rfl rfl rfl ?_
    refine PL.op rfl (Rd.pick_f rfl rfl) ?_
    refine PL.op rfl (Rd.moveT rfl) ?_
    refine PL.guard_off rfl rfl rfl ?_
    refine PL.guard_off rfl rfl rfl ?_
    refine PL.guard_off rfl rfl rfl ?_
    refine PL.guard_off rfl rfl rfl ?_
    refine PL.guard_off rfl rfl rfl ?_
    refine PL.op rfl (Rd.pick_f rfl rfl) ?_
    refine PL.op rfl (Rd.moveT rfl) ?_
    refine PL.guard_off rfl rfl rfl ?_
    refine PL.guard_off rfl rfl rfl ?_
    refine PL.guard_off rfl rfl rfl ?_
    refine PL.guard_off rfl rfl rfl ?_
    refine PL.guard_off rfl rfl rfl ?_
    refine PL.guard_off rfl rfl rfl ?_
    refine PL.guard_off rfl rfl rfl ?_
    refine PL.op rfl (Rd.pick_f rfl rfl) ?_
    refine PL.op rfl (Rd.asnT rfl) ?_
    refine PL.nil ?_
    refine thA_n ?_
    refine PC.ret ?_
    obtain rfl := some_in hh0
    exact FinA.mk (r := bA false) (bl := []) [] (.inl rfl) rfl (rl := [.tmp 2]) (.tmp .nil) rfl rfl rfl (.t _) trivial ⟨rfl, rfl⟩
  rcases cond_some hh0 with ⟨h_20, hh0⟩ | ⟨h_20, hh0⟩
  rotate_left
  · refine PC.region ?_
    refine PL.op rfl (Rd.moveT rfl) ?_
    refine PL.op rfl (Rd.moveT rfl) ?_
    refine PL.guard_on rfl h_19 ?_
    refine PL.op rfl (Rd.moveT rfl) ?_
    refine PL.op rfl (Rd.pick_t rfl h_19) ?_
    refine PL.op rfl (Rd.moveT rfl) ?_
    refine PL.guard_off rfl rfl h_20 ?_
    refine PL.guard_off rfl rfl h_20 ?_
    refine PL.guard_off rfl rfl h_20 ?_
    refine PL.op rfl (Rd.pick_f rfl h_20) ?_
    refine PL.op rfl (Rd.moveT rfl) ?_
    refine PL.guard_off rfl rfl rfl ?_
    refine PL.op rfl (Rd.pick_f rfl rfl) ?_
    refine PL.op rfl (Rd.moveT rfl) ?_
    refine PL.guard_off rfl rfl rfl ?_
    refine PL.guard_off rfl rfl rfl ?_
    refine PL.guard_off rfl rfl rfl ?_
    refine PL.guard_off rfl rfl rfl ?_
    refine PL.guard_off rfl rfl rfl ?_
    refine PL.op rfl (Rd.pick_f rfl rfl) ?_
    refine PL.op rfl (Rd.moveT rfl) ?_
    refine PL.guard_off rfl rfl rfl ?_
    refine PL.guard_off rfl rfl rfl ?_
    refine PL.guard_off rfl rfl rfl ?_
    refine PL.guard_off rfl rfl rfl ?_
    refine PL.guard_off rfl rfl rfl ?_
    refine PL.guard_off rfl rfl rfl ?_
    refine PL.guard_off rfl rfl rfl ?_
    refine PL.op rfl (Rd.pick_f rfl rfl) ?_
    refine PL.op rfl (Rd.asnT rfl) ?_
    refine PL.nil ?_
    refine thA_n ?_
    refine PC.ret ?_
    obtain rfl := some_in hh0
    exact FinA.mk (r := bA false) (bl := []) [] (.inl rfl) rfl (rl := [.tmp 2]) (.tmp .nil) rfl rfl rfl (.t _) trivial ⟨rfl, rfl⟩
  rcases cond_some hh0 with ⟨h_21, hh0⟩ | ⟨h_21, hh0⟩
  rotate_left
  · refine PC.region ?_
    refine PL.op rfl (Rd.moveT rfl) ?_
    refine PL.op rfl (Rd.moveT rfl) ?_
    refine PL.guard_on rfl h_19 ?_
    refine PL.op rfl (Rd.moveT rfl) ?_
    refine PL.op rfl (Rd.pick_t rfl h_19) ?_
    refine PL.op rfl (Rd.moveT rfl) ?_
    refine PL.guard_on rfl h_20 ?_
    refine PL.op rfl (Rd.moveT rfl) ?_
    refine PL.guard_on rfl h_20 ?_
    refine PL.op rfl (Rd.moveT rfl) ?_
    refine PL.guard_on rfl h_20 ?_
    refine PL.op rfl (Rd.eqlS rfl rfl) ?_
    refine PL.op rfl (Rd.pick_t rfl h_20) ?_
    refine PL.op rfl (Rd.moveT rfl) ?_
    refine PL.guard_off rfl rfl h_21 ?_
    refine PL.op rfl (Rd.pick_f rfl h_21) ?_
    refine PL.op rfl (Rd.moveT rfl) ?_
    refine PL.guard_off rfl rfl rfl ?_
    refine PL.guard_off rfl rfl rfl ?_
    refine PL.guard_off rfl rfl rfl ?_
    refine PL.guard_off rfl rfl rfl ?_
    refine PL.guard_off rfl rfl rfl ?_
    refine PL.op rfl (Rd.pick_f rfl rfl) ?_
    refine PL.op rfl (Rd.moveT rfl) ?_
    refine PL.guard_off rfl rfl rfl ?_
    refine PL.guard_off rfl rfl rfl ?_
    refine PL.guard_off rfl rfl rfl ?_
    refine PL.guard_off rfl rfl rfl ?_
    refine PL.guard_off rfl rfl rfl ?_
    refine PL.guard_off rfl rfl rfl ?_
    refine PL.guard_off rfl rfl rfl ?_
    refine PL.op rfl (Rd.pick_f rfl rfl) ?_
    refine PL.op rfl (Rd.asnT rfl) ?_
    refine PL.nil ?_
    refine thA_n ?_
    refine PC.ret ?_
    obtain rfl := some_in hh0
    exact FinA.mk (r := bA false) (bl := []) [] (.inl rfl) rfl (rl := [.tmp 2]) (.tmp .nil) rfl rfl rfl (.t _) trivial ⟨rfl, rfl⟩
  rcases cond_some hh0 with ⟨h_22, hh0⟩ | ⟨h_22, hh0⟩
  rotate_left
  · refine PC.region ?_
    refine PL.op rfl (Rd.moveT rfl) ?_
    refine PL.op rfl (Rd.moveT rfl) ?_
    refine PL.guard_on rfl h_19 ?_
    refine PL.op rfl (Rd.moveT rfl) ?_
    refine PL.op rfl (Rd.pick_t rfl h_19) ?_
    refine PL.op rfl (Rd.moveT rfl) ?_
    refine PL.guard_on rfl h_20 ?_
    refine PL.op rfl (Rd.moveT rfl) ?_
    refine PL.guard_on rfl h_20 ?_
    refine PL.op rfl (Rd.moveT rfl) ?_
    refine PL.guard_on rfl h_20 ?_
    refine PL.op rfl (Rd.eqlS rfl rfl) ?_
    refine PL.op rfl (Rd.pick_t rfl h_20) ?_
    refine PL.op rfl (Rd.moveT rfl) ?_
    refine PL.guard_on rfl h_21 ?_
    refine PL.op rfl (Rd.moveT rfl) ?_
    refine PL.op rfl (Rd.pick_t rfl h_21) ?_
    refine PL.op rfl (Rd.moveT rfl) ?_
    refine PL.guard_off rfl rfl h_22 ?_
    refine PL.guard_off rfl rfl h_22 ?_
    refine PL.guard_off rfl rfl h_22 ?_
    refine PL.guard_off rfl rfl h_22 ?_
    refine PL.guard_off rfl rfl h_22 ?_
    refine PL.op rfl (Rd.pick_f rfl h_22) ?_
    refine PL.op rfl (Rd.moveT rfl) ?_
    refine PL.guard_off rfl rfl rfl ?_
    refine PL.guard_off rfl rfl rfl ?_
    refine PL.guard_off rfl rfl rfl ?_
    refine PL.guard_off rfl rfl rfl ?_
    refine PL.guard_off rfl rfl rfl ?_
    refine PL.guard_off rfl rfl rfl ?_
    refine PL.guard_off rfl rfl rfl ?_
    refine PL.op rfl (Rd.pick_f rfl rfl) ?_
    refine PL.op rfl (Rd.asnT rfl) ?_
    refine PL.nil ?_
    refine thA_n ?_
    refine PC.ret ?_
    obtain rfl := some_in hh0
    exact FinA.mk (r := bA false) (bl := []) [] (.inl rfl) rfl (rl := [.tmp 2]) (.tmp .nil) rfl rfl rfl (.t _) trivial ⟨rfl, rfl⟩
  obtain ⟨r23, h_24, hh0⟩ := bind_some hh0
  rcases cond_some hh0 with ⟨h_25, hh0⟩ | ⟨h_25, hh0⟩
  rotate_left
  · refine PC.region ?_
    refine PL.op rfl (Rd.moveT rfl) ?_
    refine PL.op rfl (Rd.moveT rfl) ?_
    refine PL.guard_on rfl h_19 ?_
    refine PL.op rfl (Rd.moveT rfl) ?_
    refine PL.op rfl (Rd.pick_t rfl h_19) ?_
    refine PL.op rfl (Rd.moveT rfl) ?_
    refine PL.guard_on rfl h_20 ?_
    refine PL.op rfl (Rd.moveT rfl) ?_
    refine PL.guard_on rfl h_20 ?_
    refine PL.op rfl (Rd.moveT rfl) ?_
    refine PL.guard_on rfl h_20 ?_
    refine PL.op rfl (Rd.eqlS rfl rfl) ?_
    refine PL.op rfl (Rd.pick_t rfl h_20) ?_
    refine PL.op rfl (Rd.moveT rfl) ?_
    refine PL.guard_on rfl h_21 ?_
    refine PL.op rfl (Rd.moveT rfl) ?_
    refine PL.op rfl (Rd.pick_t rfl h_21) ?_
    refine PL.op rfl (Rd.moveT rfl) ?_
    refine PL.guard_on rfl h_22 ?_
    refine PL.op rfl (Rd.fieldO rfl rfl) ?_
    refine PL.guard_on rfl h_22 ?_
    refine PL.op rfl (Rd.loadO rfl rfl rfl) ?_
    refine PL.guard_on rfl h_22 ?_
    refine PL.op rfl (Rd.fieldO rfl rfl) ?_
    refine PL.guard_on rfl h_22 ?_
    refine PL.op rfl (Rd.loadO rfl rfl rfl) ?_
    refine PL.guard_on rfl h_22 ?_
    refine PL.callM true [] (w_L_equalSlots N r17.1.slots r2.1.slots r23 h_24) rfl Try.call25 rfl ⟨.own rfl (by first | decide | exact List.not_mem_nil) rfl rfl, .own rfl (by first | decide | exact List.not_mem_nil) rfl rfl, trivial⟩ rfl trivial (fun _ => ⟨trivial, flat_nil⟩) ?_
    refine PL.op rfl (Rd.pick_t rfl h_22) ?_
    refine PL.op rfl (Rd.moveT rfl) ?_
    refine PL.guard_off rfl rfl h_25 ?_
    refine PL.guard_off rfl rfl h_25 ?_
    refine PL.guard_off rfl rfl h_25 ?_
    refine PL.guard_off rfl rfl h_25 ?_
    refine PL.guard_off rfl rfl h_25 ?_
    refine PL.guard_off rfl rfl h_25 ?_
    refine PL.guard_off rfl rfl h_25 ?_
    refine PL.op rfl (Rd.pick_f rfl h_25) ?_
    refine PL.op rfl (Rd.asnT rfl) ?_
    refine PL.nil ?_
    refine thA_n ?_
    refine PC.ret ?_
    obtain rfl := some_in hh0
    exact FinA.mk (r := bA false) (bl := []) [] (.inl rfl) rfl (rl := [.tmp 2]) (.tmp .nil) rfl rfl rfl (.t _) trivial ⟨rfl, rfl⟩
  refine PC.region ?_
  refine PL.op rfl (Rd.moveT rfl) ?_
  refine PL.op rfl (Rd.moveT rfl) ?_
  refine PL.guard_on rfl h_19 ?_
  refine PL.op rfl (Rd.moveT rfl) ?_
  refine PL.op rfl (Rd.pick_t rfl h_19) ?_
  refine PL.op rfl (Rd.moveT rfl) ?_
  refine PL.guard_on rfl h_20 ?_
  refine PL.op rfl (Rd.moveT rfl) ?_
  refine PL.guard_on rfl h_20 ?_
  refine PL.op rfl (Rd.moveT rfl) ?_
  refine PL.guard_on rfl h_20 ?_
  refine PL.op rfl (Rd.eqlS rfl rfl) ?_
  refine PL.op rfl (Rd.pick_t rfl h_20) ?_
  refine PL.op rfl (Rd.moveT rfl) ?_
  refine PL.guard_on rfl h_21 ?_
  refine PL.op rfl (Rd.moveT rfl) ?_
  refine PL.op rfl (Rd.pick_t rfl h_21) ?_
  refine PL.op rfl (Rd.moveT rfl) ?_
  refine PL.guard_on rfl h_22 ?_
  refine PL.op rfl (Rd.fieldO rfl rfl) ?_
  refine PL.guard_on rfl h_22 ?_
  refine PL.op rfl (Rd.loadO rfl rfl rfl) ?_
  refine PL.guard_on rfl h_22 ?_
  refine PL.op rfl (Rd.fieldO rfl rfl) ?_
  refine PL.guard_on rfl h_22 ?_
  refine PL.op rfl (Rd.loadO rfl rfl rfl) ?_
  refine PL.guard_on rfl h_22 ?_
  refine PL.callM true [] (w_L_equalSlots N r17.1.slots r2.1.slots r23 h_24) rfl Try.call25 rfl ⟨.own rfl (by first | decide | exact List.not_mem_nil) rfl rfl, .own rfl (by first | decide | exact List.not_mem_nil) rfl rfl, trivial⟩ rfl trivial (fun _ => ⟨trivial, flat_nil⟩) ?_
  refine PL.op rfl (Rd.pick_t rfl h_22) ?_
  refine PL.op rfl (Rd.moveT rfl) ?_
  refine PL.guard_on rfl h_25 ?_
  refine PL.op rfl (Rd.fieldO rfl rfl) ?_
  refine PL.guard_on rfl h_25 ?_
  refine PL.op rfl (Rd.loadO rfl rfl rfl) ?_
  refine PL.guard_on rfl h_25 ?_
  refine PL.op rfl (Rd.lenO rfl rfl) ?_
  refine PL.guard_on rfl h_25 ?_
  refine PL.op rfl (Rd.fieldO rfl rfl) ?_
  refine PL.guard_on rfl h_25 ?_
  refine PL.op rfl (Rd.loadO rfl rfl rfl) ?_
  refine PL.guard_on rfl h_25 ?_
  refine PL.op rfl (Rd.lenO rfl rfl) ?_
  refine PL.guard_on rfl h_25 ?_
  refine PL.op rfl (Rd.eql rfl rfl) ?_
  refine PL.op rfl (Rd.pick_t rfl h_25) ?_
  refine PL.op rfl (Rd.asnT rfl) ?_
  refine PL.nil ?_
  refine thA_n ?_
  refine PC.ret ?_
  obtain rfl := some_in hh0
  exact FinA.mk (r := bA (decide ((r4.1.slots.length : Int) = (r2.1.slots.length : Int)))) (bl := []) [] (.inl rfl) rfl (rl := [.tmp 2]) (.tmp .nil) rfl rfl rfl (.t _) trivial ⟨rfl, rfl⟩

end V
end Go.Proofs.Ytoljdhdfijnjiaa
