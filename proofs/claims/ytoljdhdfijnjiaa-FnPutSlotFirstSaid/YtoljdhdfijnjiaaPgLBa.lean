/- Pages: a law's function. No condition. -/
import Derived.Test.YtoljdhdfijnjiaaPgEa
namespace Go.Proofs.Ytoljdhdfijnjiaa
namespace V
open Enc (enc)
set_option linter.unusedVariables false
set_option linter.unusedSimpArgs false
set_option maxHeartbeats 4000000
set_option maxRecDepth 100000
open Go.RowKit
attribute [local irreducible] thA inA FinA eL

def m_L_FnPutSlotFirst_k1 (N : Nat) (r2 : (I_Page × ByteArray)) (r4 : (I_Page × Int × Bool)) : Option (Bool) :=
  (chk (r4.2.1 + (1 : Int))).bind fun n26 =>
  some (decide ((r4.1.slots.length : Int) = (max (r2.1.slots.length : Int) n26)))
def m_L_FnPutSlotFirst_b1 (N : Nat) (r2 : (I_Page × ByteArray)) (r4 : (I_Page × Int × Bool)) (i14 : Int) : Option (Int ⊕ (Unit ⊕ Bool)) :=
  cond (decide (i14 < r4.2.1))
    ((ixI r2.1.slots i14).bind fun x29 =>
    cond x29.live
      ((chk (i14 + (1 : Int))).bind fun n32 =>
      some (.inl n32))
      (some (.inr (.inr false))))
    (some (.inr (.inl ())))
def m_L_FnPutSlotFirst (N : Nat) (p_code : (List UInt8)) : Option (Bool) :=
  cond (decide ((1048576 : Int) < (p_code.length : Int)))
    (some true)
    ((m_S_DrawPutSlot N p_code).bind fun r2 =>
    (m_I_PutSlot N r2.1 r2.2).bind fun r4 =>
    (m_S_PutSlot N r2.1 r2.2).bind fun r6 =>
    (m_L_equalSlots N r4.1.slots r6.1.slots).bind fun r8 =>
    cond r8
      (cond (decide (r4.2.1 = r6.2.1))
        (cond (r4.2.2 == r6.2.2)
          (cond r4.2.2
            ((loopM (β := Unit ⊕ Bool) (fun s : Int => m_L_FnPutSlotFirst_b1 N r2 r4 s) N (0 : Int)).bind fun o => match o with
            | .inl e =>
              m_L_FnPutSlotFirst_k1 N r2 r4 
            | .inr v =>
              some v)
            ((m_L_equalSlots N r4.1.slots r6.1.slots).bind fun r34 =>
            cond r34
              (some (r4.2.2 == r6.2.2))
              (some false)))
          ((m_L_equalSlots N r4.1.slots r6.1.slots).bind fun r37 =>
          cond r37
            (some (r4.2.2 == r6.2.2))
            (some false)))
        ((m_L_equalSlots N r4.1.slots r6.1.slots).bind fun r40 =>
        cond r40
          (some false)
          (some false)))
      ((m_L_equalSlots N r4.1.slots r6.1.slots).bind fun r43 =>
      cond r43
        (cond (decide (r4.2.1 = r6.2.1))
          (some (r4.2.2 == r6.2.2))
          (some false))
        (some false)))
theorem w_L_FnPutSlotFirst (N : Nat) (p_code : (List UInt8)) (r : Bool) (hh0 : m_L_FnPutSlotFirst N p_code = some r) : FnX Try.prog 4 [] [sL p_code] (RE (bA r) []) := by
  unfold m_L_FnPutSlotFirst at hh0
  refine FnX.mk Try.func4 rfl rfl ?_
  intro s hs
  refine PC.seq ?_
  refine PC.region ?_
  refine PL.op rfl (Rd.asnT rfl) ?_
  refine PL.nil ?_
  refine thA_n ?_
  refine PC.seq ?_
  refine PC.seq ?_
  refine PC.region ?_
  refine PL.op rfl (Rd.moveT rfl) ?_
  refine PL.op rfl (Rd.lenT rfl) ?_
  refine PL.op rfl (Rd.gtr rfl rfl) ?_
  refine PL.nil ?_
  refine thA_n ?_
  rcases cond_some hh0 with ⟨h_1, hh0⟩ | ⟨h_1, hh0⟩
  · refine PC.cond_true rfl h_1 ?_
    refine PC.seq ?_
    refine PC.region ?_
    refine PL.op rfl (Rd.asnT rfl) ?_
    refine PL.nil ?_
    refine thA_n ?_
    refine PC.ret ?_
    refine thA_r ?_
    obtain rfl := some_in hh0
    exact FinA.mk (r := bA true) (bl := []) [] (.inl rfl) rfl (rl := [.tmp 2]) (.tmp .nil) rfl rfl rfl (.t _) trivial ⟨rfl, rfl⟩
  refine PC.cond_false rfl h_1 ?_
  refine PC.skip ?_
  refine thA_n ?_
  refine PC.seq ?_
  obtain ⟨r2, h_3, hh0⟩ := bind_some hh0
  refine PC.region ?_
  refine PL.op rfl (Rd.moveT rfl) ?_
  refine PL.callM false [] (w_S_DrawPutSlot N p_code r2 h_3) rfl Try.call23 rfl ⟨.t _, trivial⟩ rfl trivial (fun h => by cases h) ?_
  refine PL.nm (.tup [.agg [.os 0 0 r2.1.slots.length], sA r2.2]) [some ⟨.tr (eL r2.1.slots), 35, 2⟩] rfl rfl ?_
  refine PL.op rfl (Rd.moveU rfl) ?_
  refine PL.op rfl (Rd.extract rfl rfl) ?_
  refine PL.op rfl (Rd.extract rfl rfl) ?_
  refine PL.ef rfl (Ef.alloc rfl rfl) ?_
  refine PL.nm (.op 1 0) [some ⟨.tr (eL r2.1.slots), 35, 2⟩, some ⟨.mx [.t (.v (.slice none 0 0))], 25, 0⟩] rfl rfl ?_
  refine PL.store rfl rfl rfl rfl rfl rfl rfl ?_
  refine PL.nO [some ⟨.tr (eL r2.1.slots), 35, 2⟩, some ⟨.mx [.os 0 0 r2.1.slots.length], 25, 0⟩] rfl ?_
  refine PL.op rfl (Rd.asnT rfl) ?_
  refine PL.nil ?_
  refine thA_n ?_
  refine PC.seq ?_
  obtain ⟨r4, h_5, hh0⟩ := bind_some hh0
  refine PC.region ?_
  refine PL.op rfl (Rd.loadBox rfl rfl rfl) ?_
  refine PL.op rfl (Rd.moveT rfl) ?_
  refine PL.callM true [] (w_I_PutSlot N r2.1 r2.2 r4 h_5) rfl Try.call22 rfl ⟨.aggL ⟨.own rfl (by first | decide | exact List.not_mem_nil) rfl rfl, trivial⟩, .t _, trivial⟩ rfl trivial (fun _ => ⟨⟨⟨trivial, trivial⟩, trivial, trivial, trivial⟩, (flat_cons flat_ow flat_nil)⟩) ?_
  refine PL.nm (.tup [.agg [.os 2 0 r4.1.slots.length], iA r4.2.1, bA r4.2.2]) [some ⟨.tr (eL r2.1.slots), 35, 2⟩, some ⟨.mx [.os 0 0 r2.1.slots.length], 25, 0⟩, some ⟨.tr (eL r4.1.slots), 35, 2⟩] rfl rfl ?_
  refine PL.op rfl (Rd.moveU rfl) ?_
  refine PL.op rfl (Rd.extract rfl rfl) ?_
  refine PL.op rfl (Rd.extract rfl rfl) ?_
  refine PL.op rfl (Rd.extract rfl rfl) ?_
  refine PL.ef rfl (Ef.alloc rfl rfl) ?_
  refine PL.nm (.op 3 0) [some ⟨.tr (eL r2.1.slots), 35, 2⟩, some ⟨.mx [.os 0 0 r2.1.slots.length], 25, 0⟩, some ⟨.tr (eL r4.1.slots), 35, 2⟩, some ⟨.mx [.t (.v (.slice none 0 0))], 25, 0⟩] rfl rfl ?_
  refine PL.store rfl rfl rfl rfl rfl rfl rfl ?_
  refine PL.nO [some ⟨.tr (eL r2.1.slots), 35, 2⟩, some ⟨.mx [.os 0 0 r2.1.slots.length], 25, 0⟩, some ⟨.tr (eL r4.1.slots), 35, 2⟩, some ⟨.mx [.os 2 0 r4.1.slots.length], 25, 0⟩] rfl ?_
  refine PL.op rfl (Rd.asnT rfl) ?_
  refine PL.op rfl (Rd.asnT rfl) ?_
  refine PL.nil ?_
  refine thA_n ?_
  refine PC.seq ?_
  obtain ⟨r6, h_7, hh0⟩ := bind_some hh0
  refine PC.region ?_
  refine PL.op rfl (Rd.loadBox rfl rfl rfl) ?_
  refine PL.op rfl (Rd.moveT rfl) ?_
  refine PL.callM true [] (w_S_PutSlot N r2.1 r2.2 r6 h_7) rfl Try.call24 rfl ⟨.aggL ⟨.own rfl (by first | decide | exact List.not_mem_nil) rfl rfl, trivial⟩, .t _, trivial⟩ rfl trivial (fun _ => ⟨⟨⟨trivial, trivial⟩, trivial, trivial, trivial⟩, (flat_cons flat_ow flat_nil)⟩) ?_
  refine PL.nm (.tup [.agg [.os 4 0 r6.1.slots.length], iA r6.2.1, bA r6.2.2]) [some ⟨.tr (eL r2.1.slots), 35, 2⟩, some ⟨.mx [.os 0 0 r2.1.slots.length], 25, 0⟩, some ⟨.tr (eL r4.1.slots), 35, 2⟩, some ⟨.mx [.os 2 0 r4.1.slots.length], 25, 0⟩, some ⟨.tr (eL r6.1.slots), 35, 2⟩] rfl rfl ?_
  refine PL.op rfl (Rd.moveU rfl) ?_
  refine PL.op rfl (Rd.extract rfl rfl) ?_
  refine PL.op rfl (Rd.extract rfl rfl) ?_
  refine PL.op rfl (Rd.extract rfl rfl) ?_
  refine PL.ef rfl (Ef.alloc rfl rfl) ?_
  refine PL.nm (.op 5 0) [some ⟨.tr (eL r2.1.slots), 35, 2⟩, some ⟨.mx [.os 0 0 r2.1.slots.length], 25, 0⟩, some ⟨.tr (eL r4.1.slots), 35, 2⟩, some ⟨.mx [.os 2 0 r4.1.slots.length], 25, 0⟩, some ⟨.tr (eL r6.1.slots), 35, 2⟩, some ⟨.mx [.t (.v (.slice none 0 0))], 25, 0⟩] rfl rfl ?_
  refine PL.store rfl rfl rfl rfl rfl rfl rfl ?_
  refine PL.nO [some ⟨.tr (eL r2.1.slots), 35, 2⟩, some ⟨.mx [.os 0 0 r2.1.slots.length], 25, 0⟩, some ⟨.tr (eL r4.1.slots), 35, 2⟩, some ⟨.mx [.os 2 0 r4.1.slots.length], 25, 0⟩, some ⟨.tr (eL r6.1.slots), 35, 2⟩, some ⟨.mx [.os 4 0 r6.1.slots.length], 25, 0⟩] rfl ?_
  refine PL.op rfl (Rd.asnT rfl) ?_
  refine PL.op rfl (Rd.asnT rfl) ?_
  refine PL.nil ?_
  refine thA_n ?_
  refine PC.seq ?_
  refine PC.seq ?_
  obtain ⟨r8, h_9, hh0⟩ := bind_some hh0
  rcases cond_some hh0 with ⟨h_10, hh0⟩ | ⟨h_10, hh0⟩
  rotate_left
  · refine PC.region ?_
    refine PL.op rfl (Rd.fieldO rfl rfl) ?_
    refine PL.op rfl (Rd.loadO rfl rfl rfl) ?_
    refine PL.op rfl (Rd.fieldO rfl rfl) ?_
    refine PL.op rfl (Rd.loadO rfl rfl rfl) ?_
    refine PL.callM true [] (w_L_equalSlots N r4.1.slots r6.1.slots r8 h_9) rfl Try.call25 rfl ⟨.own rfl (by first | decide | exact List.not_mem_nil) rfl rfl, .own rfl (by first | decide | exact List.not_mem_nil) rfl rfl, trivial⟩ rfl trivial (fun _ => ⟨trivial, flat_nil⟩) ?_
    refine PL.op rfl (Rd.unnot rfl) ?_
    refine PL.op rfl (Rd.moveT rfl) ?_
    refine PL.guard_off rfl rfl (not_f h_10) ?_
    refine PL.guard_off rfl rfl (not_f h_10) ?_
    refine PL.guard_off rfl rfl (not_f h_10) ?_
    refine PL.op rfl (Rd.pick_t rfl (not_f h_10)) ?_
    refine PL.op rfl (Rd.moveT rfl) ?_
    refine PL.guard_off rfl rfl rfl ?_
    refine PL.guard_off rfl rfl rfl ?_
    refine PL.guard_off rfl rfl rfl ?_
    refine PL.op rfl (Rd.pick_t rfl rfl) ?_
    refine PL.op rfl (Rd.moveT rfl) ?_
    refine PL.guard_off rfl rfl rfl ?_
    refine PL.guard_off rfl rfl rfl ?_
    refine PL.op rfl (Rd.pick_t rfl rfl) ?_
    refine PL.nil ?_
    refine thA_n ?_
    refine PC.cond_true rfl rfl ?_
    refine PC.seq ?_
    obtain ⟨r43, h_44, hh0⟩ := bind_some hh0
    rcases cond_some hh0 with ⟨h_45, hh0⟩ | ⟨h_45, hh0⟩
    rotate_left
    · refine PC.region ?_
      refine PL.op rfl (Rd.fieldO rfl rfl) ?_
      refine PL.op rfl (Rd.loadO rfl rfl rfl) ?_
      refine PL.op rfl (Rd.fieldO rfl rfl) ?_
      refine PL.op rfl (Rd.loadO rfl rfl rfl) ?_
      refine PL.callM true [] (w_L_equalSlots N r4.1.slots r6.1.slots r43 h_44) rfl Try.call25 rfl ⟨.own rfl (by first | decide | exact List.not_mem_nil) rfl rfl, .own rfl (by first | decide | exact List.not_mem_nil) rfl rfl, trivial⟩ rfl trivial (fun _ => ⟨trivial, flat_nil⟩) ?_
      refine PL.op rfl (Rd.moveT rfl) ?_
      refine PL.guard_off rfl rfl h_45 ?_
      refine PL.guard_off rfl rfl h_45 ?_
      refine PL.guard_off rfl rfl h_45 ?_
      refine PL.op rfl (Rd.pick_f rfl h_45) ?_
      refine PL.op rfl (Rd.moveT rfl) ?_
      refine PL.guard_off rfl rfl rfl ?_
      refine PL.guard_off rfl rfl rfl ?_
      refine PL.guard_off rfl rfl rfl ?_
      refine PL.op rfl (Rd.pick_f rfl rfl) ?_
      refine PL.op rfl (Rd.asnT rfl) ?_
      refine PL.nil ?_
      refine thA_n ?_
      refine PC.ret ?_
      refine thA_r ?_
      obtain rfl := some_in hh0
      exact FinA.mk (r := bA false) (bl := []) [] (.inl rfl) rfl (rl := [.tmp 2]) (.tmp .nil) rfl rfl rfl (.t _) trivial ⟨rfl, rfl⟩
    rcases cond_some hh0 with ⟨h_46, hh0⟩ | ⟨h_46, hh0⟩
    rotate_left
    · refine PC.region ?_
      refine PL.op rfl (Rd.fieldO rfl rfl) ?_
      refine PL.op rfl (Rd.loadO rfl rfl rfl) ?_
      refine PL.op rfl (Rd.fieldO rfl rfl) ?_
      refine PL.op rfl (Rd.loadO rfl rfl rfl) ?_
      refine PL.callM true [] (w_L_equalSlots N r4.1.slots r6.1.slots r43 h_44) rfl Try.call25 rfl ⟨.own rfl (by first | decide | exact List.not_mem_nil) rfl rfl, .own rfl (by first | decide | exact List.not_mem_nil) rfl rfl, trivial⟩ rfl trivial (fun _ => ⟨trivial, flat_nil⟩) ?_
      refine PL.op rfl (Rd.moveT rfl) ?_
      refine PL.guard_on rfl h_45 ?_
      refine PL.op rfl (Rd.moveT rfl) ?_
      refine PL.guard_on rfl h_45 ?_
      refine PL.op rfl (Rd.moveT rfl) ?_
      refine PL.guard_on rfl h_45 ?_
      refine PL.op rfl (Rd.eql rfl rfl) ?_
      refine PL.op rfl (Rd.pick_t rfl h_45) ?_
      refine PL.op rfl (Rd.moveT rfl) ?_
      refine PL.guard_off rfl rfl h_46 ?_
      refine PL.guard_off rfl rfl h_46 ?_
      refine PL.guard_off rfl rfl h_46 ?_
      refine PL.op rfl (Rd.pick_f rfl h_46) ?_
      refine PL.op rfl (Rd.asnT rfl) ?_
      refine PL.nil ?_
      refine thA_n ?_
      refine PC.ret ?_
      refine thA_r ?_
      obtain rfl := some_in hh0
      exact FinA.mk (r := bA false) (bl := []) [] (.inl rfl) rfl (rl := [.tmp 2]) (.tmp .nil) rfl rfl rfl (.t _) trivial ⟨rfl, rfl⟩
    refine PC.region ?_
    refine PL.op rfl (Rd.fieldO rfl rfl) ?_
    refine PL.op rfl (Rd.loadO rfl rfl rfl) ?_
    refine PL.op rfl (Rd.fieldO rfl rfl) ?_
    refine PL.op rfl (Rd.loadO rfl rfl rfl) ?_
    refine PL.callM true [] (w_L_equalSlots N r4.1.slots r6.1.slots r43 h_44) rfl Try.call25 rfl ⟨.own rfl (by first | decide | exact List.not_mem_nil) rfl rfl, .own rfl (by first | decide | exact List.not_mem_nil) rfl rfl, trivial⟩ rfl trivial (fun _ => ⟨trivial, flat_nil⟩) ?_
    refine PL.op rfl (Rd.moveT rfl) ?_
    refine PL.guard_on rfl h_45 ?_
    refine PL.op rfl (Rd.moveT rfl) ?_
    refine PL.guard_on rfl h_45 ?_
    refine PL.op rfl (Rd.moveT rfl) ?_
    refine PL.guard_on rfl h_45 ?_
    refine PL.op rfl (Rd.eql rfl rfl) ?_
    refine PL.op rfl (Rd.pick_t rfl h_45) ?_
    refine PL.op rfl (Rd.moveT rfl) ?_
    refine PL.guard_on rfl h_46 ?_
    refine PL.op rfl (Rd.moveT rfl) ?_
    refine PL.guard_on rfl h_46 ?_
    refine PL.op rfl (Rd.moveT rfl) ?_
    refine PL.guard_on rfl h_46 ?_
    refine PL.op rfl (Rd.eqlB rfl rfl) ?_
    refine PL.op rfl (Rd.pick_t rfl h_46) ?_
    refine PL.op rfl (Rd.asnT rfl) ?_
    refine PL.nil ?_
    refine thA_n ?_
    refine PC.ret ?_
    refine thA_r ?_
    obtain rfl := some_in hh0
    exact FinA.mk (r := bA (r4.2.2 == r6.2.2)) (bl := []) [] (.inl rfl) rfl (rl := [.tmp 2]) (.tmp .nil) rfl rfl rfl (.t _) trivial ⟨rfl, rfl⟩
  rcases cond_some hh0 with ⟨h_11, hh0⟩ | ⟨h_11, hh0⟩
  rotate_left
  · refine PC.region ?_
    refine PL.op rfl (Rd.fieldO rfl rfl) ?_
    refine PL.op rfl (Rd.loadO rfl rfl rfl) ?_
    refine PL.op rfl (Rd.fieldO rfl rfl) ?_
    refine PL.op rfl (Rd.loadO rfl rfl rfl) ?_
    refine PL.callM true [] (w_L_equalSlots N r4.1.slots r6.1.slots r8 h_9) rfl Try.call25 rfl ⟨.own rfl (by first | decide | exact List.not_mem_nil) rfl rfl, .own rfl (by first | decide | exact List.not_mem_nil) rfl rfl, trivial⟩ rfl trivial (fun _ => ⟨trivial, flat_nil⟩) ?_
    refine PL.op rfl (Rd.unnot rfl) ?_
    refine PL.op rfl (Rd.moveT rfl) ?_
    refine PL.guard_on rfl (not_t h_10) ?_
    refine PL.op rfl (Rd.moveT rfl) ?_
    refine PL.guard_on rfl (not_t h_10) ?_
    refine PL.op rfl (Rd.moveT rfl) ?_
    refine PL.guard_on rfl (not_t h_10) ?_
    refine PL.op rfl (Rd.neq rfl rfl) ?_
    refine PL.op rfl (Rd.pick_f rfl (not_t h_10)) ?_
    refine PL.op rfl (Rd.moveT rfl) ?_
    refine PL.guard_off rfl rfl (not_f h_11) ?_
    refine PL.guard_off rfl rfl (not_f h_11) ?_
    refine PL.guard_off rfl rfl (not_f h_11) ?_
    refine PL.op rfl (Rd.pick_t rfl (not_f h_11)) ?_
    refine PL.op rfl (Rd.moveT rfl) ?_
    refine PL.guard_off rfl rfl rfl ?_
    refine PL.guard_off rfl rfl rfl ?_
    refine PL.op rfl (Rd.pick_t rfl rfl) ?_
    refine PL.nil ?_
    refine thA_n ?_
    refine PC.cond_true rfl rfl ?_
    refine PC.seq ?_
    obtain ⟨r40, h_41, hh0⟩ := bind_some hh0
    rcases cond_some hh0 with ⟨h_42, hh0⟩ | ⟨h_42, hh0⟩
    rotate_left
    · refine PC.region ?_
      refine PL.op rfl (Rd.fieldO rfl rfl) ?_
      refine PL.op rfl (Rd.loadO rfl rfl rfl) ?_
      refine PL.op rfl (Rd.fieldO rfl rfl) ?_
      refine PL.op rfl (Rd.loadO rfl rfl rfl) ?_
      refine PL.callM true [] (w_L_equalSlots N r4.1.slots r6.1.slots r40 h_41) rfl Try.call25 rfl ⟨.own rfl (by first | decide | exact List.not_mem_nil) rfl rfl, .own rfl (by first | decide | exact List.not_mem_nil) rfl rfl, trivial⟩ rfl trivial (fun _ => ⟨trivial, flat_nil⟩) ?_
      refine PL.op rfl (Rd.moveT rfl) ?_
      refine PL.guard_off rfl rfl h_42 ?_
      refine PL.guard_off rfl rfl h_42 ?_
      refine PL.guard_off rfl rfl h_42 ?_
      refine PL.op rfl (Rd.pick_f rfl h_42) ?_
      refine PL.op rfl (Rd.moveT rfl) ?_
      refine PL.guard_off rfl rfl rfl ?_
      refine PL.guard_off rfl rfl rfl ?_
      refine PL.guard_off rfl rfl rfl ?_
      refine PL.op rfl (Rd.pick_f rfl rfl) ?_
      refine PL.op rfl (Rd.asnT rfl) ?_
      refine PL.nil ?_
      refine thA_n ?_
      refine PC.ret ?_
      refine thA_r ?_
      obtain rfl := some_in hh0
      exact FinA.mk (r := bA false) (bl := []) [] (.inl rfl) rfl (rl := [.tmp 2]) (.tmp .nil) rfl rfl rfl (.t _) trivial ⟨rfl, rfl⟩
    refine PC.region ?_
    refine PL.op rfl (Rd.fieldO rfl rfl) ?_
    refine PL.op rfl (Rd.loadO rfl rfl rfl) ?_
    refine PL.op rfl (Rd.fieldO rfl rfl) ?_
    refine PL.op rfl (Rd.loadO rfl rfl rfl) ?_
    refine PL.callM true [] (w_L_equalSlots N r4.1.slots r6.1.slots r40 h_41) rfl Try.call25 rfl ⟨.own rfl (by first | decide | exact List.not_mem_nil) rfl rfl, .own rfl (by first | decide | exact List.not_mem_nil) rfl rfl, trivial⟩ rfl trivial (fun _ => ⟨trivial, flat_nil⟩) ?_
    refine PL.op rfl (Rd.moveT rfl) ?_
    refine PL.guard_on rfl h_42 ?_
    refine PL.op rfl (Rd.moveT rfl) ?_
    refine PL.guard_on rfl h_42 ?_
    refine PL.op rfl (Rd.moveT rfl) ?_
    refine PL.guard_on rfl h_42 ?_
    refine PL.op rfl (Rd.eql rfl rfl) ?_
    refine PL.op rfl (Rd.pick_t rfl h_42) ?_
    refine PL.op rfl (Rd.moveT rfl) ?_
    refine PL.guard_off rfl rfl h_11 ?_
    refine PL.guard_off rfl rfl h_11 ?_
    refine PL.guard_off rfl rfl h_11 ?_
    refine PL.op rfl (Rd.pick_f rfl h_11) ?_
    refine PL.op rfl (Rd.asnT rfl) ?_
    refine PL.nil ?_
    refine thA_n ?_
    refine PC.ret ?_
    refine thA_r ?_
    obtain rfl := some_in hh0
    exact FinA.mk (r := bA false) (bl := []) [] (.inl rfl) rfl (rl := [.tmp 2]) (.tmp .nil) rfl rfl rfl (.t _) trivial ⟨rfl, rfl⟩
  rcases cond_some hh0 with ⟨h_12, hh0⟩ | ⟨h_12, hh0⟩
  rotate_left
  · refine PC.region ?_
    refine PL.op rfl (Rd.fieldO rfl rfl) ?_
    refine PL.op rfl (Rd.loadO rfl rfl rfl) ?_
    refine PL.op rfl (Rd.fieldO rfl rfl) ?_
    refine PL.op rfl (Rd.loadO rfl rfl rfl) ?_
    refine PL.callM true [] (w_L_equalSlots N r4.1.slots r6.1.slots r8 h_9) rfl Try.call25 rfl ⟨.own rfl (by first | decide | exact List.not_mem_nil) rfl rfl, .own rfl (by first | decide | exact List.not_mem_nil) rfl rfl, trivial⟩ rfl trivial (fun _ => ⟨trivial, flat_nil⟩) ?_
    refine PL.op rfl (Rd.unnot rfl) ?_
    refine PL.op rfl (Rd.moveT rfl) ?_
    refine PL.guard_on rfl (not_t h_10) ?_
    refine PL.op rfl (Rd.moveT rfl) ?_
    refine PL.guard_on rfl (not_t h_10) ?_
    refine PL.op rfl (Rd.moveT rfl) ?_
    refine PL.guard_on rfl (not_t h_10) ?_
    refine PL.op rfl (Rd.neq rfl rfl) ?_
    refine PL.op rfl (Rd.pick_f rfl (not_t h_10)) ?_
    refine PL.op rfl (Rd.moveT rfl) ?_
    refine PL.guard_on rfl (not_t h_11) ?_
    refine PL.op rfl (Rd.moveT rfl) ?_
    refine PL.guard_on rfl (not_t h_11) ?_
    refine PL.op rfl (Rd.moveT rfl) ?_
    refine PL.guard_on rfl (not_t h_11) ?_
    refine PL.op rfl (Rd.neqB rfl rfl) ?_
    refine PL.op rfl (Rd.pick_f rfl (not_t h_11)) ?_
    refine PL.op rfl (Rd.moveT rfl) ?_
    refine PL.guard_off rfl rfl (not_f h_12) ?_
    refine PL.guard_off rfl rfl (not_f h_12) ?_
    refine PL.op rfl (Rd.pick_t rfl (not_f h_12)) ?_
    refine PL.nil ?_
    refine thA_n ?_
    refine PC.cond_true rfl rfl ?_
    refine PC.seq ?_
    obtain ⟨r37, h_38, hh0⟩ := bind_some hh0
    rcases cond_some hh0 with ⟨h_39, hh0⟩ | ⟨h_39, hh0⟩
    rotate_left
    · refine PC.region ?_
      refine PL.op rfl (Rd.fieldO rfl rfl) ?_
      refine PL.op rfl (Rd.loadO rfl rfl rfl) ?_
      refine PL.op rfl (Rd.fieldO rfl rfl) ?_
      refine PL.op rfl (Rd.loadO rfl rfl rfl) ?_
      refine PL.callM true [] (w_L_equalSlots N r4.1.slots r6.1.slots r37 h_38) rfl Try.call25 rfl ⟨.own rfl (by first | decide | exact List.not_mem_nil) rfl rfl, .own rfl (by first | decide | exact List.not_mem_nil) rfl rfl, trivial⟩ rfl trivial (fun _ => ⟨trivial, flat_nil⟩) ?_
      refine PL.op rfl (Rd.moveT rfl) ?_
      refine PL.guard_off rfl rfl h_39 ?_
      refine PL.guard_off rfl rfl h_39 ?_
      refine PL.guard_off rfl rfl h_39 ?_
      refine PL.op rfl (Rd.pick_f rfl h_39) ?_
      refine PL.op rfl (Rd.moveT rfl) ?_
      refine PL.guard_off rfl rfl rfl ?_
      refine PL.guard_off rfl rfl rfl ?_
      refine PL.guard_off rfl rfl rfl ?_
      refine PL.op rfl (Rd.pick_f rfl rfl) ?_
      refine PL.op rfl (Rd.asnT rfl) ?_
      refine PL.nil ?_
      refine thA_n ?_
      refine PC.ret ?_
      refine thA_r ?_
      obtain rfl := some_in hh0
      exact FinA.mk (r := bA false) (bl := []) [] (.inl rfl) rfl (rl := [.tmp 2]) (.tmp .nil) rfl rfl rfl (.t _) trivial ⟨rfl, rfl⟩
    refine PC.region ?_
    refine PL.op rfl (Rd.fieldO rfl rfl) ?_
    refine PL.op rfl (Rd.loadO rfl rfl rfl) ?_
    refine PL.op rfl (Rd.fieldO rfl rfl) ?_
    refine PL.op rfl (Rd.loadO rfl rfl rfl) ?_
    refine PL.callM true [] (w_L_equalSlots N r4.1.slots r6.1.slots r37 h_38) rfl Try.call25 rfl ⟨.own rfl (by first | decide | exact List.not_mem_nil) rfl rfl, .own rfl (by first | decide | exact List.not_mem_nil) rfl rfl, trivial⟩ rfl trivial (fun _ => ⟨trivial, flat_nil⟩) ?_
    refine PL.op rfl (Rd.moveT rfl) ?_
    refine PL.guard_on rfl h_39 ?_
    refine PL.op rfl (Rd.moveT rfl) ?_
    refine PL.guard_on rfl h_39 ?_
    refine PL.op rfl (Rd.moveT rfl) ?_
    refine PL.guard_on rfl h_39 ?_
    refine PL.op rfl (Rd.eql rfl rfl) ?_
    refine PL.op rfl (Rd.pick_t rfl h_39) ?_
    refine PL.op rfl (Rd.moveT rfl) ?_
    refine PL.guard_on rfl h_11 ?_
    refine PL.op rfl (Rd.moveT rfl) ?_
    refine PL.guard_on rfl h_11 ?_
    refine PL.op rfl (Rd.moveT rfl) ?_
    refine PL.guard_on rfl h_11 ?_
    refine PL.op rfl (Rd.eqlB rfl rfl) ?_
    refine PL.op rfl (Rd.pick_t rfl h_11) ?_
    refine PL.op rfl (Rd.asnT rfl) ?_
    refine PL.nil ?_
    refine thA_n ?_
    refine PC.ret ?_
    refine thA_r ?_
    obtain rfl := some_in hh0
    exact FinA.mk (r := bA (r4.2.2 == r6.2.2)) (bl := []) [] (.inl rfl) rfl (rl := [.tmp 2]) (.tmp .nil) rfl rfl rfl (.t _) trivial ⟨rfl, rfl⟩
  refine PC.region ?_
  refine PL.op rfl (Rd.fieldO rfl rfl) ?_
  refine PL.op rfl (Rd.loadO rfl rfl rfl) ?_
  refine PL.op rfl (Rd.fieldO rfl rfl) ?_
  refine PL.op rfl (Rd.loadO rfl rfl rfl) ?_
  refine PL.callM true [] (w_L_equalSlots N r4.1.slots r6.1.slots r8 h_9) rfl Try.call25 rfl ⟨.own rfl (by first | decide | exact List.not_mem_nil) rfl rfl, .own rfl (by first | decide | exact List.not_mem_nil) rfl rfl, trivial⟩ rfl trivial (fun _ => ⟨trivial, flat_nil⟩) ?_
  refine PL.op rfl (Rd.unnot rfl) ?_
  refine PL.op rfl (Rd.moveT rfl) ?_
  refine PL.guard_on rfl (not_t h_10) ?_
  refine PL.op rfl (Rd.moveT rfl) ?_
  refine PL.guard_on rfl (not_t h_10) ?_
  refine PL.op rfl (Rd.moveT rfl) ?_
  refine PL.guard_on rfl (not_t h_10) ?_
  refine PL.op rfl (Rd.neq rfl rfl) ?_
  refine PL.op rfl (Rd.pick_f rfl (not_t h_10)) ?_
  refine PL.op rfl (Rd.moveT rfl) ?_
  refine PL.guard_on rfl (not_t h_11) ?_
  refine PL.op rfl (Rd.moveT rfl) ?_
  refine PL.guard_on rfl (not_t h_11) ?_
  refine PL.op rfl (Rd.moveT rfl) ?_
  refine PL.guard_on rfl (not_t h_11) ?_
  refine PL.op rfl (Rd.neqB rfl rfl) ?_
  refine PL.op rfl (Rd.pick_f rfl (not_t h_11)) ?_
  refine PL.op rfl (Rd.moveT rfl) ?_
  refine PL.guard_on rfl (not_t h_12) ?_
  refine PL.op rfl (Rd.moveT rfl) ?_
  refine PL.guard_on rfl (not_t h_12) ?_
  refine PL.op rfl (Rd.unnot rfl) ?_
  refine PL.op rfl (Rd.pick_f rfl (not_t h_12)) ?_
  refine PL.nil ?_
  refine thA_n ?_
  rcases cond_some hh0 with ⟨h_13, hh0⟩ | ⟨h_13, hh0⟩
  rotate_left
  · refine PC.cond_true rfl (not_f h_13) ?_
    refine PC.seq ?_
    obtain ⟨r34, h_35, hh0⟩ := bind_some hh0
    rcases cond_some hh0 with ⟨h_36, hh0⟩ | ⟨h_36, hh0⟩
    rotate_left
    · refine PC.region ?_
      refine PL.op rfl (Rd.fieldO rfl rfl) ?_
      refine PL.op rfl (Rd.loadO rfl rfl rfl) ?_
      refine PL.op rfl (Rd.fieldO rfl rfl) ?_
      refine PL.op rfl (Rd.loadO rfl rfl rfl) ?_
      refine PL.callM true [] (w_L_equalSlots N r4.1.slots r6.1.slots r34 h_35) rfl Try.call25 rfl ⟨.own rfl (by first | decide | exact List.not_mem_nil) rfl rfl, .own rfl (by first | decide | exact List.not_mem_nil) rfl rfl, trivial⟩ rfl trivial (fun _ => ⟨trivial, flat_nil⟩) ?_
      refine PL.op rfl (Rd.moveT rfl) ?_
      refine PL.guard_off rfl rfl h_36 ?_
      refine PL.guard_off rfl rfl h_36 ?_
      refine PL.guard_off rfl rfl h_36 ?_
      refine PL.op rfl (Rd.pick_f rfl h_36) ?_
      refine PL.op rfl (Rd.moveT rfl) ?_
      refine PL.guard_off rfl rfl rfl ?_
      refine PL.guard_off rfl rfl rfl ?_
      refine PL.guard_off rfl rfl rfl ?_
      refine PL.op rfl (Rd.pick_f rfl rfl) ?_
      refine PL.op rfl (Rd.asnT rfl) ?_
      refine PL.nil ?_
      refine thA_n ?_
      refine PC.ret ?_
      refine thA_r ?_
      obtain rfl := some_in hh0
      exact FinA.mk (r := bA false) (bl := []) [] (.inl rfl) rfl (rl := [.tmp 2]) (.tmp .nil) rfl rfl rfl (.t _) trivial ⟨rfl, rfl⟩
    refine PC.region ?_
    refine PL.op rfl (Rd.fieldO rfl rfl) ?_
    refine PL.op rfl (Rd.loadO rfl rfl rfl) ?_
    refine PL.op rfl (Rd.fieldO rfl rfl) ?_
    refine PL.op rfl (Rd.loadO rfl rfl rfl) ?_
    refine PL.callM true [] (w_L_equalSlots N r4.1.slots r6.1.slots r34 h_35) rfl Try.call25 rfl ⟨.own rfl (by first | decide | exact List.not_mem_nil) rfl rfl, .own rfl (by first | decide | exact List.not_mem_nil) rfl rfl, trivial⟩ rfl trivial (fun _ => ⟨trivial, flat_nil⟩) ?_
    refine PL.op rfl (Rd.moveT rfl) ?_
    refine PL.guard_on rfl h_36 ?_
    refine PL.op rfl (Rd.moveT rfl) ?_
    refine PL.guard_on rfl h_36 ?_
    refine PL.op rfl (Rd.moveT rfl) ?_
    refine PL.guard_on rfl h_36 ?_
    refine PL.op rfl (Rd.eql rfl rfl) ?_
    refine PL.op rfl (Rd.pick_t rfl h_36) ?_
    refine PL.op rfl (Rd.moveT rfl) ?_
    refine PL.guard_on rfl h_11 ?_
    refine PL.op rfl (Rd.moveT rfl) ?_
    refine PL.guard_on rfl h_11 ?_
    refine PL.op rfl (Rd.moveT rfl) ?_
    refine PL.guard_on rfl h_11 ?_
    refine PL.op rfl (Rd.eqlB rfl rfl) ?_
    refine PL.op rfl (Rd.pick_t rfl h_11) ?_
    refine PL.op rfl (Rd.asnT rfl) ?_
    refine PL.nil ?_
    refine thA_n ?_
    refine PC.ret ?_
    refine thA_r ?_
    obtain rfl := some_in hh0
    exact FinA.mk (r := bA (r4.2.2 == r6.2.2)) (bl := []) [] (.inl rfl) rfl (rl := [.tmp 2]) (.tmp .nil) rfl rfl rfl (.t _) trivial ⟨rfl, rfl⟩
  refine PC.cond_false rfl (not_t h_13) ?_
  refine PC.skip ?_
  refine thA_n ?_
  refine PC.seq ?_
  refine PC.seq ?_
  refine PC.region ?_
  refine PL.op rfl (Rd.asnT rfl) ?_
  refine PL.nil ?_
  refine thA_n ?_
  obtain ⟨o21, h_22, hh0⟩ := bind_some hh0
  refine PC.cutE hs (fun x : Unit => [(3, .op 0 0), (5, .op 2 0), (6, iA r4.2.1)]) (fun x => [⟨.mx [.os 1 0 r2.1.slots.length], 25, 0⟩, ⟨.tr (eL r2.1.slots), 35, 2⟩, ⟨.mx [.os 3 0 r4.1.slots.length], 25, 0⟩, ⟨.tr (eL r4.1.slots), 35, 2⟩]) (fun x => m_L_FnPutSlotFirst_k1 N r2 r4  = some r) ?_ ?_
  · refine PC.block ?_
    refine PC.loop hs (fun x : Nat × (Int) => [(3, .op 0 0), (5, .op 2 0), (6, iA r4.2.1), (11, iA x.2)]) (fun x => [⟨.mx [.os 1 0 r2.1.slots.length], 25, 0⟩, ⟨.tr (eL r2.1.slots), 35, 2⟩, ⟨.mx [.os 3 0 r4.1.slots.length], 25, 0⟩, ⟨.tr (eL r4.1.slots), 35, 2⟩]) (fun x => loopM (β := Unit ⊕ Bool) (fun s : Int => m_L_FnPutSlotFirst_b1 N r2 r4 s) x.1 x.2 = some o21) (fun x => x.1) (N, (0 : Int)) [some 1, some 0, some 3, some 2] ⟨rfl, rfl, ⟨⟨_, rfl, rfl, rfl, .mx ⟨.os rfl, trivial⟩⟩, ⟨_, rfl, rfl, rfl, .tr _⟩, ⟨_, rfl, rfl, rfl, .mx ⟨.os rfl, trivial⟩⟩, ⟨_, rfl, rfl, rfl, .tr _⟩, trivial⟩, ⟨.op rfl, .op rfl, .t _, .t _, trivial⟩⟩ h_22 ?_
    rintro ⟨f23_, i14⟩ h_25
    obtain ⟨f23, y24, rfl, hh1, kk1⟩ := loopM_some h_25
    replace hh1 : m_L_FnPutSlotFirst_b1 N r2 r4 i14 = some y24 := hh1
    unfold m_L_FnPutSlotFirst_b1 at hh1
    refine PC.seq ?_
    refine PC.seq ?_
    refine PC.region ?_
    refine PL.op rfl (Rd.moveT rfl) ?_
    refine PL.op rfl (Rd.moveT rfl) ?_
    refine PL.op rfl (Rd.lss rfl rfl) ?_
    refine PL.nil ?_
    refine thA_n ?_
    rcases cond_some hh1 with ⟨h_28, hh1⟩ | ⟨h_28, hh1⟩
    rotate_left
    · refine PC.cond_false rfl h_28 ?_
      refine PC.exit ?_
      refine thA_e ?_
      refine thA_e ?_
      refine inA_eq rfl ?_
      refine thA_n ?_
      obtain rfl := some_in hh1
      obtain rfl : (.inl () : Unit ⊕ Bool) = o21 := kk1
      exact ⟨(), hh0, [some 0, some 1, some 2, some 3], ⟨rfl, rfl, ⟨⟨_, rfl, rfl, rfl, .mx ⟨.os rfl, trivial⟩⟩, ⟨_, rfl, rfl, rfl, .tr _⟩, ⟨_, rfl, rfl, rfl, .mx ⟨.os rfl, trivial⟩⟩, ⟨_, rfl, rfl, rfl, .tr _⟩, trivial⟩, ⟨.op rfl, .op rfl, .t _, trivial⟩⟩⟩
    refine PC.cond_true rfl h_28 ?_
    refine PC.skip ?_
    refine thA_n ?_
    refine PC.seq ?_
    refine PC.block ?_
    refine PC.seq ?_
    obtain ⟨x29, h_30, hh1⟩ := bind_some hh1
    refine PC.region ?_
    refine PL.op rfl (Rd.fieldO rfl rfl) ?_
    refine PL.op rfl (Rd.loadO rfl rfl rfl) ?_
    refine PL.op rfl (Rd.moveT rfl) ?_
    refine PL.op rfl (Rd.ixOM rfl rfl rfl (ixI_lt h_30)) ?_
    refine PL.op rfl (Rd.fieldO rfl rfl) ?_
    refine PL.op rfl (Rd.owMF (f := 0) rfl rfl h_30 rfl rfl) ?_
    refine PL.op rfl (Rd.unnot rfl) ?_
    refine PL.nil ?_
    refine thA_n ?_
    rcases cond_some hh1 with ⟨h_31, hh1⟩ | ⟨h_31, hh1⟩
    rotate_left
    · refine PC.cond_true rfl (not_f h_31) ?_
      refine PC.seq ?_
      refine PC.region ?_
      refine PL.op rfl (Rd.asnT rfl) ?_
      refine PL.nil ?_
      refine thA_n ?_
      refine PC.ret ?_
      refine inA_r ?_
      refine thA_r ?_
      refine thA_r ?_
      refine inA_r ?_
      refine thA_r ?_
      obtain rfl := some_in hh1
      obtain rfl : (.inr false : Unit ⊕ Bool) = o21 := kk1
      refine thA_r ?_
      obtain rfl := some_in hh0
      exact FinA.mk (r := bA false) (bl := []) [] (.inl rfl) rfl (rl := [.tmp 2]) (.tmp .nil) rfl rfl rfl (.t _) trivial ⟨rfl, rfl⟩
    refine PC.cond_false rfl (not_t h_31) ?_
    refine PC.skip ?_
    refine inA_n ?_
    refine thA_n ?_
    obtain ⟨n32, h_33, hh1⟩ := bind_some hh1
    refine PC.region ?_
    refine PL.op rfl (Rd.moveT rfl) ?_
    refine PL.op rfl (Rd.addM rfl rfl h_33) ?_
    refine PL.op rfl (Rd.asnT rfl) ?_
    refine PL.nil ?_
    obtain rfl := some_in hh1
    refine thA_n ?_
    exact ⟨(f23, n32), Nat.lt_succ_self _, kk1, [some 0, some 1, some 2, some 3], ⟨rfl, rfl, ⟨⟨_, rfl, rfl, rfl, .mx ⟨.os rfl, trivial⟩⟩, ⟨_, rfl, rfl, rfl, .tr _⟩, ⟨_, rfl, rfl, rfl, .mx ⟨.os rfl, trivial⟩⟩, ⟨_, rfl, rfl, rfl, .tr _⟩, trivial⟩, ⟨.op rfl, .op rfl, .t _, .t _, trivial⟩⟩⟩
  clear hh0
  rintro ⟨⟩ hh0
  replace hh0 : m_L_FnPutSlotFirst_k1 N r2 r4  = some r := hh0
  unfold m_L_FnPutSlotFirst_k1 at hh0
  refine thA_n ?_
  refine PC.seq ?_
  obtain ⟨n26, h_27, hh0⟩ := bind_some hh0
  refine PC.region ?_
  refine PL.op rfl (Rd.fieldO rfl rfl) ?_
  refine PL.op rfl (Rd.loadO rfl rfl rfl) ?_
  refine PL.op rfl (Rd.lenO rfl rfl) ?_
  refine PL.op rfl (Rd.fieldO rfl rfl) ?_
  refine PL.op rfl (Rd.loadO rfl rfl rfl) ?_
  refine PL.op rfl (Rd.lenO rfl rfl) ?_
  refine PL.op rfl (Rd.moveT rfl) ?_
  refine PL.op rfl (Rd.addM rfl rfl h_27) ?_
  refine PL.op rfl (Rd.max2 rfl rfl) ?_
  refine PL.op rfl (Rd.eql rfl rfl) ?_
  refine PL.op rfl (Rd.asnT rfl) ?_
  refine PL.nil ?_
  refine thA_n ?_
  refine PC.ret ?_
  obtain rfl := some_in hh0
  exact FinA.mk (r := bA (decide ((r4.1.slots.length : Int) = (max (r2.1.slots.length : Int) n26)))) (bl := []) [] (.inl rfl) rfl (rl := [.tmp 2]) (.tmp .nil) rfl rfl rfl (.t _) trivial ⟨rfl, rfl⟩

end V
end Go.Proofs.Ytoljdhdfijnjiaa
