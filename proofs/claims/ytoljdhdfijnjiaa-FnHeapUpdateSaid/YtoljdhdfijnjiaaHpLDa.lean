/- Heaps: a law's function. No condition. -/
import Derived.Test.YtoljdhdfijnjiaaHpEa
namespace Go.Proofs.Ytoljdhdfijnjiaa
namespace V
open Enc (enc)
set_option linter.unusedVariables false
set_option linter.unusedSimpArgs false
set_option maxHeartbeats 4000000
set_option maxRecDepth 100000
open Go.RowKit
attribute [local irreducible] thA inA FinA eL

def m_L_FnHeapUpdate_k1 (N : Nat) (r2 : (I_Heap × I_Rid × ByteArray)) (r4 : (I_Heap × I_Rid × Bool)) (r14 : ((List I_Rid))) : Option (Bool) :=
  (m_I_HeapGet N r4.1 r4.2.1).bind fun r37 =>
  cond r37.2
    (cond (r37.1.toList == r2.2.2.toList)
      ((m_I_HeapScan N r4.1).bind fun r41 =>
      some (decide ((r41.length : Int) = (r14.length : Int))))
      (some false))
    (some false)
def m_L_FnHeapUpdate_b1 (N : Nat) (r2 : (I_Heap × I_Rid × ByteArray)) (r4 : (I_Heap × I_Rid × Bool)) (r14 : ((List I_Rid))) (a16 : Int) : Option (Int ⊕ (Unit ⊕ Bool)) :=
  cond (decide (a16 < (r14.length : Int)))
    ((ixI r14 a16).bind fun x44 =>
    (m_I_HeapGet N r2.1 x44).bind fun r46 =>
    (m_I_HeapGet N r4.1 x44).bind fun r48 =>
    cond (decide (x44 = r2.2.1))
      ((chk (a16 + (1 : Int))).bind fun n53 =>
      some (.inl n53))
      (cond r46.2
        (cond r48.2
          (cond (r46.1.toList == r48.1.toList)
            ((chk (a16 + (1 : Int))).bind fun n56 =>
            some (.inl n56))
            (some (.inr (.inr false))))
          (some (.inr (.inr false))))
        (some (.inr (.inr false)))))
    (some (.inr (.inl ())))
def m_L_FnHeapUpdate (N : Nat) (p_code : (List UInt8)) : Option (Bool) :=
  cond (decide ((1048576 : Int) < (p_code.length : Int)))
    (some true)
    ((m_S_DrawHeapUpdate N p_code).bind fun r2 =>
    (m_I_HeapUpdate N r2.1 r2.2.1 r2.2.2).bind fun r4 =>
    (m_S_HeapUpdate N r2.1 r2.2.1 r2.2.2).bind fun r6 =>
    (m_L_equalHeap N r4.1 r6.1).bind fun r8 =>
    cond r8
      (cond (decide (r4.2.1 = r6.2.1))
        (cond (r4.2.2 == r6.2.2)
          (cond r4.2.2
            ((m_I_HeapScan N r2.1).bind fun r14 =>
            (loopM (β := Unit ⊕ Bool) (fun s : Int => m_L_FnHeapUpdate_b1 N r2 r4 r14 s) N (0 : Int)).bind fun o => match o with
            | .inl e =>
              m_L_FnHeapUpdate_k1 N r2 r4 r14 
            | .inr v =>
              some v)
            ((m_L_equalHeap N r4.1 r6.1).bind fun r58 =>
            cond r58
              (some (r4.2.2 == r6.2.2))
              (some false)))
          ((m_L_equalHeap N r4.1 r6.1).bind fun r61 =>
          cond r61
            (some (r4.2.2 == r6.2.2))
            (some false)))
        ((m_L_equalHeap N r4.1 r6.1).bind fun r64 =>
        cond r64
          (some false)
          (some false)))
      ((m_L_equalHeap N r4.1 r6.1).bind fun r67 =>
      cond r67
        (cond (decide (r4.2.1 = r6.2.1))
          (some (r4.2.2 == r6.2.2))
          (some false))
        (some false)))
theorem w_L_FnHeapUpdate (N : Nat) (p_code : (List UInt8)) (r : Bool) (hh0 : m_L_FnHeapUpdate N p_code = some r) : FnX Try.prog 17 [] [sL p_code] (RE (bA r) []) := by
  unfold m_L_FnHeapUpdate at hh0
  refine FnX.mk Try.func17 rfl rfl ?_
  intro s hs
  refine PC.seq ?_
  refine PC.region ?_
  refine PL.op rfl (Rd.asnT rfl) ?_
  refine PL.nil ?_
  refine thA_n ?_
  refine PC.seq ?_
  refine PC.seq ?_
  refine PC.region ?_
  refine PL.op rfl (Rd.moveT rfl) ?_
  refine PL.op rfl (Rd.lenT rfl) ?_
  refine PL.op rfl (Rd.gtr rfl rfl) ?_
  refine PL.nil ?_
  refine thA_n ?_
  rcases cond_some hh0 with ⟨h_1, hh0⟩ | ⟨h_1, hh0⟩
  · refine PC.cond_true rfl h_1 ?_
    refine PC.seq ?_
    refine PC.region ?_
    refine PL.op rfl (Rd.asnT rfl) ?_
    refine PL.nil ?_
    refine thA_n ?_
    refine PC.ret ?_
    refine thA_r ?_
    obtain rfl := some_in hh0
    exact FinA.mk (r := bA true) (bl := []) [] (.inl rfl) rfl (rl := [.tmp 2]) (.tmp .nil) rfl rfl rfl (.t _) trivial ⟨rfl, rfl⟩
  refine PC.cond_false rfl h_1 ?_
  refine PC.skip ?_
  refine thA_n ?_
  refine PC.seq ?_
  obtain ⟨r2, h_3, hh0⟩ := bind_some hh0
  refine PC.region ?_
  refine PL.op rfl (Rd.moveT rfl) ?_
  refine PL.callM false [] (w_S_DrawHeapUpdate N p_code r2 h_3) rfl Try.call55 rfl ⟨.t _, trivial⟩ rfl trivial (fun h => by cases h) ?_
  refine PL.op rfl (Rd.moveU rfl) ?_
  refine PL.op rfl (Rd.extract rfl rfl) ?_
  refine PL.op rfl (Rd.extract rfl rfl) ?_
  refine PL.op rfl (Rd.extract rfl rfl) ?_
  refine PL.ef rfl (Ef.alloc rfl rfl) ?_
  refine PL.nm (.op 0 0) [some ⟨.mx [.t (.v (.slice none 0 0))], 58, 0⟩] rfl rfl ?_
  refine PL.ef rfl (Ef.alloc rfl rfl) ?_
  refine PL.nm (.op 1 0) [some ⟨.mx [.t (.v (.slice none 0 0))], 58, 0⟩, some ⟨.mx [iA (0 : Int), iA (0 : Int)], 62, 0⟩] rfl rfl ?_
  refine PL.store rfl rfl rfl rfl rfl rfl rfl ?_
  refine PL.nO [some ⟨.mx [sL r2.1.pages], 58, 0⟩, some ⟨.mx [iA (0 : Int), iA (0 : Int)], 62, 0⟩] rfl ?_
  refine PL.store rfl rfl rfl rfl rfl rfl rfl ?_
  refine PL.nO [some ⟨.mx [sL r2.1.pages], 58, 0⟩, some ⟨.mx [iA r2.2.1.page, iA r2.2.1.slot], 62, 0⟩] rfl ?_
  refine PL.op rfl (Rd.asnT rfl) ?_
  refine PL.nil ?_
  refine thA_n ?_
  refine PC.seq ?_
  obtain ⟨r4, h_5, hh0⟩ := bind_some hh0
  refine PC.region ?_
  refine PL.op rfl (Rd.loadBox rfl rfl rfl) ?_
  refine PL.op rfl (Rd.loadBox rfl rfl rfl) ?_
  refine PL.op rfl (Rd.moveT rfl) ?_
  refine PL.callM false [] (w_I_HeapUpdate N r2.1 r2.2.1 r2.2.2 r4 h_5) rfl Try.call56 rfl ⟨.aggL ⟨.t _, trivial⟩, .aggL ⟨.t _, .t _, trivial⟩, .t _, trivial⟩ rfl trivial (fun h => by cases h) ?_
  refine PL.nm (.tup [.agg [.os 2 0 r4.1.pages.length], .agg [iA r4.2.1.page, iA r4.2.1.slot], bA r4.2.2]) [some ⟨.mx [sL r2.1.pages], 58, 0⟩, some ⟨.mx [iA r2.2.1.page, iA r2.2.1.slot], 62, 0⟩, some ⟨.tr (eL r4.1.pages), 25, 1⟩] rfl rfl ?_
  refine PL.op rfl (Rd.moveU rfl) ?_
  refine PL.op rfl (Rd.extract rfl rfl) ?_
  refine PL.op rfl (Rd.extract rfl rfl) ?_
  refine PL.op rfl (Rd.extract rfl rfl) ?_
  refine PL.ef rfl (Ef.alloc rfl rfl) ?_
  refine PL.nm (.op 3 0) [some ⟨.mx [sL r2.1.pages], 58, 0⟩, some ⟨.mx [iA r2.2.1.page, iA r2.2.1.slot], 62, 0⟩, some ⟨.tr (eL r4.1.pages), 25, 1⟩, some ⟨.mx [.t (.v (.slice none 0 0))], 58, 0⟩] rfl rfl ?_
  refine PL.ef rfl (Ef.alloc rfl rfl) ?_
  refine PL.nm (.op 4 0) [some ⟨.mx [sL r2.1.pages], 58, 0⟩, some ⟨.mx [iA r2.2.1.page, iA r2.2.1.slot], 62, 0⟩, some ⟨.tr (eL r4.1.pages), 25, 1⟩, some ⟨.mx [.t (.v (.slice none 0 0))], 58, 0⟩, some ⟨.mx [iA (0 : Int), iA (0 : Int)], 62, 0⟩] rfl rfl ?_
  refine PL.store rfl rfl rfl rfl rfl rfl rfl ?_
  refine PL.nO [some ⟨.mx [sL r2.1.pages], 58, 0⟩, some ⟨.mx [iA r2.2.1.page, iA r2.2.1.slot], 62, 0⟩, some ⟨.tr (eL r4.1.pages), 25, 1⟩, some ⟨.mx [.os 2 0 r4.1.pages.length], 58, 0⟩, some ⟨.mx [iA (0 : Int), iA (0 : Int)], 62, 0⟩] rfl ?_
  refine PL.store rfl rfl rfl rfl rfl rfl rfl ?_
  refine PL.nO [some ⟨.mx [sL r2.1.pages], 58, 0⟩, some ⟨.mx [iA r2.2.1.page, iA r2.2.1.slot], 62, 0⟩, some ⟨.tr (eL r4.1.pages), 25, 1⟩, some ⟨.mx [.os 2 0 r4.1.pages.length], 58, 0⟩, some ⟨.mx [iA r4.2.1.page, iA r4.2.1.slot], 62, 0⟩] rfl ?_
  refine PL.op rfl (Rd.asnT rfl) ?_
  refine PL.nil ?_
  refine thA_n ?_
  refine PC.seq ?_
  obtain ⟨r6, h_7, hh0⟩ := bind_some hh0
  refine PC.region ?_
  refine PL.op rfl (Rd.loadBox rfl rfl rfl) ?_
  refine PL.op rfl (Rd.loadBox rfl rfl rfl) ?_
  refine PL.op rfl (Rd.moveT rfl) ?_
  refine PL.callM false [] (w_S_HeapUpdate N r2.1 r2.2.1 r2.2.2 r6 h_7) rfl Try.call57 rfl ⟨.aggL ⟨.t _, trivial⟩, .aggL ⟨.t _, .t _, trivial⟩, .t _, trivial⟩ rfl trivial (fun h => by cases h) ?_
  refine PL.nm (.tup [.agg [.os 5 0 r6.1.pages.length], .agg [iA r6.2.1.page, iA r6.2.1.slot], bA r6.2.2]) [some ⟨.mx [sL r2.1.pages], 58, 0⟩, some ⟨.mx [iA r2.2.1.page, iA r2.2.1.slot], 62, 0⟩, some ⟨.tr (eL r4.1.pages), 25, 1⟩, some ⟨.mx [.os 2 0 r4.1.pages.length], 58, 0⟩, some ⟨.mx [iA r4.2.1.page, iA r4.2.1.slot], 62, 0⟩, some ⟨.tr (eL r6.1.pages), 25, 1⟩] rfl rfl ?_
  refine PL.op rfl (Rd.moveU rfl) ?_
  refine PL.op rfl (Rd.extract rfl rfl) ?_
  refine PL.op rfl (Rd.extract rfl rfl) ?_
  refine PL.op rfl (Rd.extract rfl rfl) ?_
  refine PL.ef rfl (Ef.alloc rfl rfl) ?_
  refine PL.nm (.op 6 0) [some ⟨.mx [sL r2.1.pages], 58, 0⟩, some ⟨.mx [iA r2.2.1.page, iA r2.2.1.slot], 62, 0⟩, some ⟨.tr (eL r4.1.pages), 25, 1⟩, some ⟨.mx [.os 2 0 r4.1.pages.length], 58, 0⟩, some ⟨.mx [iA r4.2.1.page, iA r4.2.1.slot], 62, 0⟩, some ⟨.tr (eL r6.1.pages), 25, 1⟩, some ⟨.mx [.t (.v (.slice none 0 0))], 58, 0⟩] rfl rfl ?_
  refine PL.ef rfl (Ef.alloc rfl rfl) ?_
  refine PL.nm (.op 7 0) [some ⟨.mx [sL r2.1.pages], 58, 0⟩, some ⟨.mx [iA r2.2.1.page, iA r2.2.1.slot], 62, 0⟩, some ⟨.tr (eL r4.1.pages), 25, 1⟩, some ⟨.mx [.os 2 0 r4.1.pages.length], 58, 0⟩, some ⟨.mx [iA r4.2.1.page, iA r4.2.1.slot], 62, 0⟩, some ⟨.tr (eL r6.1.pages), 25, 1⟩, some ⟨.mx [.t (.v (.slice none 0 0))], 58, 0⟩, some ⟨.mx [iA (0 : Int), iA (0 : Int)], 62, 0⟩] rfl rfl ?_
  refine PL.store rfl rfl rfl rfl rfl rfl rfl ?_
  refine PL.nO [some ⟨.mx [sL r2.1.pages], 58, 0⟩, some ⟨.mx [iA r2.2.1.page, iA r2.2.1.slot], 62, 0⟩, some ⟨.tr (eL r4.1.pages), 25, 1⟩, some ⟨.mx [.os 2 0 r4.1.pages.length], 58, 0⟩, some ⟨.mx [iA r4.2.1.page, iA r4.2.1.slot], 62, 0⟩, some ⟨.tr (eL r6.1.pages), 25, 1⟩, some ⟨.mx [.os 5 0 r6.1.pages.length], 58, 0⟩, some ⟨.mx [iA (0 : Int), iA (0 : Int)], 62, 0⟩] rfl ?_
  refine PL.store rfl rfl rfl rfl rfl rfl rfl ?_
  refine PL.nO [some ⟨.mx [sL r2.1.pages], 58, 0⟩, some ⟨.mx [iA r2.2.1.page, iA r2.2.1.slot], 62, 0⟩, some ⟨.tr (eL r4.1.pages), 25, 1⟩, some ⟨.mx [.os 2 0 r4.1.pages.length], 58, 0⟩, some ⟨.mx [iA r4.2.1.page, iA r4.2.1.slot], 62, 0⟩, some ⟨.tr (eL r6.1.pages), 25, 1⟩, some ⟨.mx [.os 5 0 r6.1.pages.length], 58, 0⟩, some ⟨.mx [iA r6.2.1.page, iA r6.2.1.slot], 62, 0⟩] rfl ?_
  refine PL.op rfl (Rd.asnT rfl) ?_
  refine PL.nil ?_
  refine thA_n ?_
  refine PC.seq ?_
  refine PC.seq ?_
  obtain ⟨r8, h_9, hh0⟩ := bind_some hh0
  rcases cond_some hh0 with ⟨h_10, hh0⟩ | ⟨h_10, hh0⟩
  rotate_left
  · refine PC.region ?_
    refine PL.op rfl (Rd.loadBox rfl rfl rfl) ?_
    refine PL.op rfl (Rd.loadBox rfl rfl rfl) ?_
    refine PL.callM true [] (w_L_equalHeap N r4.1 r6.1 r8 h_9) rfl Try.call42 rfl ⟨.aggL ⟨.own rfl (by first | decide | exact List.not_mem_nil) rfl rfl, trivial⟩, .aggL ⟨.own rfl (by first | decide | exact List.not_mem_nil) rfl rfl, trivial⟩, trivial⟩ rfl trivial (fun _ => ⟨trivial, flat_nil⟩) ?_
    refine PL.op rfl (Rd.unnot rfl) ?_
    refine PL.op rfl (Rd.moveT rfl) ?_
    refine PL.guard_off rfl rfl (not_f h_10) ?_
    refine PL.guard_off rfl rfl (not_f h_10) ?_
    refine PL.guard_off rfl rfl (not_f h_10) ?_
    refine PL.op rfl (Rd.pick_t rfl (not_f h_10)) ?_
    refine PL.op rfl (Rd.moveT rfl) ?_
    refine PL.guard_off rfl rfl rfl ?_
    refine PL.guard_off rfl rfl rfl ?_
    refine PL.guard_off rfl rfl rfl ?_
    refine PL.op rfl (Rd.pick_t rfl rfl) ?_
    refine PL.op rfl (Rd.moveT rfl) ?_
    refine PL.guard_off rfl rfl rfl ?_
    refine PL.guard_off rfl rfl rfl ?_
    refine PL.op rfl (Rd.pick_t rfl rfl) ?_
    refine PL.nil ?_
    refine thA_n ?_
    refine PC.cond_true rfl rfl ?_
    refine PC.seq ?_
    obtain ⟨r67, h_68, hh0⟩ := bind_some hh0
    rcases cond_some hh0 with ⟨h_69, hh0⟩ | ⟨h_69, hh0⟩
    rotate_left
    · refine PC.region ?_
      refine PL.op rfl (Rd.loadBox rfl rfl rfl) ?_
      refine PL.op rfl (Rd.loadBox rfl rfl rfl) ?_
      refine PL.callM true [] (w_L_equalHeap N r4.1 r6.1 r67 h_68) rfl Try.call42 rfl ⟨.aggL ⟨.own rfl (by first | decide | exact List.not_mem_nil) rfl rfl, trivial⟩, .aggL ⟨.own rfl (by first | decide | exact List.not_mem_nil) rfl rfl, trivial⟩, trivial⟩ rfl trivial (fun _ => ⟨trivial, flat_nil⟩) ?_
      refine PL.op rfl (Rd.moveT rfl) ?_
      refine PL.guard_off rfl rfl h_69 ?_
      refine PL.guard_off rfl rfl h_69 ?_
      refine PL.guard_off rfl rfl h_69 ?_
      refine PL.op rfl (Rd.pick_f rfl h_69) ?_
      refine PL.op rfl (Rd.moveT rfl) ?_
      refine PL.guard_off rfl rfl rfl ?_
      refine PL.guard_off rfl rfl rfl ?_
      refine PL.guard_off rfl rfl rfl ?_
      refine PL.op rfl (Rd.pick_f rfl rfl) ?_
      refine PL.op rfl (Rd.asnT rfl) ?_
      refine PL.nil ?_
      refine thA_n ?_
      refine PC.ret ?_
      refine thA_r ?_
      obtain rfl := some_in hh0
      exact FinA.mk (r := bA false) (bl := []) [] (.inl rfl) rfl (rl := [.tmp 2]) (.tmp .nil) rfl rfl rfl (.t _) trivial ⟨rfl, rfl⟩
    rcases cond_some hh0 with ⟨h_70, hh0⟩ | ⟨h_70, hh0⟩
    rotate_left
    · refine PC.region ?_
      refine PL.op rfl (Rd.loadBox rfl rfl rfl) ?_
      refine PL.op rfl (Rd.loadBox rfl rfl rfl) ?_
      refine PL.callM true [] (w_L_equalHeap N r4.1 r6.1 r67 h_68) rfl Try.call42 rfl ⟨.aggL ⟨.own rfl (by first | decide | exact List.not_mem_nil) rfl rfl, trivial⟩, .aggL ⟨.own rfl (by first | decide | exact List.not_mem_nil) rfl rfl, trivial⟩, trivial⟩ rfl trivial (fun _ => ⟨trivial, flat_nil⟩) ?_
      refine PL.op rfl (Rd.moveT rfl) ?_
      refine PL.guard_on rfl h_69 ?_
      refine PL.op rfl (Rd.loadBox rfl rfl rfl) ?_
      refine PL.guard_on rfl h_69 ?_
      refine PL.op rfl (Rd.loadBox rfl rfl rfl) ?_
      refine PL.guard_on rfl h_69 ?_
      refine PL.op rfl (Rd.eqlE (a := r4.2.1) (b := r6.2.1) rfl rfl rfl rfl) ?_
      refine PL.op rfl (Rd.pick_t rfl h_69) ?_
      refine PL.op rfl (Rd.moveT rfl) ?_
      refine PL.guard_off rfl rfl h_70 ?_
      refine PL.guard_off rfl rfl h_70 ?_
      refine PL.guard_off rfl rfl h_70 ?_
      refine PL.op rfl (Rd.pick_f rfl h_70) ?_
      refine PL.op rfl (Rd.asnT rfl) ?_
      refine PL.nil ?_
      refine thA_n ?_
      refine PC.ret ?_
      refine thA_r ?_
      obtain rfl := some_in hh0
      exact FinA.mk (r := bA false) (bl := []) [] (.inl rfl) rfl (rl := [.tmp 2]) (.tmp .nil) rfl rfl rfl (.t _) trivial ⟨rfl, rfl⟩
    refine PC.region ?_
    refine PL.op rfl (Rd.loadBox rfl rfl rfl) ?_
    refine PL.op rfl (Rd.loadBox rfl rfl rfl) ?_
    refine PL.callM true [] (w_L_equalHeap N r4.1 r6.1 r67 h_68) rfl Try.call42 rfl ⟨.aggL ⟨.own rfl (by first | decide | exact List.not_mem_nil) rfl rfl, trivial⟩, .aggL ⟨.own rfl (by first | decide | exact List.not_mem_nil) rfl rfl, trivial⟩, trivial⟩ rfl trivial (fun _ => ⟨trivial, flat_nil⟩) ?_
    refine PL.op rfl (Rd.moveT rfl) ?_
    refine PL.guard_on rfl h_69 ?_
    refine PL.op rfl (Rd.loadBox rfl rfl rfl) ?_
    refine PL.guard_on rfl h_69 ?_
    refine PL.op rfl (Rd.loadBox rfl rfl rfl) ?_
    refine PL.guard_on rfl h_69 ?_
    refine PL.op rfl (Rd.eqlE (a := r4.2.1) (b := r6.2.1) rfl rfl rfl rfl) ?_
    refine PL.op rfl (Rd.pick_t rfl h_69) ?_
    refine PL.op rfl (Rd.moveT rfl) ?_
    refine PL.guard_on rfl h_70 ?_
    refine PL.op rfl (Rd.moveT rfl) ?_
    refine PL.guard_on rfl h_70 ?_
    refine PL.op rfl (Rd.moveT rfl) ?_
    refine PL.guard_on rfl h_70 ?_
    refine PL.op rfl (Rd.eqlB rfl rfl) ?_
    refine PL.op rfl (Rd.pick_t rfl h_70) ?_
    refine PL.op rfl (Rd.asnT rfl) ?_
    refine PL.nil ?_
    refine thA_n ?_
    refine PC.ret ?_
    refine thA_r ?_
    obtain rfl := some_in hh0
    exact FinA.mk (r := bA (r4.2.2 == r6.2.2)) (bl := []) [] (.inl rfl) rfl (rl := [.tmp 2]) (.tmp .nil) rfl rfl rfl (.t _) trivial ⟨rfl, rfl⟩
  rcases cond_some hh0 with ⟨h_11, hh0⟩ | ⟨h_11, hh0⟩
  rotate_left
  · refine PC.region ?_
    refine PL.op rfl (Rd.loadBox rfl rfl rfl) ?_
    refine PL.op rfl (Rd.loadBox rfl rfl rfl) ?_
    refine PL.callM true [] (w_L_equalHeap N r4.1 r6.1 r8 h_9) rfl Try.call42 rfl ⟨.aggL ⟨.own rfl (by first | decide | exact List.not_mem_nil) rfl rfl, trivial⟩, .aggL ⟨.own rfl (by first | decide | exact List.not_mem_nil) rfl rfl, trivial⟩, trivial⟩ rfl trivial (fun _ => ⟨trivial, flat_nil⟩) ?_
    refine PL.op rfl (Rd.unnot rfl) ?_
    refine PL.op rfl (Rd.moveT rfl) ?_
    refine PL.guard_on rfl (not_t h_10) ?_
    refine PL.op rfl (Rd.loadBox rfl rfl rfl) ?_
    refine PL.guard_on rfl (not_t h_10) ?_
    refine PL.op rfl (Rd.loadBox rfl rfl rfl) ?_
    refine PL.guard_on rfl (not_t h_10) ?_
    refine PL.op rfl (Rd.neqE (a := r4.2.1) (b := r6.2.1) rfl rfl rfl rfl) ?_
    refine PL.op rfl (Rd.pick_f rfl (not_t h_10)) ?_
    refine PL.op rfl (Rd.moveT rfl) ?_
    refine PL.guard_off rfl rfl (not_f h_11) ?_
    refine PL.guard_off rfl rfl (not_f h_11) ?_
    refine PL.guard_off rfl rfl (not_f h_11) ?_
    refine PL.op rfl (Rd.pick_t rfl (not_f h_11)) ?_
    refine PL.op rfl (Rd.moveT rfl) ?_
    refine PL.guard_off rfl rfl rfl ?_
    refine PL.guard_off rfl rfl rfl ?_
    refine PL.op rfl (Rd.pick_t rfl rfl) ?_
    refine PL.nil ?_
    refine thA_n ?_
    refine PC.cond_true rfl rfl ?_
    refine PC.seq ?_
    obtain ⟨r64, h_65, hh0⟩ := bind_some hh0
    rcases cond_some hh0 with ⟨h_66, hh0⟩ | ⟨h_66, hh0⟩
    rotate_left
    · refine PC.region ?_
      refine PL.op rfl (Rd.loadBox rfl rfl rfl) ?_
      refine PL.op rfl (Rd.loadBox rfl rfl rfl) ?_
      refine PL.callM true [] (w_L_equalHeap N r4.1 r6.1 r64 h_65) rfl Try.call42 rfl ⟨.aggL ⟨.own rfl (by first | decide | exact List.not_mem_nil) rfl rfl, trivial⟩, .aggL ⟨.own rfl (by first | decide | exact List.not_mem_nil) rfl rfl, trivial⟩, trivial⟩ rfl trivial (fun _ => ⟨trivial, flat_nil⟩) ?_
      refine PL.op rfl (Rd.moveT rfl) ?_
      refine PL.guard_off rfl rfl h_66 ?_
      refine PL.guard_off rfl rfl h_66 ?_
      refine PL.guard_off rfl rfl h_66 ?_
      refine PL.op rfl (Rd.pick_f rfl h_66) ?_
      refine PL.op rfl (Rd.moveT rfl) ?_
      refine PL.guard_off rfl rfl rfl ?_
      refine PL.guard_off rfl rfl rfl ?_
      refine PL.guard_off rfl rfl rfl ?_
      refine PL.op rfl (Rd.pick_f rfl rfl) ?_
      refine PL.op rfl (Rd.asnT rfl) ?_
      refine PL.nil ?_
      refine thA_n ?_
      refine PC.ret ?_
      refine thA_r ?_
      obtain rfl := some_in hh0
      exact FinA.mk (r := bA false) (bl := []) [] (.inl rfl) rfl (rl := [.tmp 2]) (.tmp .nil) rfl rfl rfl (.t _) trivial ⟨rfl, rfl⟩
    refine PC.region ?_
    refine PL.op rfl (Rd.loadBox rfl rfl rfl) ?_
    refine PL.op rfl (Rd.loadBox rfl rfl rfl) ?_
    refine PL.callM true [] (w_L_equalHeap N r4.1 r6.1 r64 h_65) rfl Try.call42 rfl ⟨.aggL ⟨.own rfl (by first | decide | exact List.not_mem_nil) rfl rfl, trivial⟩, .aggL ⟨.own rfl (by first | decide | exact List.not_mem_nil) rfl rfl, trivial⟩, trivial⟩ rfl trivial (fun _ => ⟨trivial, flat_nil⟩) ?_
    refine PL.op rfl (Rd.moveT rfl) ?_
    refine PL.guard_on rfl h_66 ?_
    refine PL.op rfl (Rd.loadBox rfl rfl rfl) ?_
    refine PL.guard_on rfl h_66 ?_
    refine PL.op rfl (Rd.loadBox rfl rfl rfl) ?_
    refine PL.guard_on rfl h_66 ?_
    refine PL.op rfl (Rd.eqlE (a := r4.2.1) (b := r6.2.1) rfl rfl rfl rfl) ?_
    refine PL.op rfl (Rd.pick_t rfl h_66) ?_
    refine PL.op rfl (Rd.moveT rfl) ?_
    refine PL.guard_off rfl rfl h_11 ?_
    refine PL.guard_off rfl rfl h_11 ?_
    refine PL.guard_off rfl rfl h_11 ?_
    refine PL.op rfl (Rd.pick_f rfl h_11) ?_
    refine PL.op rfl (Rd.asnT rfl) ?_
    refine PL.nil ?_
    refine thA_n ?_
    refine PC.ret ?_
    refine thA_r ?_
    obtain rfl := some_in hh0
    exact FinA.mk (r := bA false) (bl := []) [] (.inl rfl) rfl (rl := [.tmp 2]) (.tmp .nil) rfl rfl rfl (.t _) trivial ⟨rfl, rfl⟩
  rcases cond_some hh0 with ⟨h_12, hh0⟩ | ⟨h_12, hh0⟩
  rotate_left
  · refine PC.region ?_
    refine PL.op rfl (Rd.loadBox rfl rfl rfl) ?_
    refine PL.op rfl (Rd.loadBox rfl rfl rfl) ?_
    refine PL.callM true [] (w_L_equalHeap N r4.1 r6.1 r8 h_9) rfl Try.call42 rfl ⟨.aggL ⟨.own rfl (by first | decide | exact List.not_mem_nil) rfl rfl, trivial⟩, .aggL ⟨.own rfl (by first | decide | exact List.not_mem_nil) rfl rfl, trivial⟩, trivial⟩ rfl trivial (fun _ => ⟨trivial, flat_nil⟩) ?_
    refine PL.op rfl (Rd.unnot rfl) ?_
    refine PL.op rfl (Rd.moveT rfl) ?_
    refine PL.guard_on rfl (not_t h_10) ?_
    refine PL.op rfl (Rd.loadBox rfl rfl rfl) ?_
    refine PL.guard_on rfl (not_t h_10) ?_
    refine PL.op rfl (Rd.loadBox rfl rfl rfl) ?_
    refine PL.guard_on rfl (not_t h_10) ?_
    refine PL.op rfl (Rd.neqE (a := r4.2.1) (b := r6.2.1) rfl rfl rfl rfl) ?_
    refine PL.op rfl (Rd.pick_f rfl (not_t h_10)) ?_
    refine PL.op rfl (Rd.moveT rfl) ?_
    refine PL.guard_on rfl (not_t h_11) ?_
    refine PL.op rfl (Rd.moveT rfl) ?_
    refine PL.guard_on rfl (not_t h_11) ?_
    refine PL.op rfl (Rd.moveT rfl) ?_
    refine PL.guard_on rfl (not_t h_11) ?_
    refine PL.op rfl (Rd.neqB rfl rfl) ?_
    refine PL.op rfl (Rd.pick_f rfl (not_t h_11)) ?_
    refine PL.op rfl (Rd.moveT rfl) ?_
    refine PL.guard_off rfl rfl (not_f h_12) ?_
    refine PL.guard_off rfl rfl (not_f h_12) ?_
    refine PL.op rfl (Rd.pick_t rfl (not_f h_12)) ?_
    refine PL.nil ?_
    refine thA_n ?_
    refine PC.cond_true rfl rfl ?_
    refine PC.seq ?_
    obtain ⟨r61, h_62, hh0⟩ := bind_some hh0
    rcases cond_some hh0 with ⟨h_63, hh0⟩ | ⟨h_63, hh0⟩
    rotate_left
    · refine PC.region ?_
      refine PL.op rfl (Rd.loadBox rfl rfl rfl) ?_
      refine PL.op rfl (Rd.loadBox rfl rfl rfl) ?_
      refine PL.callM true [] (w_L_equalHeap N r4.1 r6.1 r61 h_62) rfl Try.call42 rfl ⟨.aggL ⟨.own rfl (by first | decide | exact List.not_mem_nil) rfl rfl, trivial⟩, .aggL ⟨.own rfl (by first | decide | exact List.not_mem_nil) rfl rfl, trivial⟩, trivial⟩ rfl trivial (fun _ => ⟨trivial, flat_nil⟩) ?_
      refine PL.op rfl (Rd.moveT rfl) ?_
      refine PL.guard_off rfl rfl h_63 ?_
      refine PL.guard_off rfl rfl h_63 ?_
      refine PL.guard_off rfl rfl h_63 ?_
      refine PL.op rfl (Rd.pick_f rfl h_63) ?_
      refine PL.op rfl (Rd.moveT rfl) ?_
      refine PL.guard_off rfl rfl rfl ?_
      refine PL.guard_off rfl rfl rfl ?_
      refine PL.guard_off rfl rfl rfl ?_
      refine PL.op rfl (Rd.pick_f rfl rfl) ?_
      refine PL.op rfl (Rd.asnT rfl) ?_
      refine PL.nil ?_
      refine thA_n ?_
      refine PC.ret ?_
      refine thA_r ?_
      obtain rfl := some_in hh0
      exact FinA.mk (r := bA false) (bl := []) [] (.inl rfl) rfl (rl := [.tmp 2]) (.tmp .nil) rfl rfl rfl (.t _) trivial ⟨rfl, rfl⟩
    refine PC.region ?_
    refine PL.op rfl (Rd.loadBox rfl rfl rfl) ?_
    refine PL.op rfl (Rd.loadBox rfl rfl rfl) ?_
    refine PL.callM true [] (w_L_equalHeap N r4.1 r6.1 r61 h_62) rfl Try.call42 rfl ⟨.aggL ⟨.own rfl (by first | decide | exact List.not_mem_nil) rfl rfl, trivial⟩, .aggL ⟨.own rfl (by first | decide | exact List.not_mem_nil) rfl rfl, trivial⟩, trivial⟩ rfl trivial (fun _ => ⟨trivial, flat_nil⟩) ?_
    refine PL.op rfl (Rd.moveT rfl) ?_
    refine PL.guard_on rfl h_63 ?_
    refine PL.op rfl (Rd.loadBox rfl rfl rfl) ?_
    refine PL.guard_on rfl h_63 ?_
    refine PL.op rfl (Rd.loadBox rfl rfl rfl) ?_
    refine PL.guard_on rfl h_63 ?_
    refine PL.op rfl (Rd.eqlE (a := r4.2.1) (b := r6.2.1) rfl rfl rfl rfl) ?_
    refine PL.op rfl (Rd.pick_t rfl h_63) ?_
    refine PL.op rfl (Rd.moveT rfl) ?_
    refine PL.guard_on rfl h_11 ?_
    refine PL.op rfl (Rd.moveT rfl) ?_
    refine PL.guard_on rfl h_11 ?_
    refine PL.op rfl (Rd.moveT rfl) ?_
    refine PL.guard_on rfl h_11 ?_
    refine PL.op rfl (Rd.eqlB rfl rfl) ?_
    refine PL.op rfl (Rd.pick_t rfl h_11) ?_
    refine PL.op rfl (Rd.asnT rfl) ?_
    refine PL.nil ?_
    refine thA_n ?_
    refine PC.ret ?_
    refine thA_r ?_
    obtain rfl := some_in hh0
    exact FinA.mk (r := bA (r4.2.2 == r6.2.2)) (bl := []) [] (.inl rfl) rfl (rl := [.tmp 2]) (.tmp .nil) rfl rfl rfl (.t _) trivial ⟨rfl, rfl⟩
  refine PC.region ?_
  refine PL.op rfl (Rd.loadBox rfl rfl rfl) ?_
  refine PL.op rfl (Rd.loadBox rfl rfl rfl) ?_
  refine PL.callM true [] (w_L_equalHeap N r4.1 r6.1 r8 h_9) rfl Try.call42 rfl ⟨.aggL ⟨.own rfl (by first | decide | exact List.not_mem_nil) rfl rfl, trivial⟩, .aggL ⟨.own rfl (by first | decide | exact List.not_mem_nil) rfl rfl, trivial⟩, trivial⟩ rfl trivial (fun _ => ⟨trivial, flat_nil⟩) ?_
  refine PL.op rfl (Rd.unnot rfl) ?_
  refine PL.op rfl (Rd.moveT rfl) ?_
  refine PL.guard_on rfl (not_t h_10) ?_
  refine PL.op rfl (Rd.loadBox rfl rfl rfl) ?_
  refine PL.guard_on rfl (not_t h_10) ?_
  refine PL.op rfl (Rd.loadBox rfl rfl rfl) ?_
  refine PL.guard_on rfl (not_t h_10) ?_
  refine PL.op rfl (Rd.neqE (a := r4.2.1) (b := r6.2.1) rfl rfl rfl rfl) ?_
  refine PL.op rfl (Rd.pick_f rfl (not_t h_10)) ?_
  refine PL.op rfl (Rd.moveT rfl) ?_
  refine PL.guard_on rfl (not_t h_11) ?_
  refine PL.op rfl (Rd.moveT rfl) ?_
  refine PL.guard_on rfl (not_t h_11) ?_
  refine PL.op rfl (Rd.moveT rfl) ?_
  refine PL.guard_on rfl (not_t h_11) ?_
  refine PL.op rfl (Rd.neqB rfl rfl) ?_
  refine PL.op rfl (Rd.pick_f rfl (not_t h_11)) ?_
  refine PL.op rfl (Rd.moveT rfl) ?_
  refine PL.guard_on rfl (not_t h_12) ?_
  refine PL.op rfl (Rd.moveT rfl) ?_
  refine PL.guard_on rfl (not_t h_12) ?_
  refine PL.op rfl (Rd.unnot rfl) ?_
  refine PL.op rfl (Rd.pick_f rfl (not_t h_12)) ?_
  refine PL.nil ?_
  refine thA_n ?_
  rcases cond_some hh0 with ⟨h_13, hh0⟩ | ⟨h_13, hh0⟩
  rotate_left
  · refine PC.cond_true rfl (not_f h_13) ?_
    refine PC.seq ?_
    obtain ⟨r58, h_59, hh0⟩ := bind_some hh0
    rcases cond_some hh0 with ⟨h_60, hh0⟩ | ⟨h_60, hh0⟩
    rotate_left
    · refine PC.region ?_
      refine PL.op rfl (Rd.loadBox rfl rfl rfl) ?_
      refine PL.op rfl (Rd.loadBox rfl rfl rfl) ?_
      refine PL.callM true [] (w_L_equalHeap N r4.1 r6.1 r58 h_59) rfl Try.call42 rfl ⟨.aggL ⟨.own rfl (by first | decide | exact List.not_mem_nil) rfl rfl, trivial⟩, .aggL ⟨.own rfl (by first | decide | exact List.not_mem_nil) rfl rfl, trivial⟩, trivial⟩ rfl trivial (fun _ => ⟨trivial, flat_nil⟩) ?_
      refine PL.op rfl (Rd.moveT rfl) ?_
      refine PL.guard_off rfl rfl h_60 ?_
      refine PL.guard_off rfl rfl h_60 ?_
      refine PL.guard_off rfl rfl h_60 ?_
      refine PL.op rfl (Rd.pick_f rfl h_60) ?_
      refine PL.op rfl (Rd.moveT rfl) ?_
      refine PL.guard_off rfl rfl rfl ?_
      refine PL.guard_off rfl rfl rfl ?_
      refine PL.guard_off rfl rfl rfl ?_
      refine PL.op rfl (Rd.pick_f rfl rfl) ?_
      refine PL.op rfl (Rd.asnT rfl) ?_
      refine PL.nil ?_
      refine thA_n ?_
      refine PC.ret ?_
      refine thA_r ?_
      obtain rfl := some_in hh0
      exact FinA.mk (r := bA false) (bl := []) [] (.inl rfl) rfl (rl := [.tmp 2]) (.tmp .nil) rfl rfl rfl (.t _) trivial ⟨rfl, rfl⟩
    refine PC.region ?_
    refine PL.op rfl (Rd.loadBox rfl rfl rfl) ?_
    refine PL.op rfl (Rd.loadBox rfl rfl rfl) ?_
    refine PL.callM true [] (w_L_equalHeap N r4.1 r6.1 r58 h_59) rfl Try.call42 rfl ⟨.aggL ⟨.own rfl (by first | decide | exact List.not_mem_nil) rfl rfl, trivial⟩, .aggL ⟨.own rfl (by first | decide | exact List.not_mem_nil) rfl rfl, trivial⟩, trivial⟩ rfl trivial (fun _ => ⟨trivial, flat_nil⟩) ?_
    refine PL.op rfl (Rd.moveT rfl) ?_
    refine PL.guard_on rfl h_60 ?_
    refine PL.op rfl (Rd.loadBox rfl rfl rfl) ?_
    refine PL.guard_on rfl h_60 ?_
    refine PL.op rfl (Rd.loadBox rfl rfl rfl) ?_
    refine PL.guard_on rfl h_60 ?_
    refine PL.op rfl (Rd.eqlE (a := r4.2.1) (b := r6.2.1) rfl rfl rfl rfl) ?_
    refine PL.op rfl (Rd.pick_t rfl h_60) ?_
    refine PL.op rfl (Rd.moveT rfl) ?_
    refine PL.guard_on rfl h_11 ?_
    refine PL.op rfl (Rd.moveT rfl) ?_
    refine PL.guard_on rfl h_11 ?_
    refine PL.op rfl (Rd.moveT rfl) ?_
    refine PL.guard_on rfl h_11 ?_
    refine PL.op rfl (Rd.eqlB rfl rfl) ?_
    refine PL.op rfl (Rd.pick_t rfl h_11) ?_
    refine PL.op rfl (Rd.asnT rfl) ?_
    refine PL.nil ?_
    refine thA_n ?_
    refine PC.ret ?_
    refine thA_r ?_
    obtain rfl := some_in hh0
    exact FinA.mk (r := bA (r4.2.2 == r6.2.2)) (bl := []) [] (.inl rfl) rfl (rl := [.tmp 2]) (.tmp .nil) rfl rfl rfl (.t _) trivial ⟨rfl, rfl⟩
  refine PC.cond_false rfl (not_t h_13) ?_
  refine PC.skip ?_
  refine thA_n ?_
  refine PC.seq ?_
  obtain ⟨r14, h_15, hh0⟩ := bind_some hh0
  refine PC.region ?_
  refine PL.op rfl (Rd.loadBox rfl rfl rfl) ?_
  refine PL.callM false [] (w_I_HeapScan N r2.1 r14 h_15) rfl Try.call43 rfl ⟨.aggL ⟨.t _, trivial⟩, trivial⟩ rfl trivial (fun h => by cases h) ?_
  refine PL.nm (.os 8 0 r14.length) [some ⟨.mx [sL r2.1.pages], 58, 0⟩, some ⟨.mx [iA r2.2.1.page, iA r2.2.1.slot], 62, 0⟩, some ⟨.tr (eL r4.1.pages), 25, 1⟩, some ⟨.mx [.os 2 0 r4.1.pages.length], 58, 0⟩, some ⟨.mx [iA r4.2.1.page, iA r4.2.1.slot], 62, 0⟩, some ⟨.tr (eL r6.1.pages), 25, 1⟩, some ⟨.mx [.os 5 0 r6.1.pages.length], 58, 0⟩, some ⟨.mx [iA r6.2.1.page, iA r6.2.1.slot], 62, 0⟩, some ⟨.tr (eL r14), 62, 2⟩] rfl rfl ?_
  refine PL.op rfl (Rd.asnO rfl) ?_
  refine PL.nil ?_
  refine thA_n ?_
  refine PC.seq ?_
  refine PC.seq ?_
  refine PC.region ?_
  refine PL.op rfl (Rd.asnT rfl) ?_
  refine PL.nil ?_
  refine thA_n ?_
  obtain ⟨o32, h_33, hh0⟩ := bind_some hh0
  refine PC.cutE hs (fun x : Unit => [(5, sA r2.2.2), (6, .op 0 0), (7, .op 2 0), (12, .os 3 0 r14.length)]) (fun x => [⟨.mx [.os 1 0 r4.1.pages.length], 58, 0⟩, ⟨.tr (eL r4.1.pages), 25, 1⟩, ⟨.mx [iA r4.2.1.page, iA r4.2.1.slot], 62, 0⟩, ⟨.tr (eL r14), 62, 2⟩]) (fun x => m_L_FnHeapUpdate_k1 N r2 r4 r14  = some r) ?_ ?_
  · refine PC.block ?_
    refine PC.loop hs (fun x : Nat × (Int) => [(3, .op 0 0), (4, .op 1 0), (5, sA r2.2.2), (6, .op 2 0), (7, .op 4 0), (12, .os 5 0 r14.length), (13, iA x.2)]) (fun x => [⟨.mx [sL r2.1.pages], 58, 0⟩, ⟨.mx [iA r2.2.1.page, iA r2.2.1.slot], 62, 0⟩, ⟨.mx [.os 3 0 r4.1.pages.length], 58, 0⟩, ⟨.tr (eL r4.1.pages), 25, 1⟩, ⟨.mx [iA r4.2.1.page, iA r4.2.1.slot], 62, 0⟩, ⟨.tr (eL r14), 62, 2⟩]) (fun x => loopM (β := Unit ⊕ Bool) (fun s : Int => m_L_FnHeapUpdate_b1 N r2 r4 r14 s) x.1 x.2 = some o32) (fun x => x.1) (N, (0 : Int)) [some 0, some 1, some 3, some 2, some 4, some 8] ⟨rfl, rfl, ⟨⟨_, rfl, rfl, rfl, .mx ⟨.t _, trivial⟩⟩, ⟨_, rfl, rfl, rfl, .mx ⟨.t _, .t _, trivial⟩⟩, ⟨_, rfl, rfl, rfl, .mx ⟨.os rfl, trivial⟩⟩, ⟨_, rfl, rfl, rfl, .tr _⟩, ⟨_, rfl, rfl, rfl, .mx ⟨.t _, .t _, trivial⟩⟩, ⟨_, rfl, rfl, rfl, .tr _⟩, trivial⟩, ⟨.op rfl, .op rfl, .t _, .op rfl, .op rfl, .os rfl, .t _, trivial⟩⟩ h_33 ?_
    rintro ⟨f34_, a16⟩ h_36
    obtain ⟨f34, y35, rfl, hh1, kk1⟩ := loopM_some h_36
    replace hh1 : m_L_FnHeapUpdate_b1 N r2 r4 r14 a16 = some y35 := hh1
    unfold m_L_FnHeapUpdate_b1 at hh1
    refine PC.seq ?_
    refine PC.seq ?_
    refine PC.region ?_
    refine PL.op rfl (Rd.moveT rfl) ?_
    refine PL.op rfl (Rd.moveO rfl) ?_
    refine PL.op rfl (Rd.lenO rfl rfl) ?_
    refine PL.op rfl (Rd.lss rfl rfl) ?_
    refine PL.nil ?_
    refine thA_n ?_
    rcases cond_some hh1 with ⟨h_43, hh1⟩ | ⟨h_43, hh1⟩
    rotate_left
    · refine PC.cond_false rfl h_43 ?_
      refine PC.exit ?_
      refine thA_e ?_
      refine thA_e ?_
      refine inA_eq rfl ?_
      refine thA_n ?_
      obtain rfl := some_in hh1
      obtain rfl : (.inl () : Unit ⊕ Bool) = o32 := kk1
      exact ⟨(), hh0, [some 2, some 3, some 4, some 5], ⟨rfl, rfl, ⟨⟨_, rfl, rfl, rfl, .mx ⟨.os rfl, trivial⟩⟩, ⟨_, rfl, rfl, rfl, .tr _⟩, ⟨_, rfl, rfl, rfl, .mx ⟨.t _, .t _, trivial⟩⟩, ⟨_, rfl, rfl, rfl, .tr _⟩, trivial⟩, ⟨.t _, .op rfl, .op rfl, .os rfl, trivial⟩⟩⟩
    refine PC.cond_true rfl h_43 ?_
    refine PC.skip ?_
    refine thA_n ?_
    refine PC.seq ?_
    refine PC.block ?_
    refine PC.seq ?_
    obtain ⟨x44, h_45, hh1⟩ := bind_some hh1
    obtain ⟨r46, h_47, hh1⟩ := bind_some hh1
    refine PC.any (id := 12) 11 (.seg [0, 1, 2, 3, 4, 5, 6, 7, 8, 9, 10] .done) [] rfl (by kernel_rfl) rfl ?_
    refine PT.seg ?_
    refine PR.op rfl (Rd.loadBox rfl rfl rfl) ?_
    refine PR.op rfl (Rd.moveO rfl) ?_
    refine PR.op rfl (Rd.moveT rfl) ?_
    refine PR.op rfl (Rd.ixOM rfl rfl rfl (ixI_lt h_45)) ?_
    refine PR.op rfl (Rd.owMR rfl rfl h_45 rfl rfl) ?_
    refine PR.callM false [] (w_I_HeapGet N r2.1 x44 r46 h_47) rfl Try.call44 rfl ⟨.aggL ⟨.t _, trivial⟩, .aggL ⟨.t _, .t _, trivial⟩, trivial⟩ rfl trivial (fun h => by cases h) rfl ?_
    refine PR.op rfl (Rd.moveU rfl) ?_
    refine PR.op rfl (Rd.extract rfl rfl) ?_
    refine PR.op rfl (Rd.extract rfl rfl) ?_
    refine PR.op rfl (Rd.asnT rfl) ?_
    refine PR.op rfl (Rd.asnT rfl) ?_
    refine PR.nil ?_
    refine PT.done ?_
    refine PL.nil ?_
    refine thA_n ?_
    refine PC.seq ?_
    obtain ⟨r48, h_49, hh1⟩ := bind_some hh1
    refine PC.any (id := 13) 11 (.seg [0, 1, 2, 3, 4, 5, 6, 7, 8, 9, 10] .done) [] rfl (by kernel_rfl) rfl ?_
    refine PT.seg ?_
    refine PR.op rfl (Rd.loadBox rfl rfl rfl) ?_
    refine PR.op rfl (Rd.moveO rfl) ?_
    refine PR.op rfl (Rd.moveT rfl) ?_
    refine PR.op rfl (Rd.ixOM rfl rfl rfl (ixI_lt h_45)) ?_
    refine PR.op rfl (Rd.owMR rfl rfl h_45 rfl rfl) ?_
    refine PR.callM true [] (w_I_HeapGet N r4.1 x44 r48 h_49) rfl Try.call44 rfl ⟨.aggL ⟨.own rfl (by first | decide | exact List.not_mem_nil) rfl rfl, trivial⟩, .aggL ⟨.t _, .t _, trivial⟩, trivial⟩ rfl trivial (fun _ => ⟨⟨trivial, trivial, trivial⟩, flat_nil⟩) rfl ?_
    refine PR.op rfl (Rd.moveU rfl) ?_
    refine PR.op rfl (Rd.extract rfl rfl) ?_
    refine PR.op rfl (Rd.extract rfl rfl) ?_
    refine PR.op rfl (Rd.asnT rfl) ?_
    refine PR.op rfl (Rd.asnT rfl) ?_
    refine PR.nil ?_
    refine PT.done ?_
    refine PL.nil ?_
    refine thA_n ?_
    refine PC.seq ?_
    rcases cond_some hh1 with ⟨h_50, hh1⟩ | ⟨h_50, hh1⟩
    · refine PC.any (id := 14) 19 (.seg [0, 1, 2, 3, 4, 5, 6, 7, 8, 9, 10, 11, 12, 13, 14, 15, 16, 17, 18] .done) [] rfl (by kernel_rfl) rfl ?_
      refine PT.seg ?_
      refine PR.op rfl (Rd.moveO rfl) ?_
      refine PR.op rfl (Rd.moveT rfl) ?_
      refine PR.op rfl (Rd.ixOM rfl rfl rfl (ixI_lt h_45)) ?_
      refine PR.op rfl (Rd.owMR rfl rfl h_45 rfl rfl) ?_
      refine PR.op rfl (Rd.loadBox rfl rfl rfl) ?_
      refine PR.op rfl (Rd.neqE (a := x44) (b := r2.2.1) rfl rfl rfl rfl) ?_
      refine PR.op rfl (Rd.moveT rfl) ?_
      refine PR.guard_off rfl rfl (not_t h_50) ?_
      refine PR.guard_off rfl rfl (not_t h_50) ?_
      refine PR.guard_off rfl rfl (not_t h_50) ?_
      refine PR.guard_un rfl rfl ?_
      refine PR.guard_un rfl rfl ?_
      refine PR.guard_off rfl rfl (not_t h_50) ?_
      refine PR.guard_off rfl rfl (not_t h_50) ?_
      refine PR.guard_un rfl rfl ?_
      refine PR.guard_un rfl rfl ?_
      refine PR.guard_un rfl rfl ?_
      refine PR.guard_off rfl rfl (not_t h_50) ?_
      refine PR.op rfl (Rd.pick_f rfl (not_t h_50)) ?_
      refine PR.nil ?_
      refine PT.done ?_
      refine PL.nil ?_
      refine thA_n ?_
      refine PC.cond_false rfl rfl ?_
      refine PC.skip ?_
      refine inA_n ?_
      refine thA_n ?_
      obtain ⟨n53, h_54, hh1⟩ := bind_some hh1
      refine PC.region ?_
      refine PL.op rfl (Rd.moveT rfl) ?_
      refine PL.op rfl (Rd.addM rfl rfl h_54) ?_
      refine PL.op rfl (Rd.asnT rfl) ?_
      refine PL.nil ?_
      obtain rfl := some_in hh1
      refine thA_n ?_
      exact ⟨(f34, n53), Nat.lt_succ_self _, kk1, [some 0, some 1, some 2, some 3, some 4, some 5], ⟨rfl, rfl, ⟨⟨_, rfl, rfl, rfl, .mx ⟨.t _, trivial⟩⟩, ⟨_, rfl, rfl, rfl, .mx ⟨.t _, .t _, trivial⟩⟩, ⟨_, rfl, rfl, rfl, .mx ⟨.os rfl, trivial⟩⟩, ⟨_, rfl, rfl, rfl, .tr _⟩, ⟨_, rfl, rfl, rfl, .mx ⟨.t _, .t _, trivial⟩⟩, ⟨_, rfl, rfl, rfl, .tr _⟩, trivial⟩, ⟨.op rfl, .op rfl, .t _, .op rfl, .op rfl, .os rfl, .t _, trivial⟩⟩⟩
    rcases cond_some hh1 with ⟨h_51, hh1⟩ | ⟨h_51, hh1⟩
    rotate_left
    · refine PC.any (id := 14) 19 (.seg [0, 1, 2, 3, 4, 5, 6, 7, 8, 9, 10, 11, 12, 13, 14, 15, 16, 17, 18] .done) [] rfl (by kernel_rfl) rfl ?_
      refine PT.seg ?_
      refine PR.op rfl (Rd.moveO rfl) ?_
      refine PR.op rfl (Rd.moveT rfl) ?_
      refine PR.op rfl (Rd.ixOM rfl rfl rfl (ixI_lt h_45)) ?_
      refine PR.op rfl (Rd.owMR rfl rfl h_45 rfl rfl) ?_
      refine PR.op rfl (Rd.loadBox rfl rfl rfl) ?_
      refine PR.op rfl (Rd.neqE (a := x44) (b := r2.2.1) rfl rfl rfl rfl) ?_
      refine PR.op rfl (Rd.moveT rfl) ?_
      refine PR.guard_on rfl rfl (not_f h_50) ?_
      refine PR.op rfl (Rd.moveT rfl) ?_
      refine PR.guard_on rfl rfl (not_f h_50) ?_
      refine PR.op rfl (Rd.unnot rfl) ?_
      refine PR.guard_on rfl rfl (not_f h_50) ?_
      refine PR.op rfl (Rd.moveT rfl) ?_
      refine PR.guard_off rfl rfl (not_f h_51) ?_
      refine PR.guard_off rfl rfl (not_f h_51) ?_
      refine PR.guard_on rfl rfl (not_f h_50) ?_
      refine PR.op rfl (Rd.pick_t rfl (not_f h_51)) ?_
      refine PR.guard_on rfl rfl (not_f h_50) ?_
      refine PR.op rfl (Rd.moveT rfl) ?_
      refine PR.guard_off rfl rfl rfl ?_
      refine PR.guard_off rfl rfl rfl ?_
      refine PR.guard_off rfl rfl rfl ?_
      refine PR.guard_on rfl rfl (not_f h_50) ?_
      refine PR.op rfl (Rd.pick_t rfl rfl) ?_
      refine PR.op rfl (Rd.pick_t rfl (not_f h_50)) ?_
      refine PR.nil ?_
      refine PT.done ?_
      refine PL.nil ?_
      refine thA_n ?_
      refine PC.cond_true rfl rfl ?_
      refine PC.seq ?_
      refine PC.region ?_
      refine PL.op rfl (Rd.asnT rfl) ?_
      refine PL.nil ?_
      refine thA_n ?_
      refine PC.ret ?_
      refine inA_r ?_
      refine thA_r ?_
      refine thA_r ?_
      refine inA_r ?_
      refine thA_r ?_
      obtain rfl := some_in hh1
      obtain rfl : (.inr false : Unit ⊕ Bool) = o32 := kk1
      refine thA_r ?_
      obtain rfl := some_in hh0
      exact FinA.mk (r := bA false) (bl := []) [] (.inl rfl) rfl (rl := [.tmp 2]) (.tmp .nil) rfl rfl rfl (.t _) trivial ⟨rfl, rfl⟩
    rcases cond_some hh1 with ⟨h_52, hh1⟩ | ⟨h_52, hh1⟩
    rotate_left
    · refine PC.any (id := 14) 19 (.seg [0, 1, 2, 3, 4, 5, 6, 7, 8, 9, 10, 11, 12, 13, 14, 15, 16, 17, 18] .done) [] rfl (by kernel_rfl) rfl ?_
      refine PT.seg ?_
      refine PR.op rfl (Rd.moveO rfl) ?_
      refine PR.op rfl (Rd.moveT rfl) ?_
      refine PR.op rfl (Rd.ixOM rfl rfl rfl (ixI_lt h_45)) ?_
      refine PR.op rfl (Rd.owMR rfl rfl h_45 rfl rfl) ?_
      refine PR.op rfl (Rd.loadBox rfl rfl rfl) ?_
      refine PR.op rfl (Rd.neqE (a := x44) (b := r2.2.1) rfl rfl rfl rfl) ?_
      refine PR.op rfl (Rd.moveT rfl) ?_
      refine PR.guard_on rfl rfl (not_f h_50) ?_
      refine PR.op rfl (Rd.moveT rfl) ?_
      refine PR.guard_on rfl rfl (not_f h_50) ?_
      refine PR.op rfl (Rd.unnot rfl) ?_
      refine PR.guard_on rfl rfl (not_f h_50) ?_
      refine PR.op rfl (Rd.moveT rfl) ?_
      refine PR.guard_on rfl rfl (not_t h_51) ?_
      refine PR.op rfl (Rd.moveT rfl) ?_
      refine PR.guard_on rfl rfl (not_t h_51) ?_
      refine PR.op rfl (Rd.unnot rfl) ?_
      refine PR.guard_on rfl rfl (not_f h_50) ?_
      refine PR.op rfl (Rd.pick_f rfl (not_t h_51)) ?_
      refine PR.guard_on rfl rfl (not_f h_50) ?_
      refine PR.op rfl (Rd.moveT rfl) ?_
      refine PR.guard_off rfl rfl (not_f h_52) ?_
      refine PR.guard_off rfl rfl (not_f h_52) ?_
      refine PR.guard_off rfl rfl (not_f h_52) ?_
      refine PR.guard_on rfl rfl (not_f h_50) ?_
      refine PR.op rfl (Rd.pick_t rfl (not_f h_52)) ?_
      refine PR.op rfl (Rd.pick_t rfl (not_f h_50)) ?_
      refine PR.nil ?_
      refine PT.done ?_
      refine PL.nil ?_
      refine thA_n ?_
      refine PC.cond_true rfl rfl ?_
      refine PC.seq ?_
      refine PC.region ?_
      refine PL.op rfl (Rd.asnT rfl) ?_
      refine PL.nil ?_
      refine thA_n ?_
      refine PC.ret ?_
      refine inA_r ?_
      refine thA_r ?_
      refine thA_r ?_
      refine inA_r ?_
      refine thA_r ?_
      obtain rfl := some_in hh1
      obtain rfl : (.inr false : Unit ⊕ Bool) = o32 := kk1
      refine thA_r ?_
      obtain rfl := some_in hh0
      exact FinA.mk (r := bA false) (bl := []) [] (.inl rfl) rfl (rl := [.tmp 2]) (.tmp .nil) rfl rfl rfl (.t _) trivial ⟨rfl, rfl⟩
    refine PC.any (id := 14) 19 (.seg [0, 1, 2, 3, 4, 5, 6, 7, 8, 9, 10, 11, 12, 13, 14, 15, 16, 17, 18] .done) [] rfl (by kernel_rfl) rfl ?_
    refine PT.seg ?_
    refine PR.op rfl (Rd.moveO rfl) ?_
    refine PR.op rfl (Rd.moveT rfl) ?_
    refine PR.op rfl (Rd.ixOM rfl rfl rfl (ixI_lt h_45)) ?_
    refine PR.op rfl (Rd.owMR rfl rfl h_45 rfl rfl) ?_
    refine PR.op rfl (Rd.loadBox rfl rfl rfl) ?_
    refine PR.op rfl (Rd.neqE (a := x44) (b := r2.2.1) rfl rfl rfl rfl) ?_
    refine PR.op rfl (Rd.moveT rfl) ?_
    refine PR.guard_on rfl rfl (not_f h_50) ?_
    refine PR.op rfl (Rd.moveT rfl) ?_
    refine PR.guard_on rfl rfl (not_f h_50) ?_
    refine PR.op rfl (Rd.unnot rfl) ?_
    refine PR.guard_on rfl rfl (not_f h_50) ?_
    refine PR.op rfl (Rd.moveT rfl) ?_
    refine PR.guard_on rfl rfl (not_t h_51) ?_
    refine PR.op rfl (Rd.moveT rfl) ?_
    refine PR.guard_on rfl rfl (not_t h_51) ?_
    refine PR.op rfl (Rd.unnot rfl) ?_
    refine PR.guard_on rfl rfl (not_f h_50) ?_
    refine PR.op rfl (Rd.pick_f rfl (not_t h_51)) ?_
    refine PR.guard_on rfl rfl (not_f h_50) ?_
    refine PR.op rfl (Rd.moveT rfl) ?_
    refine PR.guard_on rfl rfl (not_t h_52) ?_
    refine PR.op rfl (Rd.moveT rfl) ?_
    refine PR.guard_on rfl rfl (not_t h_52) ?_
    refine PR.op rfl (Rd.moveT rfl) ?_
    refine PR.guard_on rfl rfl (not_t h_52) ?_
    refine PR.op rfl (Rd.neqS rfl rfl) ?_
    refine PR.guard_on rfl rfl (not_f h_50) ?_
    refine PR.op rfl (Rd.pick_f rfl (not_t h_52)) ?_
    refine PR.op rfl (Rd.pick_t rfl (not_f h_50)) ?_
    refine PR.nil ?_
    refine PT.done ?_
    refine PL.nil ?_
    refine thA_n ?_
    rcases cond_some hh1 with ⟨h_55, hh1⟩ | ⟨h_55, hh1⟩
    rotate_left
    · refine PC.cond_true rfl (not_f h_55) ?_
      refine PC.seq ?_
      refine PC.region ?_
      refine PL.op rfl (Rd.asnT rfl) ?_
      refine PL.nil ?_
      refine thA_n ?_
      refine PC.ret ?_
      refine inA_r ?_
      refine thA_r ?_
      refine thA_r ?_
      refine inA_r ?_
      refine thA_r ?_
      obtain rfl := some_in hh1
      obtain rfl : (.inr false : Unit ⊕ Bool) = o32 := kk1
      refine thA_r ?_
      obtain rfl := some_in hh0
      exact FinA.mk (r := bA false) (bl := []) [] (.inl rfl) rfl (rl := [.tmp 2]) (.tmp .nil) rfl rfl rfl (.t _) trivial ⟨rfl, rfl⟩
    refine PC.cond_false rfl (not_t h_55) ?_
    refine PC.skip ?_
    refine inA_n ?_
    refine thA_n ?_
    obtain ⟨n56, h_57, hh1⟩ := bind_some hh1
    refine PC.region ?_
    refine PL.op rfl (Rd.moveT rfl) ?_
    refine PL.op rfl (Rd.addM rfl rfl h_57) ?_
    refine PL.op rfl (Rd.asnT rfl) ?_
    refine PL.nil ?_
    obtain rfl := some_in hh1
    refine thA_n ?_
    exact ⟨(f34, n56), Nat.lt_succ_self _, kk1, [some 0, some 1, some 2, some 3, some 4, some 5], ⟨rfl, rfl, ⟨⟨_, rfl, rfl, rfl, .mx ⟨.t _, trivial⟩⟩, ⟨_, rfl, rfl, rfl, .mx ⟨.t _, .t _, trivial⟩⟩, ⟨_, rfl, rfl, rfl, .mx ⟨.os rfl, trivial⟩⟩, ⟨_, rfl, rfl, rfl, .tr _⟩, ⟨_, rfl, rfl, rfl, .mx ⟨.t _, .t _, trivial⟩⟩, ⟨_, rfl, rfl, rfl, .tr _⟩, trivial⟩, ⟨.op rfl, .op rfl, .t _, .op rfl, .op rfl, .os rfl, .t _, trivial⟩⟩⟩
  clear hh0
  rintro ⟨⟩ hh0
  replace hh0 : m_L_FnHeapUpdate_k1 N r2 r4 r14  = some r := hh0
  unfold m_L_FnHeapUpdate_k1 at hh0
  refine thA_n ?_
  refine PC.seq ?_
  obtain ⟨r37, h_38, hh0⟩ := bind_some hh0
  refine PC.region ?_
  refine PL.op rfl (Rd.loadBox rfl rfl rfl) ?_
  refine PL.op rfl (Rd.loadBox rfl rfl rfl) ?_
  refine PL.callM true [] (w_I_HeapGet N r4.1 r4.2.1 r37 h_38) rfl Try.call44 rfl ⟨.aggL ⟨.own rfl (by first | decide | exact List.not_mem_nil) rfl rfl, trivial⟩, .aggL ⟨.t _, .t _, trivial⟩, trivial⟩ rfl trivial (fun _ => ⟨⟨trivial, trivial, trivial⟩, flat_nil⟩) ?_
  refine PL.op rfl (Rd.moveU rfl) ?_
  refine PL.op rfl (Rd.extract rfl rfl) ?_
  refine PL.op rfl (Rd.extract rfl rfl) ?_
  refine PL.op rfl (Rd.asnT rfl) ?_
  refine PL.op rfl (Rd.asnT rfl) ?_
  refine PL.nil ?_
  refine thA_n ?_
  refine PC.seq ?_
  rcases cond_some hh0 with ⟨h_39, hh0⟩ | ⟨h_39, hh0⟩
  rotate_left
  · refine PC.region ?_
    refine PL.op rfl (Rd.moveT rfl) ?_
    refine PL.op rfl (Rd.moveT rfl) ?_
    refine PL.guard_off rfl rfl h_39 ?_
    refine PL.guard_off rfl rfl h_39 ?_
    refine PL.guard_off rfl rfl h_39 ?_
    refine PL.op rfl (Rd.pick_f rfl h_39) ?_
    refine PL.op rfl (Rd.moveT rfl) ?_
    refine PL.guard_off rfl rfl rfl ?_
    refine PL.guard_off rfl rfl rfl ?_
    refine PL.guard_off rfl rfl rfl ?_
    refine PL.guard_off rfl rfl rfl ?_
    refine PL.guard_off rfl rfl rfl ?_
    refine PL.guard_off rfl rfl rfl ?_
    refine PL.op rfl (Rd.pick_f rfl rfl) ?_
    refine PL.op rfl (Rd.asnT rfl) ?_
    refine PL.nil ?_
    refine thA_n ?_
    refine PC.ret ?_
    obtain rfl := some_in hh0
    exact FinA.mk (r := bA false) (bl := []) [] (.inl rfl) rfl (rl := [.tmp 2]) (.tmp .nil) rfl rfl rfl (.t _) trivial ⟨rfl, rfl⟩
  rcases cond_some hh0 with ⟨h_40, hh0⟩ | ⟨h_40, hh0⟩
  rotate_left
  · refine PC.region ?_
    refine PL.op rfl (Rd.moveT rfl) ?_
    refine PL.op rfl (Rd.moveT rfl) ?_
    refine PL.guard_on rfl h_39 ?_
    refine PL.op rfl (Rd.moveT rfl) ?_
    refine PL.guard_on rfl h_39 ?_
    refine PL.op rfl (Rd.moveT rfl) ?_
    refine PL.guard_on rfl h_39 ?_
    refine PL.op rfl (Rd.eqlS rfl rfl) ?_
    refine PL.op rfl (Rd.pick_t rfl h_39) ?_
    refine PL.op rfl (Rd.moveT rfl) ?_
    refine PL.guard_off rfl rfl h_40 ?_
    refine PL.guard_off rfl rfl h_40 ?_
    refine PL.guard_off rfl rfl h_40 ?_
    refine PL.guard_off rfl rfl h_40 ?_
    refine PL.guard_off rfl rfl h_40 ?_
    refine PL.guard_off rfl rfl h_40 ?_
    refine PL.op rfl (Rd.pick_f rfl h_40) ?_
    refine PL.op rfl (Rd.asnT rfl) ?_
    refine PL.nil ?_
    refine thA_n ?_
    refine PC.ret ?_
    obtain rfl := some_in hh0
    exact FinA.mk (r := bA false) (bl := []) [] (.inl rfl) rfl (rl := [.tmp 2]) (.tmp .nil) rfl rfl rfl (.t _) trivial ⟨rfl, rfl⟩
  obtain ⟨r41, h_42, hh0⟩ := bind_some hh0
  refine PC.region ?_
  refine PL.op rfl (Rd.moveT rfl) ?_
  refine PL.op rfl (Rd.moveT rfl) ?_
  refine PL.guard_on rfl h_39 ?_
  refine PL.op rfl (Rd.moveT rfl) ?_
  refine PL.guard_on rfl h_39 ?_
  refine PL.op rfl (Rd.moveT rfl) ?_
  refine PL.guard_on rfl h_39 ?_
  refine PL.op rfl (Rd.eqlS rfl rfl) ?_
  refine PL.op rfl (Rd.pick_t rfl h_39) ?_
  refine PL.op rfl (Rd.moveT rfl) ?_
  refine PL.guard_on rfl h_40 ?_
  refine PL.op rfl (Rd.loadBox rfl rfl rfl) ?_
  refine PL.guard_on rfl h_40 ?_
  refine PL.callM true [] (w_I_HeapScan N r4.1 r41 h_42) rfl Try.call43 rfl ⟨.aggL ⟨.own rfl (by first | decide | exact List.not_mem_nil) rfl rfl, trivial⟩, trivial⟩ rfl trivial (fun _ => ⟨trivial, (flat_cons flat_ow flat_nil)⟩) ?_
  refine PL.nm (.os 4 0 r41.length) [some ⟨.mx [.os 1 0 r4.1.pages.length], 58, 0⟩, some ⟨.tr (eL r4.1.pages), 25, 1⟩, some ⟨.mx [iA r4.2.1.page, iA r4.2.1.slot], 62, 0⟩, some ⟨.tr (eL r14), 62, 2⟩, some ⟨.tr (eL r41), 62, 2⟩] rfl rfl ?_
  refine PL.guard_on rfl h_40 ?_
  refine PL.op rfl (Rd.lenO rfl rfl) ?_
  refine PL.guard_on rfl h_40 ?_
  refine PL.op rfl (Rd.moveO rfl) ?_
  refine PL.guard_on rfl h_40 ?_
  refine PL.op rfl (Rd.lenO rfl rfl) ?_
  refine PL.guard_on rfl h_40 ?_
  refine PL.op rfl (Rd.eql rfl rfl) ?_
  refine PL.op rfl (Rd.pick_t rfl h_40) ?_
  refine PL.op rfl (Rd.asnT rfl) ?_
  refine PL.nil ?_
  refine thA_n ?_
  refine PC.ret ?_
  obtain rfl := some_in hh0
  exact FinA.mk (r := bA (decide ((r41.length : Int) = (r14.length : Int)))) (bl := []) [] (.inl rfl) rfl (rl := [.tmp 2]) (.tmp .nil) rfl rfl rfl (.t _) trivial ⟨rfl, rfl⟩

end V
end Go.Proofs.Ytoljdhdfijnjiaa
