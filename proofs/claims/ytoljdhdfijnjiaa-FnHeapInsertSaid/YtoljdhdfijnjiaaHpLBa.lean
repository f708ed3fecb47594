/- Heaps: a law's function. No condition. -/
import Derived.Test.YtoljdhdfijnjiaaHpEa
namespace Go.Proofs.Ytoljdhdfijnjiaa
namespace V
open Enc (enc)
set_option linter.unusedVariables false
set_option linter.unusedSimpArgs false
set_option maxHeartbeats 4000000
set_option maxRecDepth 100000
open Go.RowKit
attribute [local irreducible] thA inA FinA eL

def m_L_FnHeapInsert_k1 (N : Nat) (r2 : (I_Heap × ByteArray)) (r4 : (I_Heap × I_Rid × Bool)) (r14 : ((List I_Rid))) : Option (Bool) :=
  (m_I_HeapGet N r4.1 r4.2.1).bind fun r35 =>
  cond r35.2
    (cond (r35.1.toList == r2.2.toList)
      ((m_I_HeapScan N r4.1).bind fun r39 =>
      (chk ((r14.length : Int) + (1 : Int))).bind fun n41 =>
      some (decide ((r39.length : Int) = n41)))
      (some false))
    (some false)
def m_L_FnHeapInsert_b1 (N : Nat) (r2 : (I_Heap × ByteArray)) (r4 : (I_Heap × I_Rid × Bool)) (r14 : ((List I_Rid))) (a16 : Int) : Option (Int ⊕ (Unit ⊕ Bool)) :=
  cond (decide (a16 < (r14.length : Int)))
    ((ixI r14 a16).bind fun x44 =>
    (m_I_HeapGet N r2.1 x44).bind fun r46 =>
    (m_I_HeapGet N r4.1 x44).bind fun r48 =>
    cond r46.2
      (cond r48.2
        (cond (r46.1.toList == r48.1.toList)
          (cond (decide (x44 = r4.2.1))
            (some (.inr (.inr false)))
            ((chk (a16 + (1 : Int))).bind fun n54 =>
            some (.inl n54)))
          (some (.inr (.inr false))))
        (some (.inr (.inr false))))
      (some (.inr (.inr false))))
    (some (.inr (.inl ())))
def m_L_FnHeapInsert (N : Nat) (p_code : (List UInt8)) : Option (Bool) :=
  cond (decide ((1048576 : Int) < (p_code.length : Int)))
    (some true)
    ((m_S_DrawHeapInsert N p_code).bind fun r2 =>
    (m_I_HeapInsert N r2.1 r2.2).bind fun r4 =>
    (m_S_HeapInsert N r2.1 r2.2).bind fun r6 =>
    (m_L_equalHeap N r4.1 r6.1).bind fun r8 =>
    cond r8
      (cond (decide (r4.2.1 = r6.2.1))
        (cond (r4.2.2 == r6.2.2)
          (cond r4.2.2
            ((m_I_HeapScan N r2.1).bind fun r14 =>
            (loopM (β := Unit ⊕ Bool) (fun s : Int => m_L_FnHeapInsert_b1 N r2 r4 r14 s) N (0 : Int)).bind fun o => match o with
            | .inl e =>
              m_L_FnHeapInsert_k1 N r2 r4 r14 
            | .inr v =>
              some v)
            ((m_L_equalHeap N r4.1 r6.1).bind fun r56 =>
            cond r56
              (some (r4.2.2 == r6.2.2))
              (some false)))
          ((m_L_equalHeap N r4.1 r6.1).bind fun r59 =>
          cond r59
            (some (r4.2.2 == r6.2.2))
            (some false)))
        ((m_L_equalHeap N r4.1 r6.1).bind fun r62 =>
        cond r62
          (some false)
          (some false)))
      ((m_L_equalHeap N r4.1 r6.1).bind fun r65 =>
      cond r65
        (cond (decide (r4.2.1 = r6.2.1))
          (some (r4.2.2 == r6.2.2))
          (some false))
        (some false)))
theorem w_L_FnHeapInsert (N : Nat) (p_code : (List UInt8)) (r : Bool) (hh0 : m_L_FnHeapInsert N p_code = some r) : FnX Try.prog 13 [] [sL p_code] (RE (bA r) []) := by
  unfold m_L_FnHeapInsert at hh0
  refine FnX.mk Try.func13 rfl rfl ?_
  intro s hs
  refine PC.seq ?_
  refine PC.region ?_
  refine PL.op rfl (Rd.asnT rfl) ?_
  refine PL.nil ?_
  refine thA_n ?_
  refine PC.seq ?_
  refine PC.seq ?_
  refine PC.region ?_
  refine PL.op rfl (Rd.moveT rfl) ?_
  refine PL.op rfl (Rd.lenT rfl) ?_
  refine PL.op rfl (Rd.gtr rfl rfl) ?_
  refine PL.nil ?_
  refine thA_n ?_
  rcases cond_some hh0 with ⟨h_1, hh0⟩ | ⟨h_1, hh0⟩
  · refine PC.cond_true rfl h_1 ?_
    refine PC.seq ?_
    refine PC.region ?_
    refine PL.op rfl (Rd.asnT rfl) ?_
    refine PL.nil ?_
    refine thA_n ?_
    refine PC.ret ?_
    refine thA_r ?_
    obtain rfl := some_in hh0
    exact FinA.mk (r := bA true) (bl := []) [] (.inl rfl) rfl (rl := [.tmp 2]) (.tmp .nil) rfl rfl rfl (.t _) trivial ⟨rfl, rfl⟩
  refine PC.cond_false rfl h_1 ?_
  refine PC.skip ?_
  refine thA_n ?_
  refine PC.seq ?_
  obtain ⟨r2, h_3, hh0⟩ := bind_some hh0
  refine PC.region ?_
  refine PL.op rfl (Rd.moveT rfl) ?_
  refine PL.callM false [] (w_S_DrawHeapInsert N p_code r2 h_3) rfl Try.call39 rfl ⟨.t _, trivial⟩ rfl trivial (fun h => by cases h) ?_
  refine PL.nm (.tup [.agg [.os 0 0 r2.1.pages.length], sA r2.2]) [some ⟨.tr (eL r2.1.pages), 25, 1⟩] rfl rfl ?_
  refine PL.op rfl (Rd.moveU rfl) ?_
  refine PL.op rfl (Rd.extract rfl rfl) ?_
  refine PL.op rfl (Rd.extract rfl rfl) ?_
  refine PL.ef rfl (Ef.alloc rfl rfl) ?_
  refine PL.nm (.op 1 0) [some ⟨.tr (eL r2.1.pages), 25, 1⟩, some ⟨.mx [.t (.v (.slice none 0 0))], 58, 0⟩] rfl rfl ?_
  refine PL.store rfl rfl rfl rfl rfl rfl rfl ?_
  refine PL.nO [some ⟨.tr (eL r2.1.pages), 25, 1⟩, some ⟨.mx [.os 0 0 r2.1.pages.length], 58, 0⟩] rfl ?_
  refine PL.op rfl (Rd.asnT rfl) ?_
  refine PL.nil ?_
  refine thA_n ?_
  refine PC.seq ?_
  obtain ⟨r4, h_5, hh0⟩ := bind_some hh0
  refine PC.region ?_
  refine PL.op rfl (Rd.loadBox rfl rfl rfl) ?_
  refine PL.op rfl (Rd.moveT rfl) ?_
  refine PL.frz hs 0 2 [(24, .tup [.agg [sL r2.1.pages], sA r2.2]), (22, .tup [.agg [sL r2.1.pages], sA r2.2]), (25, .agg [sL r2.1.pages]), (28, .agg [sL r2.1.pages])] [none, some ⟨.mx [sL r2.1.pages], 58, 0⟩] rfl rfl ⟨(.tupL ⟨(.aggL ⟨(.own rfl (by decide) rfl rfl), trivial⟩), (.t _), trivial⟩), (.tupL ⟨(.aggL ⟨(.own rfl (by decide) rfl rfl), trivial⟩), (.t _), trivial⟩), (.aggL ⟨(.own rfl (by decide) rfl rfl), trivial⟩), (.aggL ⟨(.own rfl (by decide) rfl rfl), trivial⟩), trivial⟩ ⟨⟨rfl, .inr ⟨_, rfl, rfl, rfl, .mx ⟨(.own rfl (by decide) rfl rfl), trivial⟩⟩⟩, trivial⟩ ?_
  refine PL.callM false [] (w_I_HeapInsert N r2.1 r2.2 r4 h_5) rfl Try.call40 rfl ⟨.aggL ⟨.t _, trivial⟩, .t _, trivial⟩ rfl trivial (fun h => by cases h) ?_
  refine PL.nm (.tup [.agg [.os 2 0 r4.1.pages.length], .agg [iA r4.2.1.page, iA r4.2.1.slot], bA r4.2.2]) [none, some ⟨.mx [sL r2.1.pages], 58, 0⟩, some ⟨.tr (eL r4.1.pages), 25, 1⟩] rfl rfl ?_
  refine PL.op rfl (Rd.moveU rfl) ?_
  refine PL.op rfl (Rd.extract rfl rfl) ?_
  refine PL.op rfl (Rd.extract rfl rfl) ?_
  refine PL.op rfl (Rd.extract rfl rfl) ?_
  refine PL.ef rfl (Ef.alloc rfl rfl) ?_
  refine PL.nm (.op 3 0) [none, some ⟨.mx [sL r2.1.pages], 58, 0⟩, some ⟨.tr (eL r4.1.pages), 25, 1⟩, some ⟨.mx [.t (.v (.slice none 0 0))], 58, 0⟩] rfl rfl ?_
  refine PL.ef rfl (Ef.alloc rfl rfl) ?_
  refine PL.nm (.op 4 0) [none, some ⟨.mx [sL r2.1.pages], 58, 0⟩, some ⟨.tr (eL r4.1.pages), 25, 1⟩, some ⟨.mx [.t (.v (.slice none 0 0))], 58, 0⟩, some ⟨.mx [iA (0 : Int), iA (0 : Int)], 62, 0⟩] rfl rfl ?_
  refine PL.store rfl rfl rfl rfl rfl rfl rfl ?_
  refine PL.nO [none, some ⟨.mx [sL r2.1.pages], 58, 0⟩, some ⟨.tr (eL r4.1.pages), 25, 1⟩, some ⟨.mx [.os 2 0 r4.1.pages.length], 58, 0⟩, some ⟨.mx [iA (0 : Int), iA (0 : Int)], 62, 0⟩] rfl ?_
  refine PL.store rfl rfl rfl rfl rfl rfl rfl ?_
  refine PL.nO [none, some ⟨.mx [sL r2.1.pages], 58, 0⟩, some ⟨.tr (eL r4.1.pages), 25, 1⟩, some ⟨.mx [.os 2 0 r4.1.pages.length], 58, 0⟩, some ⟨.mx [iA r4.2.1.page, iA r4.2.1.slot], 62, 0⟩] rfl ?_
  refine PL.op rfl (Rd.asnT rfl) ?_
  refine PL.nil ?_
  refine thA_n ?_
  refine PC.seq ?_
  obtain ⟨r6, h_7, hh0⟩ := bind_some hh0
  refine PC.region ?_
  refine PL.op rfl (Rd.loadBox rfl rfl rfl) ?_
  refine PL.op rfl (Rd.moveT rfl) ?_
  refine PL.callM false [] (w_S_HeapInsert N r2.1 r2.2 r6 h_7) rfl Try.call41 rfl ⟨.aggL ⟨.t _, trivial⟩, .t _, trivial⟩ rfl trivial (fun h => by cases h) ?_
  refine PL.nm (.tup [.agg [.os 5 0 r6.1.pages.length], .agg [iA r6.2.1.page, iA r6.2.1.slot], bA r6.2.2]) [none, some ⟨.mx [sL r2.1.pages], 58, 0⟩, some ⟨.tr (eL r4.1.pages), 25, 1⟩, some ⟨.mx [.os 2 0 r4.1.pages.length], 58, 0⟩, some ⟨.mx [iA r4.2.1.page, iA r4.2.1.slot], 62, 0⟩, some ⟨.tr (eL r6.1.pages), 25, 1⟩] rfl rfl ?_
  refine PL.op rfl (Rd.moveU rfl) ?_
  refine PL.op rfl (Rd.extract rfl rfl) ?_
  refine PL.op rfl (Rd.extract rfl rfl) ?_
  refine PL.op rfl (Rd.extract rfl rfl) ?_
  refine PL.ef rfl (Ef.alloc rfl rfl) ?_
  refine PL.nm (.op 6 0) [none, some ⟨.mx [sL r2.1.pages], 58, 0⟩, some ⟨.tr (eL r4.1.pages), 25, 1⟩, some ⟨.mx [.os 2 0 r4.1.pages.length], 58, 0⟩, some ⟨.mx [iA r4.2.1.page, iA r4.2.1.slot], 62, 0⟩, some ⟨.tr (eL r6.1.pages), 25, 1⟩, some ⟨.mx [.t (.v (.slice none 0 0))], 58, 0⟩] rfl rfl ?_
  refine PL.ef rfl (Ef.alloc rfl rfl) ?_
  refine PL.nm (.op 7 0) [none, some ⟨.mx [sL r2.1.pages], 58, 0⟩, some ⟨.tr (eL r4.1.pages), 25, 1⟩, some ⟨.mx [.os 2 0 r4.1.pages.length], 58, 0⟩, some ⟨.mx [iA r4.2.1.page, iA r4.2.1.slot], 62, 0⟩, some ⟨.tr (eL r6.1.pages), 25, 1⟩, some ⟨.mx [.t (.v (.slice none 0 0))], 58, 0⟩, some ⟨.mx [iA (0 : Int), iA (0 : Int)], 62, 0⟩] rfl rfl ?_
  refine PL.store rfl rfl rfl rfl rfl rfl rfl ?_
  refine PL.nO [none, some ⟨.mx [sL r2.1.pages], 58, 0⟩, some ⟨.tr (eL r4.1.pages), 25, 1⟩, some ⟨.mx [.os 2 0 r4.1.pages.length], 58, 0⟩, some ⟨.mx [iA r4.2.1.page, iA r4.2.1.slot], 62, 0⟩, some ⟨.tr (eL r6.1.pages), 25, 1⟩, some ⟨.mx [.os 5 0 r6.1.pages.length], 58, 0⟩, some ⟨.mx [iA (0 : Int), iA (0 : Int)], 62, 0⟩] rfl ?_
  refine PL.store rfl rfl rfl rfl rfl rfl rfl ?_
  refine PL.nO [none, some ⟨.mx [sL r2.1.pages], 58, 0⟩, some ⟨.tr (eL r4.1.pages), 25, 1⟩, some ⟨.mx [.os 2 0 r4.1.pages.length], 58, 0⟩, some ⟨.mx [iA r4.2.1.page, iA r4.2.1.slot], 62, 0⟩, some ⟨.tr (eL r6.1.pages), 25, 1⟩, some ⟨.mx [.os 5 0 r6.1.pages.length], 58, 0⟩, some ⟨.mx [iA r6.2.1.page, iA r6.2.1.slot], 62, 0⟩] rfl ?_
  refine PL.op rfl (Rd.asnT rfl) ?_
  refine PL.nil ?_
  refine thA_n ?_
  refine PC.seq ?_
  refine PC.seq ?_
  obtain ⟨r8, h_9, hh0⟩ := bind_some hh0
  rcases cond_some hh0 with ⟨h_10, hh0⟩ | ⟨h_10, hh0⟩
  rotate_left
  · refine PC.region ?_
    refine PL.op rfl (Rd.loadBox rfl rfl rfl) ?_
    refine PL.op rfl (Rd.loadBox rfl rfl rfl) ?_
    refine PL.callM true [] (w_L_equalHeap N r4.1 r6.1 r8 h_9) rfl Try.call42 rfl ⟨.aggL ⟨.own rfl (by first | decide | exact List.not_mem_nil) rfl rfl, trivial⟩, .aggL ⟨.own rfl (by first | decide | exact List.not_mem_nil) rfl rfl, trivial⟩, trivial⟩ rfl trivial (fun _ => ⟨trivial, flat_nil⟩) ?_
    refine PL.op rfl (Rd.unnot rfl) ?_
    refine PL.op rfl (Rd.moveT rfl) ?_
    refine PL.guard_off rfl rfl (not_f h_10) ?_
    refine PL.guard_off rfl rfl (not_f h_10) ?_
    refine PL.guard_off rfl rfl (not_f h_10) ?_
    refine PL.op rfl (Rd.pick_t rfl (not_f h_10)) ?_
    refine PL.op rfl (Rd.moveT rfl) ?_
    refine PL.guard_off rfl rfl rfl ?_
    refine PL.guard_off rfl rfl rfl ?_
    refine PL.guard_off rfl rfl rfl ?_
    refine PL.op rfl (Rd.pick_t rfl rfl) ?_
    refine PL.op rfl (Rd.moveT rfl) ?_
    refine PL.guard_off rfl rfl rfl ?_
    refine PL.guard_off rfl rfl rfl ?_
    refine PL.op rfl (Rd.pick_t rfl rfl) ?_
    refine PL.nil ?_
    refine thA_n ?_
    refine PC.cond_true rfl rfl ?_
    refine PC.seq ?_
    obtain ⟨r65, h_66, hh0⟩ := bind_some hh0
    rcases cond_some hh0 with ⟨h_67, hh0⟩ | ⟨h_67, hh0⟩
    rotate_left
    · refine PC.region ?_
      refine PL.op rfl (Rd.loadBox rfl rfl rfl) ?_
      refine PL.op rfl (Rd.loadBox rfl rfl rfl) ?_
      refine PL.callM true [] (w_L_equalHeap N r4.1 r6.1 r65 h_66) rfl Try.call42 rfl ⟨.aggL ⟨.own rfl (by first | decide | exact List.not_mem_nil) rfl rfl, trivial⟩, .aggL ⟨.own rfl (by first | decide | exact List.not_mem_nil) rfl rfl, trivial⟩, trivial⟩ rfl trivial (fun _ => ⟨trivial, flat_nil⟩) ?_
      refine PL.op rfl (Rd.moveT rfl) ?_
      refine PL.guard_off rfl rfl h_67 ?_
      refine PL.guard_off rfl rfl h_67 ?_
      refine PL.guard_off rfl rfl h_67 ?_
      refine PL.op rfl (Rd.pick_f rfl h_67) ?_
      refine PL.op rfl (Rd.moveT rfl) ?_
      refine PL.guard_off rfl rfl rfl ?_
      refine PL.guard_off rfl rfl rfl ?_
      refine PL.guard_off rfl rfl rfl ?_
      refine PL.op rfl (Rd.pick_f rfl rfl) ?_
      refine PL.op rfl (Rd.asnT rfl) ?_
      refine PL.nil ?_
      refine thA_n ?_
      refine PC.ret ?_
      refine thA_r ?_
      obtain rfl := some_in hh0
      exact FinA.mk (r := bA false) (bl := []) [] (.inl rfl) rfl (rl := [.tmp 2]) (.tmp .nil) rfl rfl rfl (.t _) trivial ⟨rfl, rfl⟩
    rcases cond_some hh0 with ⟨h_68, hh0⟩ | ⟨h_68, hh0⟩
    rotate_left
    · refine PC.region ?_
      refine PL.op rfl (Rd.loadBox rfl rfl rfl) ?_
      refine PL.op rfl (Rd.loadBox rfl rfl rfl) ?_
      refine PL.callM true [] (w_L_equalHeap N r4.1 r6.1 r65 h_66) rfl Try.call42 rfl ⟨.aggL ⟨.own rfl (by first | decide | exact List.not_mem_nil) rfl rfl, trivial⟩, .aggL ⟨.own rfl (by first | decide | exact List.not_mem_nil) rfl rfl, trivial⟩, trivial⟩ rfl trivial (fun _ => ⟨trivial, flat_nil⟩) ?_
      refine PL.op rfl (Rd.moveT rfl) ?_
      refine PL.guard_on rfl h_67 ?_
      refine PL.op rfl (Rd.loadBox rfl rfl rfl) ?_
      refine PL.guard_on rfl h_67 ?_
      refine PL.op rfl (Rd.loadBox rfl rfl rfl) ?_
      refine PL.guard_on rfl h_67 ?_
      refine PL.op rfl (Rd.eqlE (a := r4.2.1) (b := r6.2.1) rfl rfl rfl rfl) ?_
      refine PL.op rfl (Rd.pick_t rfl h_67) ?_
      refine PL.op rfl (Rd.moveT rfl) ?_
      refine PL.guard_off rfl rfl h_68 ?_
      refine PL.guard_off rfl rfl h_68 ?_
      refine PL.guard_off rfl rfl h_68 ?_
      refine PL.op rfl (Rd.pick_f rfl h_68) ?_
      refine PL.op rfl (Rd.asnT rfl) ?_
      refine PL.nil ?_
      refine thA_n ?_
      refine PC.ret ?_
      refine thA_r ?_
      obtain rfl := some_in hh0
      exact FinA.mk (r := bA false) (bl := []) [] (.inl rfl) rfl (rl := [.tmp 2]) (.tmp .nil) rfl rfl rfl (.t _) trivial ⟨rfl, rfl⟩
    refine PC.region ?_
    refine PL.op rfl (Rd.loadBox rfl rfl rfl) ?_
    refine PL.op rfl (Rd.loadBox rfl rfl rfl) ?_
    refine PL.callM true [] (w_L_equalHeap N r4.1 r6.1 r65 h_66) rfl Try.call42 rfl ⟨.aggL ⟨.own rfl (by first | decide | exact List.not_mem_nil) rfl rfl, trivial⟩, .aggL ⟨.own rfl (by first | decide | exact List.not_mem_nil) rfl rfl, trivial⟩, trivial⟩ rfl trivial (fun _ => ⟨trivial, flat_nil⟩) ?_
    refine PL.op rfl (Rd.moveT rfl) ?_
    refine PL.guard_on rfl h_67 ?_
    refine PL.op rfl (Rd.loadBox rfl rfl rfl) ?_
    refine PL.guard_on rfl h_67 ?_
    refine PL.op rfl (Rd.loadBox rfl rfl rfl) ?_
    refine PL.guard_on rfl h_67 ?_
    refine PL.op rfl (Rd.eqlE (a := r4.2.1) (b := r6.2.1) rfl rfl rfl rfl) ?_
    refine PL.op rfl (Rd.pick_t rfl h_67) ?_
    refine PL.op rfl (Rd.moveT rfl) ?_
    refine PL.guard_on rfl h_68 ?_
    refine PL.op rfl (Rd.moveT rfl) ?_
    refine PL.guard_on rfl h_68 ?_
    refine PL.op rfl (Rd.moveT rfl) ?_
    refine PL.guard_on rfl h_68 ?_
    refine PL.op rfl (Rd.eqlB rfl rfl) ?_
    refine PL.op rfl (Rd.pick_t rfl h_68) ?_
    refine PL.op rfl (Rd.asnT rfl) ?_
    refine PL.nil ?_
    refine thA_n ?_
    refine PC.ret ?_
    refine thA_r ?_
    obtain rfl := some_in hh0
    exact FinA.mk (r := bA (r4.2.2 == r6.2.2)) (bl := []) [] (.inl rfl) rfl (rl := [.tmp 2]) (.tmp .nil) rfl rfl rfl (.t _) trivial ⟨rfl, rfl⟩
  rcases cond_some hh0 with ⟨h_11, hh0⟩ | ⟨h_11, hh0⟩
  rotate_left
  · refine PC.region ?_
    refine PL.op rfl (Rd.loadBox rfl rfl rfl) ?_
    refine PL.op rfl (Rd.loadBox rfl rfl rfl) ?_
    refine PL.callM true [] (w_L_equalHeap N r4.1 r6.1 r8 h_9) rfl Try.call42 rfl ⟨.aggL ⟨.own rfl (by first | decide | exact List.not_mem_nil) rfl rfl, trivial⟩, .aggL ⟨.own rfl (by first | decide | exact List.not_mem_nil) rfl rfl, trivial⟩, trivial⟩ rfl trivial (fun _ => ⟨trivial, flat_nil⟩) ?_
    refine PL.op rfl (Rd.unnot rfl) ?_
    refine PL.op rfl (Rd.moveT rfl) ?_
    refine PL.guard_on rfl (not_t h_10) ?_
    refine PL.op rfl (Rd.loadBox rfl rfl rfl) ?_
    refine PL.guard_on rfl (not_t h_10) ?_
    refine PL.op rfl (Rd.loadBox rfl rfl rfl) ?_
    refine PL.guard_on rfl (not_t h_10) ?_
    refine PL.op rfl (Rd.neqE (a := r4.2.1) (b := r6.2.1) rfl rfl rfl rfl) ?_
    refine PL.op rfl (Rd.pick_f rfl (not_t h_10)) ?_
    refine PL.op rfl (Rd.moveT rfl) ?_
    refine PL.guard_off rfl rfl (not_f h_11) ?_
    refine PL.guard_off rfl rfl (not_f h_11) ?_
    refine PL.guard_off rfl rfl (not_f h_11) ?_
    refine PL.op rfl (Rd.pick_t rfl (not_f h_11)) ?_
    refine PL.op rfl (Rd.moveT rfl) ?_
    refine PL.guard_off rfl rfl rfl ?_
    refine PL.guard_off rfl rfl rfl ?_
    refine PL.op rfl (Rd.pick_t rfl rfl) ?_
    refine PL.nil ?_
    refine thA_n ?_
    refine PC.cond_true rfl rfl ?_
    refine PC.seq ?_
    obtain ⟨r62, h_63, hh0⟩ := bind_some hh0
    rcases cond_some hh0 with ⟨h_64, hh0⟩ | ⟨h_64, hh0⟩
    rotate_left
    · refine PC.region ?_
      refine PL.op rfl (Rd.loadBox rfl rfl rfl) ?_
      refine PL.op rfl (Rd.loadBox rfl rfl rfl) ?_
      refine PL.callM true [] (w_L_equalHeap N r4.1 r6.1 r62 h_63) rfl Try.call42 rfl ⟨.aggL ⟨.own rfl (by first | decide | exact List.not_mem_nil) rfl rfl, trivial⟩, .aggL ⟨.own rfl (by first | decide | exact List.not_mem_nil) rfl rfl, trivial⟩, trivial⟩ rfl trivial (fun _ => ⟨trivial, flat_nil⟩) ?_
      refine PL.op rfl (Rd.moveT rfl) ?_
      refine PL.guard_off rfl rfl h_64 ?_
      refine PL.guard_off rfl rfl h_64 ?_
      refine PL.guard_off rfl rfl h_64 ?_
      refine PL.op rfl (Rd.pick_f rfl h_64) ?_
      refine PL.op rfl (Rd.moveT rfl) ?_
      refine PL.guard_off rfl rfl rfl ?_
      refine PL.guard_off rfl rfl rfl ?_
      refine PL.guard_off rfl rfl rfl ?_
      refine PL.op rfl (Rd.pick_f rfl rfl) ?_
      refine PL.op rfl (Rd.asnT rfl) ?_
      refine PL.nil ?_
      refine thA_n ?_
      refine PC.ret ?_
      refine thA_r ?_
      obtain rfl := some_in hh0
      exact FinA.mk (r := bA false) (bl := []) [] (.inl rfl) rfl (rl := [.tmp 2]) (.tmp .nil) rfl rfl rfl (.t _) trivial ⟨rfl, rfl⟩
    refine PC.region ?_
    refine PL.op rfl (Rd.loadBox rfl rfl rfl) ?_
    refine PL.op rfl (Rd.loadBox rfl rfl rfl) ?_
    refine PL.callM true [] (w_L_equalHeap N r4.1 r6.1 r62 h_63) rfl Try.call42 rfl ⟨.aggL ⟨.own rfl (by first | decide | exact List.not_mem_nil) rfl rfl, trivial⟩, .aggL ⟨.own rfl (by first | decide | exact List.not_mem_nil) rfl rfl, trivial⟩, trivial⟩ rfl trivial (fun _ => ⟨trivial, flat_nil⟩) ?_
    refine PL.op rfl (Rd.moveT rfl) ?_
    refine PL.guard_on rfl h_64 ?_
    refine PL.op rfl (Rd.loadBox rfl rfl rfl) ?_
    refine PL.guard_on rfl h_64 ?_
    refine PL.op rfl (Rd.loadBox rfl rfl rfl) ?_
    refine PL.guard_on rfl h_64 ?_
    refine PL.op rfl (Rd.eqlE (a := r4.2.1) (b := r6.2.1) rfl rfl rfl rfl) ?_
    refine PL.op rfl (Rd.pick_t rfl h_64) ?_
    refine PL.op rfl (Rd.moveT rfl) ?_
    refine PL.guard_off rfl rfl h_11 ?_
    refine PL.guard_off rfl rfl h_11 ?_
    refine PL.guard_off rfl rfl h_11 ?_
    refine PL.op rfl (Rd.pick_f rfl h_11) ?_
    refine PL.op rfl (Rd.asnT rfl) ?_
    refine PL.nil ?_
    refine thA_n ?_
    refine PC.ret ?_
    refine thA_r ?_
    obtain rfl := some_in hh0
    exact FinA.mk (r := bA false) (bl := []) [] (.inl rfl) rfl (rl := [.tmp 2]) (.tmp .nil) rfl rfl rfl (.t _) trivial ⟨rfl, rfl⟩
  rcases cond_some hh0 with ⟨h_12, hh0⟩ | ⟨h_12, hh0⟩
  rotate_left
  · refine PC.region ?_
    refine PL.op rfl (Rd.loadBox rfl rfl rfl) ?_
    refine PL.op rfl (Rd.loadBox rfl rfl rfl) ?_
    refine PL.callM true [] (w_L_equalHeap N r4.1 r6.1 r8 h_9) rfl Try.call42 rfl ⟨.aggL ⟨.own rfl (by first | decide | exact List.not_mem_nil) rfl rfl, trivial⟩, .aggL ⟨.own rfl (by first | decide | exact List.not_mem_nil) rfl rfl, trivial⟩, trivial⟩ rfl trivial (fun _ => ⟨trivial, flat_nil⟩) ?_
    refine PL.op rfl (Rd.unnot rfl) ?_
    refine PL.op rfl (Rd.moveT rfl) ?_
    refine PL.guard_on rfl (not_t h_10) ?_
    refine PL.op rfl (Rd.loadBox rfl rfl rfl) ?_
    refine PL.guard_on rfl (not_t h_10) ?_
    refine PL.op rfl (Rd.loadBox rfl rfl rfl) ?_
    refine PL.guard_on rfl (not_t h_10) ?_
    refine PL.op rfl (Rd.neqE (a := r4.2.1) (b := r6.2.1) rfl rfl rfl rfl) ?_
    refine PL.op rfl (Rd.pick_f rfl (not_t h_10)) ?_
    refine PL.op rfl (Rd.moveT rfl) ?_
    refine PL.guard_on rfl (not_t h_11) ?_
    refine PL.op rfl (Rd.moveT rfl) ?_
    refine PL.guard_on rfl (not_t h_11) ?_
    refine PL.op rfl (Rd.moveT rfl) ?_
    refine PL.guard_on rfl (not_t h_11) ?_
    refine PL.op rfl (Rd.neqB rfl rfl) ?_
    refine PL.op rfl (Rd.pick_f rfl (not_t h_11)) ?_
    refine PL.op rfl (Rd.moveT rfl) ?_
    refine PL.guard_off rfl rfl (not_f h_12) ?_
    refine PL.guard_off rfl rfl (not_f h_12) ?_
    refine PL.op rfl (Rd.pick_t rfl (not_f h_12)) ?_
    refine PL.nil ?_
    refine thA_n ?_
    refine PC.cond_true rfl rfl ?_
    refine PC.seq ?_
    obtain ⟨r59, h_60, hh0⟩ := bind_some hh0
    rcases cond_some hh0 with ⟨h_61, hh0⟩ | ⟨h_61, hh0⟩
    rotate_left
    · refine PC.region ?_
      refine PL.op rfl (Rd.loadBox rfl rfl rfl) ?_
      refine PL.op rfl (Rd.loadBox rfl rfl rfl) ?_
      refine PL.callM true [] (w_L_equalHeap N r4.1 r6.1 r59 h_60) rfl Try.call42 rfl ⟨.aggL ⟨.own rfl (by first | decide | exact List.not_mem_nil) rfl rfl, trivial⟩, .aggL ⟨.own rfl (by first | decide | exact List.not_mem_nil) rfl rfl, trivial⟩, trivial⟩ rfl trivial (fun _ => ⟨trivial, flat_nil⟩) ?_
      refine PL.op rfl (Rd.moveT rfl) ?_
      refine PL.guard_off rfl rfl h_61 ?_
      refine PL.guard_off rfl rfl h_61 ?_
      refine PL.guard_off rfl rfl h_61 ?_
      refine PL.op rfl (Rd.pick_f rfl h_61) ?_
      refine PL.op rfl (Rd.moveT rfl) ?_
      refine PL.guard_off rfl rfl rfl ?_
      refine PL.guard_off rfl rfl rfl ?_
      refine PL.guard_off rfl rfl rfl ?_
      refine PL.op rfl (Rd.pick_f rfl rfl) ?_
      refine PL.op rfl (Rd.asnT rfl) ?_
      refine PL.nil ?_
      refine thA_n ?_
      refine PC.ret ?_
      refine thA_r ?_
      obtain rfl := some_in hh0
      exact FinA.mk (r := bA false) (bl := []) [] (.inl rfl) rfl (rl := [.tmp 2]) (.tmp .nil) rfl rfl rfl (.t _) trivial ⟨rfl, rfl⟩
    refine PC.region ?_
    refine PL.op rfl (Rd.loadBox rfl rfl rfl) ?_
    refine PL.op rfl (Rd.loadBox rfl rfl rfl) ?_
    refine PL.callM true [] (w_L_equalHeap N r4.1 r6.1 r59 h_60) rfl Try.call42 rfl ⟨.aggL ⟨.own rfl (by first | decide | exact List.not_mem_nil) rfl rfl, trivial⟩, .aggL ⟨.own rfl (by first | decide | exact List.not_mem_nil) rfl rfl, trivial⟩, trivial⟩ rfl trivial (fun _ => ⟨trivial, flat_nil⟩) ?_
    refine PL.op rfl (Rd.moveT rfl) ?_
    refine PL.guard_on rfl h_61 ?_
    refine PL.op rfl (Rd.loadBox rfl rfl rfl) ?_
    refine PL.guard_on rfl h_61 ?_
    refine PL.op rfl (Rd.loadBox rfl rfl rfl) ?_
    refine PL.guard_on rfl h_61 ?_
    refine PL.op rfl (Rd.eqlE (a := r4.2.1) (b := r6.2.1) rfl rfl rfl rfl) ?_
    refine PL.op rfl (Rd.pick_t rfl h_61) ?_
    refine PL.op rfl (Rd.moveT rfl) ?_
    refine PL.guard_on rfl h_11 ?_
    refine PL.op rfl (Rd.moveT rfl) ?_
    refine PL.guard_on rfl h_11 ?_
    refine PL.op rfl (Rd.moveT rfl) ?_
    refine PL.guard_on rfl h_11 ?_
    refine PL.op rfl (Rd.eqlB rfl rfl) ?_
    refine PL.op rfl (Rd.pick_t rfl h_11) ?_
    refine PL.op rfl (Rd.asnT rfl) ?_
    refine PL.nil ?_
    refine thA_n ?_
    refine PC.ret ?_
    refine thA_r ?_
    obtain rfl := some_in hh0
    exact FinA.mk (r := bA (r4.2.2 == r6.2.2)) (bl := []) [] (.inl rfl) rfl (rl := [.tmp 2]) (.tmp .nil) rfl rfl rfl (.t _) trivial ⟨rfl, rfl⟩
  refine PC.region ?_
  refine PL.op rfl (Rd.loadBox rfl rfl rfl) ?_
  refine PL.op rfl (Rd.loadBox rfl rfl rfl) ?_
  refine PL.callM true [] (w_L_equalHeap N r4.1 r6.1 r8 h_9) rfl Try.call42 rfl ⟨.aggL ⟨.own rfl (by first | decide | exact List.not_mem_nil) rfl rfl, trivial⟩, .aggL ⟨.own rfl (by first | decide | exact List.not_mem_nil) rfl rfl, trivial⟩, trivial⟩ rfl trivial (fun _ => ⟨trivial, flat_nil⟩) ?_
  refine PL.op rfl (Rd.unnot rfl) ?_
  refine PL.op rfl (Rd.moveT rfl) ?_
  refine PL.guard_on rfl (not_t h_10) ?_
  refine PL.op rfl (Rd.loadBox rfl rfl rfl) ?_
  refine PL.guard_on rfl (not_t h_10) ?_
  refine PL.op rfl (Rd.loadBox rfl rfl rfl) ?_
  refine PL.guard_on rfl (not_t h_10) ?_
  refine PL.op rfl (Rd.neqE (a := r4.2.1) (b := r6.2.1) rfl rfl rfl rfl) ?_
  refine PL.op rfl (Rd.pick_f rfl (not_t h_10)) ?_
  refine PL.op rfl (Rd.moveT rfl) ?_
  refine PL.guard_on rfl (not_t h_11) ?_
  refine PL.op rfl (Rd.moveT rfl) ?_
  refine PL.guard_on rfl (not_t h_11) ?_
  refine PL.op rfl (Rd.moveT rfl) ?_
  refine PL.guard_on rfl (not_t h_11) ?_
  refine PL.op rfl (Rd.neqB rfl rfl) ?_
  refine PL.op rfl (Rd.pick_f rfl (not_t h_11)) ?_
  refine PL.op rfl (Rd.moveT rfl) ?_
  refine PL.guard_on rfl (not_t h_12) ?_
  refine PL.op rfl (Rd.moveT rfl) ?_
  refine PL.guard_on rfl (not_t h_12) ?_
  refine PL.op rfl (Rd.unnot rfl) ?_
  refine PL.op rfl (Rd.pick_f rfl (not_t h_12)) ?_
  refine PL.nil ?_
  refine thA_n ?_
  rcases cond_some hh0 with ⟨h_13, hh0⟩ | ⟨h_13, hh0⟩
  rotate_left
  · refine PC.cond_true rfl (not_f h_13) ?_
    refine PC.seq ?_
    obtain ⟨r56, h_57, hh0⟩ := bind_some hh0
    rcases cond_some hh0 with ⟨h_58, hh0⟩ | ⟨h_58, hh0⟩
    rotate_left
    · refine PC.region ?_
      refine PL.op rfl (Rd.loadBox rfl rfl rfl) ?_
      refine PL.op rfl (Rd.loadBox rfl rfl rfl) ?_
      refine PL.callM true [] (w_L_equalHeap N r4.1 r6.1 r56 h_57) rfl Try.call42 rfl ⟨.aggL ⟨.own rfl (by first | decide | exact List.not_mem_nil) rfl rfl, trivial⟩, .aggL ⟨.own rfl (by first | decide | exact List.not_mem_nil) rfl rfl, trivial⟩, trivial⟩ rfl trivial (fun _ => ⟨trivial, flat_nil⟩) ?_
      refine PL.op rfl (Rd.moveT rfl) ?_
      refine PL.guard_off rfl rfl h_58 ?_
      refine PL.guard_off rfl rfl h_58 ?_
      refine PL.guard_off rfl rfl h_58 ?_
      refine PL.op rfl (Rd.pick_f rfl h_58) ?_
      refine PL.op rfl (Rd.moveT rfl) ?_
      refine PL.guard_off rfl rfl rfl ?_
      refine PL.guard_off rfl rfl rfl ?_
      refine PL.guard_off rfl rfl rfl ?_
      refine PL.op rfl (Rd.pick_f rfl rfl) ?_
      refine PL.op rfl (Rd.asnT rfl) ?_
      refine PL.nil ?_
      refine thA_n ?_
      refine PC.ret ?_
      refine thA_r ?_
      obtain rfl := some_in hh0
      exact FinA.mk (r := bA false) (bl := []) [] (.inl rfl) rfl (rl := [.tmp 2]) (.tmp .nil) rfl rfl rfl (.t _) trivial ⟨rfl, rfl⟩
    refine PC.region ?_
    refine PL.op rfl (Rd.loadBox rfl rfl rfl) ?_
    refine PL.op rfl (Rd.loadBox rfl rfl rfl) ?_
    refine PL.callM true [] (w_L_equalHeap N r4.1 r6.1 r56 h_57) rfl Try.call42 rfl ⟨.aggL ⟨.own rfl (by first | decide | exact List.not_mem_nil) rfl rfl, trivial⟩, .aggL ⟨.own rfl (by first | decide | exact List.not_mem_nil) rfl rfl, trivial⟩, trivial⟩ rfl trivial (fun _ => ⟨trivial, flat_nil⟩) ?_
    refine PL.op rfl (Rd.moveT rfl) ?_
    refine PL.guard_on rfl h_58 ?_
    refine PL.op rfl (Rd.loadBox rfl rfl rfl) ?_
    refine PL.guard_on rfl h_58 ?_
    refine PL.op rfl (Rd.loadBox rfl rfl rfl) ?_
    refine PL.guard_on rfl h_58 ?_
    refine PL.op rfl (Rd.eqlE (a := r4.2.1) (b := r6.2.1) rfl rfl rfl rfl) ?_
    refine PL.op rfl (Rd.pick_t rfl h_58) ?_
    refine PL.op rfl (Rd.moveT rfl) ?_
    refine PL.guard_on rfl h_11 ?_
    refine PL.op rfl (Rd.moveT rfl) ?_
    refine PL.guard_on rfl h_11 ?_
    refine PL.op rfl (Rd.moveT rfl) ?_
    refine PL.guard_on rfl h_11 ?_
    refine PL.op rfl (Rd.eqlB rfl rfl) ?_
    refine PL.op rfl (Rd.pick_t rfl h_11) ?_
    refine PL.op rfl (Rd.asnT rfl) ?_
    refine PL.nil ?_
    refine thA_n ?_
    refine PC.ret ?_
    refine thA_r ?_
    obtain rfl := some_in hh0
    exact FinA.mk (r := bA (r4.2.2 == r6.2.2)) (bl := []) [] (.inl rfl) rfl (rl := [.tmp 2]) (.tmp .nil) rfl rfl rfl (.t _) trivial ⟨rfl, rfl⟩
  refine PC.cond_false rfl (not_t h_13) ?_
  refine PC.skip ?_
  refine thA_n ?_
  refine PC.seq ?_
  obtain ⟨r14, h_15, hh0⟩ := bind_some hh0
  refine PC.region ?_
  refine PL.op rfl (Rd.loadBox rfl rfl rfl) ?_
  refine PL.callM false [] (w_I_HeapScan N r2.1 r14 h_15) rfl Try.call43 rfl ⟨.aggL ⟨.t _, trivial⟩, trivial⟩ rfl trivial (fun h => by cases h) ?_
  refine PL.nm (.os 8 0 r14.length) [none, some ⟨.mx [sL r2.1.pages], 58, 0⟩, some ⟨.tr (eL r4.1.pages), 25, 1⟩, some ⟨.mx [.os 2 0 r4.1.pages.length], 58, 0⟩, some ⟨.mx [iA r4.2.1.page, iA r4.2.1.slot], 62, 0⟩, some ⟨.tr (eL r6.1.pages), 25, 1⟩, some ⟨.mx [.os 5 0 r6.1.pages.length], 58, 0⟩, some ⟨.mx [iA r6.2.1.page, iA r6.2.1.slot], 62, 0⟩, some ⟨.tr (eL r14), 62, 2⟩] rfl rfl ?_
  refine PL.op rfl (Rd.asnO rfl) ?_
  refine PL.nil ?_
  refine thA_n ?_
  refine PC.seq ?_
  refine PC.seq ?_
  refine PC.region ?_
  refine PL.op rfl (Rd.asnT rfl) ?_
  refine PL.nil ?_
  refine thA_n ?_
  obtain ⟨o30, h_31, hh0⟩ := bind_some hh0
  refine PC.cutE hs (fun x : Unit => [(4, sA r2.2), (5, .op 0 0), (6, .op 2 0), (11, .os 3 0 r14.length)]) (fun x => [⟨.mx [.os 1 0 r4.1.pages.length], 58, 0⟩, ⟨.tr (eL r4.1.pages), 25, 1⟩, ⟨.mx [iA r4.2.1.page, iA r4.2.1.slot], 62, 0⟩, ⟨.tr (eL r14), 62, 2⟩]) (fun x => m_L_FnHeapInsert_k1 N r2 r4 r14  = some r) ?_ ?_
  · refine PC.block ?_
    refine PC.loop hs (fun x : Nat × (Int) => [(3, .op 0 0), (4, sA r2.2), (5, .op 1 0), (6, .op 3 0), (11, .os 4 0 r14.length), (12, iA x.2)]) (fun x => [⟨.mx [sL r2.1.pages], 58, 0⟩, ⟨.mx [.os 2 0 r4.1.pages.length], 58, 0⟩, ⟨.tr (eL r4.1.pages), 25, 1⟩, ⟨.mx [iA r4.2.1.page, iA r4.2.1.slot], 62, 0⟩, ⟨.tr (eL r14), 62, 2⟩]) (fun x => loopM (β := Unit ⊕ Bool) (fun s : Int => m_L_FnHeapInsert_b1 N r2 r4 r14 s) x.1 x.2 = some o30) (fun x => x.1) (N, (0 : Int)) [some 1, some 3, some 2, some 4, some 8] ⟨rfl, rfl, ⟨⟨_, rfl, rfl, rfl, .mx ⟨.t _, trivial⟩⟩, ⟨_, rfl, rfl, rfl, .mx ⟨.os rfl, trivial⟩⟩, ⟨_, rfl, rfl, rfl, .tr _⟩, ⟨_, rfl, rfl, rfl, .mx ⟨.t _, .t _, trivial⟩⟩, ⟨_, rfl, rfl, rfl, .tr _⟩, trivial⟩, ⟨.op rfl, .t _, .op rfl, .op rfl, .os rfl, .t _, trivial⟩⟩ h_31 ?_
    rintro ⟨f32_, a16⟩ h_34
    obtain ⟨f32, y33, rfl, hh1, kk1⟩ := loopM_some h_34
    replace hh1 : m_L_FnHeapInsert_b1 N r2 r4 r14 a16 = some y33 := hh1
    unfold m_L_FnHeapInsert_b1 at hh1
    refine PC.seq ?_
    refine PC.seq ?_
    refine PC.region ?_
    refine PL.op rfl (Rd.moveT rfl) ?_
    refine PL.op rfl (Rd.moveO rfl) ?_
    refine PL.op rfl (Rd.lenO rfl rfl) ?_
    refine PL.op rfl (Rd.lss rfl rfl) ?_
    refine PL.nil ?_
    refine thA_n ?_
    rcases cond_some hh1 with ⟨h_43, hh1⟩ | ⟨h_43, hh1⟩
    rotate_left
    · refine PC.cond_false rfl h_43 ?_
      refine PC.exit ?_
      refine thA_e ?_
      refine thA_e ?_
      refine inA_eq rfl ?_
      refine thA_n ?_
      obtain rfl := some_in hh1
      obtain rfl : (.inl () : Unit ⊕ Bool) = o30 := kk1
      exact ⟨(), hh0, [some 1, some 2, some 3, some 4], ⟨rfl, rfl, ⟨⟨_, rfl, rfl, rfl, .mx ⟨.os rfl, trivial⟩⟩, ⟨_, rfl, rfl, rfl, .tr _⟩, ⟨_, rfl, rfl, rfl, .mx ⟨.t _, .t _, trivial⟩⟩, ⟨_, rfl, rfl, rfl, .tr _⟩, trivial⟩, ⟨.t _, .op rfl, .op rfl, .os rfl, trivial⟩⟩⟩
    refine PC.cond_true rfl h_43 ?_
    refine PC.skip ?_
    refine thA_n ?_
    refine PC.seq ?_
    refine PC.block ?_
    refine PC.seq ?_
    obtain ⟨x44, h_45, hh1⟩ := bind_some hh1
    obtain ⟨r46, h_47, hh1⟩ := bind_some hh1
    refine PC.any (id := 12) 11 (.seg [0, 1, 2, 3, 4, 5, 6, 7, 8, 9, 10] .done) [] rfl (by kernel_rfl) rfl ?_
    refine PT.seg ?_
    refine PR.op rfl (Rd.loadBox rfl rfl rfl) ?_
    refine PR.op rfl (Rd.moveO rfl) ?_
    refine PR.op rfl (Rd.moveT rfl) ?_
    refine PR.op rfl (Rd.ixOM rfl rfl rfl (ixI_lt h_45)) ?_
    refine PR.op rfl (Rd.owMR rfl rfl h_45 rfl rfl) ?_
    refine PR.callM false [] (w_I_HeapGet N r2.1 x44 r46 h_47) rfl Try.call44 rfl ⟨.aggL ⟨.t _, trivial⟩, .aggL ⟨.t _, .t _, trivial⟩, trivial⟩ rfl trivial (fun h => by cases h) rfl ?_
    refine PR.op rfl (Rd.moveU rfl) ?_
    refine PR.op rfl (Rd.extract rfl rfl) ?_
    refine PR.op rfl (Rd.extract rfl rfl) ?_
    refine PR.op rfl (Rd.asnT rfl) ?_
    refine PR.op rfl (Rd.asnT rfl) ?_
    refine PR.nil ?_
    refine PT.done ?_
    refine PL.nil ?_
    refine thA_n ?_
    refine PC.seq ?_
    obtain ⟨r48, h_49, hh1⟩ := bind_some hh1
    refine PC.any (id := 13) 11 (.seg [0, 1, 2, 3, 4, 5, 6, 7, 8, 9, 10] .done) [] rfl (by kernel_rfl) rfl ?_
    refine PT.seg ?_
    refine PR.op rfl (Rd.loadBox rfl rfl rfl) ?_
    refine PR.op rfl (Rd.moveO rfl) ?_
    refine PR.op rfl (Rd.moveT rfl) ?_
    refine PR.op rfl (Rd.ixOM rfl rfl rfl (ixI_lt h_45)) ?_
    refine PR.op rfl (Rd.owMR rfl rfl h_45 rfl rfl) ?_
    refine PR.callM true [] (w_I_HeapGet N r4.1 x44 r48 h_49) rfl Try.call44 rfl ⟨.aggL ⟨.own rfl (by first | decide | exact List.not_mem_nil) rfl rfl, trivial⟩, .aggL ⟨.t _, .t _, trivial⟩, trivial⟩ rfl trivial (fun _ => ⟨⟨trivial, trivial, trivial⟩, flat_nil⟩) rfl ?_
    refine PR.op rfl (Rd.moveU rfl) ?_
    refine PR.op rfl (Rd.extract rfl rfl) ?_
    refine PR.op rfl (Rd.extract rfl rfl) ?_
    refine PR.op rfl (Rd.asnT rfl) ?_
    refine PR.op rfl (Rd.asnT rfl) ?_
    refine PR.nil ?_
    refine PT.done ?_
    refine PL.nil ?_
    refine thA_n ?_
    refine PC.seq ?_
    rcases cond_some hh1 with ⟨h_50, hh1⟩ | ⟨h_50, hh1⟩
    rotate_left
    · refine PC.any (id := 14) 19 (.seg [0, 1, 2, 3, 4, 5, 6, 7, 8, 9, 10, 11, 12, 13, 14, 15, 16, 17, 18] .done) [] rfl (by kernel_rfl) rfl ?_
      refine PT.seg ?_
      refine PR.op rfl (Rd.moveT rfl) ?_
      refine PR.op rfl (Rd.unnot rfl) ?_
      refine PR.op rfl (Rd.moveT rfl) ?_
      refine PR.guard_off rfl rfl (not_f h_50) ?_
      refine PR.guard_off rfl rfl (not_f h_50) ?_
      refine PR.op rfl (Rd.pick_t rfl (not_f h_50)) ?_
      refine PR.op rfl (Rd.moveT rfl) ?_
      refine PR.guard_off rfl rfl rfl ?_
      refine PR.guard_off rfl rfl rfl ?_
      refine PR.guard_off rfl rfl rfl ?_
      refine PR.op rfl (Rd.pick_t rfl rfl) ?_
      refine PR.op rfl (Rd.moveT rfl) ?_
      refine PR.guard_off rfl rfl rfl ?_
      refine PR.guard_off rfl rfl rfl ?_
      refine PR.guard_off rfl rfl rfl ?_
      refine PR.guard_off rfl rfl rfl ?_
      refine PR.guard_off rfl rfl rfl ?_
      refine PR.guard_off rfl rfl rfl ?_
      refine PR.op rfl (Rd.pick_t rfl rfl) ?_
      refine PR.nil ?_
      refine PT.done ?_
      refine PL.nil ?_
      refine thA_n ?_
      refine PC.cond_true rfl rfl ?_
      refine PC.seq ?_
      refine PC.region ?_
      refine PL.op rfl (Rd.asnT rfl) ?_
      refine PL.nil ?_
      refine thA_n ?_
      refine PC.ret ?_
      refine inA_r ?_
      refine thA_r ?_
      refine thA_r ?_
      refine inA_r ?_
      refine thA_r ?_
      obtain rfl := some_in hh1
      obtain rfl : (.inr false : Unit ⊕ Bool) = o30 := kk1
      refine thA_r ?_
      obtain rfl := some_in hh0
      exact FinA.mk (r := bA false) (bl := []) [] (.inl rfl) rfl (rl := [.tmp 2]) (.tmp .nil) rfl rfl rfl (.t _) trivial ⟨rfl, rfl⟩
    rcases cond_some hh1 with ⟨h_51, hh1⟩ | ⟨h_51, hh1⟩
    rotate_left
    · refine PC.any (id := 14) 19 (.seg [0, 1, 2, 3, 4, 5, 6, 7, 8, 9, 10, 11, 12, 13, 14, 15, 16, 17, 18] .done) [] rfl (by kernel_rfl) rfl ?_
      refine PT.seg ?_
      refine PR.op rfl (Rd.moveT rfl) ?_
      refine PR.op rfl (Rd.unnot rfl) ?_
      refine PR.op rfl (Rd.moveT rfl) ?_
      refine PR.guard_on rfl rfl (not_t h_50) ?_
      refine PR.op rfl (Rd.moveT rfl) ?_
      refine PR.guard_on rfl rfl (not_t h_50) ?_
      refine PR.op rfl (Rd.unnot rfl) ?_
      refine PR.op rfl (Rd.pick_f rfl (not_t h_50)) ?_
      refine PR.op rfl (Rd.moveT rfl) ?_
      refine PR.guard_off rfl rfl (not_f h_51) ?_
      refine PR.guard_off rfl rfl (not_f h_51) ?_
      refine PR.guard_off rfl rfl (not_f h_51) ?_
      refine PR.op rfl (Rd.pick_t rfl (not_f h_51)) ?_
      refine PR.op rfl (Rd.moveT rfl) ?_
      refine PR.guard_off rfl rfl rfl ?_
      refine PR.guard_off rfl rfl rfl ?_
      refine PR.guard_off rfl rfl rfl ?_
      refine PR.guard_off rfl rfl rfl ?_
      refine PR.guard_off rfl rfl rfl ?_
      refine PR.guard_off rfl rfl rfl ?_
      refine PR.op rfl (Rd.pick_t rfl rfl) ?_
      refine PR.nil ?_
      refine PT.done ?_
      refine PL.nil ?_
      refine thA_n ?_
      refine PC.cond_true rfl rfl ?_
      refine PC.seq ?_
      refine PC.region ?_
      refine PL.op rfl (Rd.asnT rfl) ?_
      refine PL.nil ?_
      refine thA_n ?_
      refine PC.ret ?_
      refine inA_r ?_
      refine thA_r ?_
      refine thA_r ?_
      refine inA_r ?_
      refine thA_r ?_
      obtain rfl := some_in hh1
      obtain rfl : (.inr false : Unit ⊕ Bool) = o30 := kk1
      refine thA_r ?_
      obtain rfl := some_in hh0
      exact FinA.mk (r := bA false) (bl := []) [] (.inl rfl) rfl (rl := [.tmp 2]) (.tmp .nil) rfl rfl rfl (.t _) trivial ⟨rfl, rfl⟩
    rcases cond_some hh1 with ⟨h_52, hh1⟩ | ⟨h_52, hh1⟩
    rotate_left
    · refine PC.any (id := 14) 19 (.seg [0, 1, 2, 3, 4, 5, 6, 7, 8, 9, 10, 11, 12, 13, 14, 15, 16, 17, 18] .done) [] rfl (by kernel_rfl) rfl ?_
      refine PT.seg ?_
      refine PR.op rfl (Rd.moveT rfl) ?_
      refine PR.op rfl (Rd.unnot rfl) ?_
      refine PR.op rfl (Rd.moveT rfl) ?_
      refine PR.guard_on rfl rfl (not_t h_50) ?_
      refine PR.op rfl (Rd.moveT rfl) ?_
      refine PR.guard_on rfl rfl (not_t h_50) ?_
      refine PR.op rfl (Rd.unnot rfl) ?_
      refine PR.op rfl (Rd.pick_f rfl (not_t h_50)) ?_
      refine PR.op rfl (Rd.moveT rfl) ?_
      refine PR.guard_on rfl rfl (not_t h_51) ?_
      refine PR.op rfl (Rd.moveT rfl) ?_
      refine PR.guard_on rfl rfl (not_t h_51) ?_
      refine PR.op rfl (Rd.moveT rfl) ?_
      refine PR.guard_on rfl rfl (not_t h_51) ?_
      refine PR.op rfl (Rd.neqS rfl rfl) ?_
      refine PR.op rfl (Rd.pick_f rfl (not_t h_51)) ?_
      refine PR.op rfl (Rd.moveT rfl) ?_
      refine PR.guard_off rfl rfl (not_f h_52) ?_
      refine PR.guard_off rfl rfl (not_f h_52) ?_
      refine PR.guard_off rfl rfl (not_f h_52) ?_
      refine PR.guard_off rfl rfl (not_f h_52) ?_
      refine PR.guard_off rfl rfl (not_f h_52) ?_
      refine PR.guard_off rfl rfl (not_f h_52) ?_
      refine PR.op rfl (Rd.pick_t rfl (not_f h_52)) ?_
      refine PR.nil ?_
      refine PT.done ?_
      refine PL.nil ?_
      refine thA_n ?_
      refine PC.cond_true rfl rfl ?_
      refine PC.seq ?_
      refine PC.region ?_
      refine PL.op rfl (Rd.asnT rfl) ?_
      refine PL.nil ?_
      refine thA_n ?_
      refine PC.ret ?_
      refine inA_r ?_
      refine thA_r ?_
      refine thA_r ?_
      refine inA_r ?_
      refine thA_r ?_
      obtain rfl := some_in hh1
      obtain rfl : (.inr false : Unit ⊕ Bool) = o30 := kk1
      refine thA_r ?_
      obtain rfl := some_in hh0
      exact FinA.mk (r := bA false) (bl := []) [] (.inl rfl) rfl (rl := [.tmp 2]) (.tmp .nil) rfl rfl rfl (.t _) trivial ⟨rfl, rfl⟩
    refine PC.any (id := 14) 19 (.seg [0, 1, 2, 3, 4, 5, 6, 7, 8, 9, 10, 11, 12, 13, 14, 15, 16, 17, 18] .done) [] rfl (by kernel_rfl) rfl ?_
    refine PT.seg ?_
    refine PR.op rfl (Rd.moveT rfl) ?_
    refine PR.op rfl (Rd.unnot rfl) ?_
    refine PR.op rfl (Rd.moveT rfl) ?_
    refine PR.guard_on rfl rfl (not_t h_50) ?_
    refine PR.op rfl (Rd.moveT rfl) ?_
    refine PR.guard_on rfl rfl (not_t h_50) ?_
    refine PR.op rfl (Rd.unnot rfl) ?_
    refine PR.op rfl (Rd.pick_f rfl (not_t h_50)) ?_
    refine PR.op rfl (Rd.moveT rfl) ?_
    refine PR.guard_on rfl rfl (not_t h_51) ?_
    refine PR.op rfl (Rd.moveT rfl) ?_
    refine PR.guard_on rfl rfl (not_t h_51) ?_
    refine PR.op rfl (Rd.moveT rfl) ?_
    refine PR.guard_on rfl rfl (not_t h_51) ?_
    refine PR.op rfl (Rd.neqS rfl rfl) ?_
    refine PR.op rfl (Rd.pick_f rfl (not_t h_51)) ?_
    refine PR.op rfl (Rd.moveT rfl) ?_
    refine PR.guard_on rfl rfl (not_t h_52) ?_
    refine PR.op rfl (Rd.moveO rfl) ?_
    refine PR.guard_on rfl rfl (not_t h_52) ?_
    refine PR.op rfl (Rd.moveT rfl) ?_
    refine PR.guard_on rfl rfl (not_t h_52) ?_
    refine PR.op rfl (Rd.ixOM rfl rfl rfl (ixI_lt h_45)) ?_
    refine PR.guard_on rfl rfl (not_t h_52) ?_
    refine PR.op rfl (Rd.owMR rfl rfl h_45 rfl rfl) ?_
    refine PR.guard_on rfl rfl (not_t h_52) ?_
    refine PR.op rfl (Rd.loadBox rfl rfl rfl) ?_
    refine PR.guard_on rfl rfl (not_t h_52) ?_
    refine PR.op rfl (Rd.eqlE (a := x44) (b := r4.2.1) rfl rfl rfl rfl) ?_
    refine PR.op rfl (Rd.pick_f rfl (not_t h_52)) ?_
    refine PR.nil ?_
    refine PT.done ?_
    refine PL.nil ?_
    refine thA_n ?_
    rcases cond_some hh1 with ⟨h_53, hh1⟩ | ⟨h_53, hh1⟩
    · refine PC.cond_true rfl h_53 ?_
      refine PC.seq ?_
      refine PC.region ?_
      refine PL.op rfl (Rd.asnT rfl) ?_
      refine PL.nil ?_
      refine thA_n ?_
      refine PC.ret ?_
      refine inA_r ?_
      refine thA_r ?_
      refine thA_r ?_
      refine inA_r ?_
      refine thA_r ?_
      obtain rfl := some_in hh1
      obtain rfl : (.inr false : Unit ⊕ Bool) = o30 := kk1
      refine thA_r ?_
      obtain rfl := some_in hh0
      exact FinA.mk (r := bA false) (bl := []) [] (.inl rfl) rfl (rl := [.tmp 2]) (.tmp .nil) rfl rfl rfl (.t _) trivial ⟨rfl, rfl⟩
    refine PC.cond_false rfl h_53 ?_
    refine PC.skip ?_
    refine inA_n ?_
    refine thA_n ?_
    obtain ⟨n54, h_55, hh1⟩ := bind_some hh1
    refine PC.region ?_
    refine PL.op rfl (Rd.moveT rfl) ?_
    refine PL.op rfl (Rd.addM rfl rfl h_55) ?_
    refine PL.op rfl (Rd.asnT rfl) ?_
    refine PL.nil ?_
    obtain rfl := some_in hh1
    refine thA_n ?_
    exact ⟨(f32, n54), Nat.lt_succ_self _, kk1, [some 0, some 1, some 2, some 3, some 4], ⟨rfl, rfl, ⟨⟨_, rfl, rfl, rfl, .mx ⟨.t _, trivial⟩⟩, ⟨_, rfl, rfl, rfl, .mx ⟨.os rfl, trivial⟩⟩, ⟨_, rfl, rfl, rfl, .tr _⟩, ⟨_, rfl, rfl, rfl, .mx ⟨.t _, .t _, trivial⟩⟩, ⟨_, rfl, rfl, rfl, .tr _⟩, trivial⟩, ⟨.op rfl, .t _, .op rfl, .op rfl, .os rfl, .t _, trivial⟩⟩⟩
  clear hh0
  rintro ⟨⟩ hh0
  replace hh0 : m_L_FnHeapInsert_k1 N r2 r4 r14  = some r := hh0
  unfold m_L_FnHeapInsert_k1 at hh0
  refine thA_n ?_
  refine PC.seq ?_
  obtain ⟨r35, h_36, hh0⟩ := bind_some hh0
  refine PC.region ?_
  refine PL.op rfl (Rd.loadBox rfl rfl rfl) ?_
  refine PL.op rfl (Rd.loadBox rfl rfl rfl) ?_
  refine PL.callM true [] (w_I_HeapGet N r4.1 r4.2.1 r35 h_36) rfl Try.call44 rfl ⟨.aggL ⟨.own rfl (by first | decide | exact List.not_mem_nil) rfl rfl, trivial⟩, .aggL ⟨.t _, .t _, trivial⟩, trivial⟩ rfl trivial (fun _ => ⟨⟨trivial, trivial, trivial⟩, flat_nil⟩) ?_
  refine PL.op rfl (Rd.moveU rfl) ?_
  refine PL.op rfl (Rd.extract rfl rfl) ?_
  refine PL.op rfl (Rd.extract rfl rfl) ?_
  refine PL.op rfl (Rd.asnT rfl) ?_
  refine PL.op rfl (Rd.asnT rfl) ?_
  refine PL.nil ?_
  refine thA_n ?_
  refine PC.seq ?_
  rcases cond_some hh0 with ⟨h_37, hh0⟩ | ⟨h_37, hh0⟩
  rotate_left
  · refine PC.region ?_
    refine PL.op rfl (Rd.moveT rfl) ?_
    refine PL.op rfl (Rd.moveT rfl) ?_
    refine PL.guard_off rfl rfl h_37 ?_
    refine PL.guard_off rfl rfl h_37 ?_
    refine PL.guard_off rfl rfl h_37 ?_
    refine PL.op rfl (Rd.pick_f rfl h_37) ?_
    refine PL.op rfl (Rd.moveT rfl) ?_
    refine PL.guard_off rfl rfl rfl ?_
    refine PL.guard_off rfl rfl rfl ?_
    refine PL.guard_off rfl rfl rfl ?_
    refine PL.guard_off rfl rfl rfl ?_
    refine PL.guard_off rfl rfl rfl ?_
    refine PL.guard_off rfl rfl rfl ?_
    refine PL.guard_off rfl rfl rfl ?_
    refine PL.op rfl (Rd.pick_f rfl rfl) ?_
    refine PL.op rfl (Rd.asnT rfl) ?_
    refine PL.nil ?_
    refine thA_n ?_
    refine PC.ret ?_
    obtain rfl := some_in hh0
    exact FinA.mk (r := bA false) (bl := []) [] (.inl rfl) rfl (rl := [.tmp 2]) (.tmp .nil) rfl rfl rfl (.t _) trivial ⟨rfl, rfl⟩
  rcases cond_some hh0 with ⟨h_38, hh0⟩ | ⟨h_38, hh0⟩
  rotate_left
  · refine PC.region ?_
    refine PL.op rfl (Rd.moveT rfl) ?_
    refine PL.op rfl (Rd.moveT rfl) ?_
    refine PL.guard_on rfl h_37 ?_
    refine PL.op rfl (Rd.moveT rfl) ?_
    refine PL.guard_on rfl h_37 ?_
    refine PL.op rfl (Rd.moveT rfl) ?_
    refine PL.guard_on rfl h_37 ?_
    refine PL.op rfl (Rd.eqlS rfl rfl) ?_
    refine PL.op rfl (Rd.pick_t rfl h_37) ?_
    refine PL.op rfl (Rd.moveT rfl) ?_
    refine PL.guard_off rfl rfl h_38 ?_
    refine PL.guard_off rfl rfl h_38 ?_
    refine PL.guard_off rfl rfl h_38 ?_
    refine PL.guard_off rfl rfl h_38 ?_
    refine PL.guard_off rfl rfl h_38 ?_
    refine PL.guard_off rfl rfl h_38 ?_
    refine PL.guard_off rfl rfl h_38 ?_
    refine PL.op rfl (Rd.pick_f rfl h_38) ?_
    refine PL.op rfl (Rd.asnT rfl) ?_
    refine PL.nil ?_
    refine thA_n ?_
    refine PC.ret ?_
    obtain rfl := some_in hh0
    exact FinA.mk (r := bA false) (bl := []) [] (.inl rfl) rfl (rl := [.tmp 2]) (.tmp .nil) rfl rfl rfl (.t _) trivial ⟨rfl, rfl⟩
  obtain ⟨r39, h_40, hh0⟩ := bind_some hh0
  obtain ⟨n41, h_42, hh0⟩ := bind_some hh0
  refine PC.region ?_
  refine PL.op rfl (Rd.moveT rfl) ?_
  refine PL.op rfl (Rd.moveT rfl) ?_
  refine PL.guard_on rfl h_37 ?_
  refine PL.op rfl (Rd.moveT rfl) ?_
  refine PL.guard_on rfl h_37 ?_
  refine PL.op rfl (Rd.moveT rfl) ?_
  refine PL.guard_on rfl h_37 ?_
  refine PL.op rfl (Rd.eqlS rfl rfl) ?_
  refine PL.op rfl (Rd.pick_t rfl h_37) ?_
  refine PL.op rfl (Rd.moveT rfl) ?_
  refine PL.guard_on rfl h_38 ?_
  refine PL.op rfl (Rd.loadBox rfl rfl rfl) ?_
  refine PL.guard_on rfl h_38 ?_
  refine PL.callM true [] (w_I_HeapScan N r4.1 r39 h_40) rfl Try.call43 rfl ⟨.aggL ⟨.own rfl (by first | decide | exact List.not_mem_nil) rfl rfl, trivial⟩, trivial⟩ rfl trivial (fun _ => ⟨trivial, (flat_cons flat_ow flat_nil)⟩) ?_
  refine PL.nm (.os 4 0 r39.length) [some ⟨.mx [.os 1 0 r4.1.pages.length], 58, 0⟩, some ⟨.tr (eL r4.1.pages), 25, 1⟩, some ⟨.mx [iA r4.2.1.page, iA r4.2.1.slot], 62, 0⟩, some ⟨.tr (eL r14), 62, 2⟩, some ⟨.tr (eL r39), 62, 2⟩] rfl rfl ?_
  refine PL.guard_on rfl h_38 ?_
  refine PL.op rfl (Rd.lenO rfl rfl) ?_
  refine PL.guard_on rfl h_38 ?_
  refine PL.op rfl (Rd.moveO rfl) ?_
  refine PL.guard_on rfl h_38 ?_
  refine PL.op rfl (Rd.lenO rfl rfl) ?_
  refine PL.guard_on rfl h_38 ?_
  refine PL.op rfl (Rd.addM rfl rfl h_42) ?_
  refine PL.guard_on rfl h_38 ?_
  refine PL.op rfl (Rd.eql rfl rfl) ?_
  refine PL.op rfl (Rd.pick_t rfl h_38) ?_
  refine PL.op rfl (Rd.asnT rfl) ?_
  refine PL.nil ?_
  refine thA_n ?_
  refine PC.ret ?_
  obtain rfl := some_in hh0
  exact FinA.mk (r := bA (decide ((r39.length : Int) = n41))) (bl := []) [] (.inl rfl) rfl (rl := [.tmp 2]) (.tmp .nil) rfl rfl rfl (.t _) trivial ⟨rfl, rfl⟩

end V
end Go.Proofs.Ytoljdhdfijnjiaa
