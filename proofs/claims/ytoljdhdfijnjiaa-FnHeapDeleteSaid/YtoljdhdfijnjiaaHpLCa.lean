/- Heaps: a law's function. No condition. -/
import Derived.Test.YtoljdhdfijnjiaaHpEa
namespace Go.Proofs.Ytoljdhdfijnjiaa
namespace V
open Enc (enc)
set_option linter.unusedVariables false
set_option linter.unusedSimpArgs false
set_option maxHeartbeats 4000000
set_option maxRecDepth 100000
open Go.RowKit
attribute [local irreducible] thA inA FinA eL

def m_L_FnHeapDelete_k1 (N : Nat) (r2 : (I_Heap × I_Rid)) (r4 : (I_Heap × Bool)) (r13 : ((List I_Rid))) : Option (Bool) :=
  (m_I_HeapScan N r4.1).bind fun r36 =>
  (chk ((r13.length : Int) - (1 : Int))).bind fun n38 =>
  cond (decide ((r36.length : Int) = n38))
    (some (decide ((r4.1.pages.length : Int) = (r2.1.pages.length : Int))))
    (some false)
def m_L_FnHeapDelete_b1 (N : Nat) (r2 : (I_Heap × I_Rid)) (r4 : (I_Heap × Bool)) (r13 : ((List I_Rid))) (a15 : Int) : Option (Int ⊕ (Unit ⊕ Bool)) :=
  cond (decide (a15 < (r13.length : Int)))
    ((ixI r13 a15).bind fun x42 =>
    (m_I_HeapGet N r2.1 x42).bind fun r44 =>
    (m_I_HeapGet N r4.1 x42).bind fun r46 =>
    cond r44.2
      (cond (r46.2 == (decide (x42 = r2.2)))
        (some (.inr (.inr false)))
        (cond (decide (x42 = r2.2))
          ((chk (a15 + (1 : Int))).bind fun n51 =>
          some (.inl n51))
          (cond (r44.1.toList == r46.1.toList)
            ((chk (a15 + (1 : Int))).bind fun n54 =>
            some (.inl n54))
            (some (.inr (.inr false))))))
      (some (.inr (.inr false))))
    (some (.inr (.inl ())))
def m_L_FnHeapDelete (N : Nat) (p_code : (List UInt8)) : Option (Bool) :=
  cond (decide ((1048576 : Int) < (p_code.length : Int)))
    (some true)
    ((m_S_DrawHeapDelete N p_code).bind fun r2 =>
    (m_I_HeapDelete N r2.1 r2.2).bind fun r4 =>
    (m_S_HeapDelete N r2.1 r2.2).bind fun r6 =>
    (m_L_equalHeap N r4.1 r6.1).bind fun r8 =>
    cond r8
      (cond (r4.2 == r6.2)
        (cond r4.2
          ((m_I_HeapScan N r2.1).bind fun r13 =>
          (loopM (β := Unit ⊕ Bool) (fun s : Int => m_L_FnHeapDelete_b1 N r2 r4 r13 s) N (0 : Int)).bind fun o => match o with
          | .inl e =>
            m_L_FnHeapDelete_k1 N r2 r4 r13 
          | .inr v =>
            some v)
          ((m_L_equalHeap N r4.1 r6.1).bind fun r56 =>
          cond r56
            (some (r4.2 == r6.2))
            (some false)))
        ((m_L_equalHeap N r4.1 r6.1).bind fun r59 =>
        cond r59
          (some (r4.2 == r6.2))
          (some false)))
      ((m_L_equalHeap N r4.1 r6.1).bind fun r62 =>
      cond r62
        (some (r4.2 == r6.2))
        (some false)))
theorem w_L_FnHeapDelete (N : Nat) (p_code : (List UInt8)) (r : Bool) (hh0 : m_L_FnHeapDelete N p_code = some r) : FnX Try.prog 14 [] [sL p_code] (RE (bA r) []) := by
  unfold m_L_FnHeapDelete at hh0
  refine FnX.mk Try.func14 rfl rfl ?_
  intro s hs
  refine PC.seq ?_
  refine PC.region ?_
  refine PL.op rfl (Rd.asnT rfl) ?_
  refine PL.nil ?_
  refine thA_n ?_
  refine PC.seq ?_
  refine PC.seq ?_
  refine PC.region ?_
  refine PL.op rfl (Rd.moveT rfl) ?_
  refine PL.op rfl (Rd.lenT rfl) ?_
  refine PL.op rfl (Rd.gtr rfl rfl) ?_
  refine PL.nil ?_
  refine thA_n ?_
  rcases cond_some hh0 with ⟨h_1, hh0⟩ | ⟨h_1, hh0⟩
  · refine PC.cond_true rfl h_1 ?_
    refine PC.seq ?_
    refine PC.region ?_
    refine PL.op rfl (Rd.asnT rfl) ?_
    refine PL.nil ?_
    refine thA_n ?_
    refine PC.ret ?_
    refine thA_r ?_
    obtain rfl := some_in hh0
    exact FinA.mk (r := bA true) (bl := []) [] (.inl rfl) rfl (rl := [.tmp 2]) (.tmp .nil) rfl rfl rfl (.t _) trivial ⟨rfl, rfl⟩
  refine PC.cond_false rfl h_1 ?_
  refine PC.skip ?_
  refine thA_n ?_
  refine PC.seq ?_
  obtain ⟨r2, h_3, hh0⟩ := bind_some hh0
  refine PC.region ?_
  refine PL.op rfl (Rd.moveT rfl) ?_
  refine PL.callM false [] (w_S_DrawHeapDelete N p_code r2 h_3) rfl Try.call45 rfl ⟨.t _, trivial⟩ rfl trivial (fun h => by cases h) ?_
  refine PL.op rfl (Rd.moveU rfl) ?_
  refine PL.op rfl (Rd.extract rfl rfl) ?_
  refine PL.op rfl (Rd.extract rfl rfl) ?_
  refine PL.ef rfl (Ef.alloc rfl rfl) ?_
  refine PL.nm (.op 0 0) [some ⟨.mx [.t (.v (.slice none 0 0))], 58, 0⟩] rfl rfl ?_
  refine PL.ef rfl (Ef.alloc rfl rfl) ?_
  refine PL.nm (.op 1 0) [some ⟨.mx [.t (.v (.slice none 0 0))], 58, 0⟩, some ⟨.mx [iA (0 : Int), iA (0 : Int)], 62, 0⟩] rfl rfl ?_
  refine PL.store rfl rfl rfl rfl rfl rfl rfl ?_
  refine PL.nO [some ⟨.mx [sL r2.1.pages], 58, 0⟩, some ⟨.mx [iA (0 : Int), iA (0 : Int)], 62, 0⟩] rfl ?_
  refine PL.store rfl rfl rfl rfl rfl rfl rfl ?_
  refine PL.nO [some ⟨.mx [sL r2.1.pages], 58, 0⟩, some ⟨.mx [iA r2.2.page, iA r2.2.slot], 62, 0⟩] rfl ?_
  refine PL.nil ?_
  refine thA_n ?_
  refine PC.seq ?_
  obtain ⟨r4, h_5, hh0⟩ := bind_some hh0
  refine PC.region ?_
  refine PL.op rfl (Rd.loadBox rfl rfl rfl) ?_
  refine PL.op rfl (Rd.loadBox rfl rfl rfl) ?_
  refine PL.callM false [] (w_I_HeapDelete N r2.1 r2.2 r4 h_5) rfl Try.call46 rfl ⟨.aggL ⟨.t _, trivial⟩, .aggL ⟨.t _, .t _, trivial⟩, trivial⟩ rfl trivial (fun h => by cases h) ?_
  refine PL.nm (.tup [.agg [.os 2 0 r4.1.pages.length], bA r4.2]) [some ⟨.mx [sL r2.1.pages], 58, 0⟩, some ⟨.mx [iA r2.2.page, iA r2.2.slot], 62, 0⟩, some ⟨.tr (eL r4.1.pages), 25, 1⟩] rfl rfl ?_
  refine PL.op rfl (Rd.moveU rfl) ?_
  refine PL.op rfl (Rd.extract rfl rfl) ?_
  refine PL.op rfl (Rd.extract rfl rfl) ?_
  refine PL.ef rfl (Ef.alloc rfl rfl) ?_
  refine PL.nm (.op 3 0) [some ⟨.mx [sL r2.1.pages], 58, 0⟩, some ⟨.mx [iA r2.2.page, iA r2.2.slot], 62, 0⟩, some ⟨.tr (eL r4.1.pages), 25, 1⟩, some ⟨.mx [.t (.v (.slice none 0 0))], 58, 0⟩] rfl rfl ?_
  refine PL.store rfl rfl rfl rfl rfl rfl rfl ?_
  refine PL.nO [some ⟨.mx [sL r2.1.pages], 58, 0⟩, some ⟨.mx [iA r2.2.page, iA r2.2.slot], 62, 0⟩, some ⟨.tr (eL r4.1.pages), 25, 1⟩, some ⟨.mx [.os 2 0 r4.1.pages.length], 58, 0⟩] rfl ?_
  refine PL.op rfl (Rd.asnT rfl) ?_
  refine PL.nil ?_
  refine thA_n ?_
  refine PC.seq ?_
  obtain ⟨r6, h_7, hh0⟩ := bind_some hh0
  refine PC.region ?_
  refine PL.op rfl (Rd.loadBox rfl rfl rfl) ?_
  refine PL.op rfl (Rd.loadBox rfl rfl rfl) ?_
  refine PL.callM false [] (w_S_HeapDelete N r2.1 r2.2 r6 h_7) rfl Try.call47 rfl ⟨.aggL ⟨.t _, trivial⟩, .aggL ⟨.t _, .t _, trivial⟩, trivial⟩ rfl trivial (fun h => by cases h) ?_
  refine PL.nm (.tup [.agg [.os 4 0 r6.1.pages.length], bA r6.2]) [some ⟨.mx [sL r2.1.pages], 58, 0⟩, some ⟨.mx [iA r2.2.page, iA r2.2.slot], 62, 0⟩, some ⟨.tr (eL r4.1.pages), 25, 1⟩, some ⟨.mx [.os 2 0 r4.1.pages.length], 58, 0⟩, some ⟨.tr (eL r6.1.pages), 25, 1⟩] rfl rfl ?_
  refine PL.op rfl (Rd.moveU rfl) ?_
  refine PL.op rfl (Rd.extract rfl rfl) ?_
  refine PL.op rfl (Rd.extract rfl rfl) ?_
  refine PL.ef rfl (Ef.alloc rfl rfl) ?_
  refine PL.nm (.op 5 0) [some ⟨.mx [sL r2.1.pages], 58, 0⟩, some ⟨.mx [iA r2.2.page, iA r2.2.slot], 62, 0⟩, some ⟨.tr (eL r4.1.pages), 25, 1⟩, some ⟨.mx [.os 2 0 r4.1.pages.length], 58, 0⟩, some ⟨.tr (eL r6.1.pages), 25, 1⟩, some ⟨.mx [.t (.v (.slice none 0 0))], 58, 0⟩] rfl rfl ?_
  refine PL.store rfl rfl rfl rfl rfl rfl rfl ?_
  refine PL.nO [some ⟨.mx [sL r2.1.pages], 58, 0⟩, some ⟨.mx [iA r2.2.page, iA r2.2.slot], 62, 0⟩, some ⟨.tr (eL r4.1.pages), 25, 1⟩, some ⟨.mx [.os 2 0 r4.1.pages.length], 58, 0⟩, some ⟨.tr (eL r6.1.pages), 25, 1⟩, some ⟨.mx [.os 4 0 r6.1.pages.length], 58, 0⟩] rfl ?_
  refine PL.op rfl (Rd.asnT rfl) ?_
  refine PL.nil ?_
  refine thA_n ?_
  refine PC.seq ?_
  refine PC.seq ?_
  obtain ⟨r8, h_9, hh0⟩ := bind_some hh0
  rcases cond_some hh0 with ⟨h_10, hh0⟩ | ⟨h_10, hh0⟩
  rotate_left
  · refine PC.region ?_
    refine PL.op rfl (Rd.loadBox rfl rfl rfl) ?_
    refine PL.op rfl (Rd.loadBox rfl rfl rfl) ?_
    refine PL.callM true [] (w_L_equalHeap N r4.1 r6.1 r8 h_9) rfl Try.call42 rfl ⟨.aggL ⟨.own rfl (by first | decide | exact List.not_mem_nil) rfl rfl, trivial⟩, .aggL ⟨.own rfl (by first | decide | exact List.not_mem_nil) rfl rfl, trivial⟩, trivial⟩ rfl trivial (fun _ => ⟨trivial, flat_nil⟩) ?_
    refine PL.op rfl (Rd.unnot rfl) ?_
    refine PL.op rfl (Rd.moveT rfl) ?_
    refine PL.guard_off rfl rfl (not_f h_10) ?_
    refine PL.guard_off rfl rfl (not_f h_10) ?_
    refine PL.guard_off rfl rfl (not_f h_10) ?_
    refine PL.op rfl (Rd.pick_t rfl (not_f h_10)) ?_
    refine PL.op rfl (Rd.moveT rfl) ?_
    refine PL.guard_off rfl rfl rfl ?_
    refine PL.guard_off rfl rfl rfl ?_
    refine PL.op rfl (Rd.pick_t rfl rfl) ?_
    refine PL.nil ?_
    refine thA_n ?_
    refine PC.cond_true rfl rfl ?_
    refine PC.seq ?_
    obtain ⟨r62, h_63, hh0⟩ := bind_some hh0
    rcases cond_some hh0 with ⟨h_64, hh0⟩ | ⟨h_64, hh0⟩
    rotate_left
    · refine PC.region ?_
      refine PL.op rfl (Rd.loadBox rfl rfl rfl) ?_
      refine PL.op rfl (Rd.loadBox rfl rfl rfl) ?_
      refine PL.callM true [] (w_L_equalHeap N r4.1 r6.1 r62 h_63) rfl Try.call42 rfl ⟨.aggL ⟨.own rfl (by first | decide | exact List.not_mem_nil) rfl rfl, trivial⟩, .aggL ⟨.own rfl (by first | decide | exact List.not_mem_nil) rfl rfl, trivial⟩, trivial⟩ rfl trivial (fun _ => ⟨trivial, flat_nil⟩) ?_
      refine PL.op rfl (Rd.moveT rfl) ?_
      refine PL.guard_off rfl rfl h_64 ?_
      refine PL.guard_off rfl rfl h_64 ?_
      refine PL.guard_off rfl rfl h_64 ?_
      refine PL.op rfl (Rd.pick_f rfl h_64) ?_
      refine PL.op rfl (Rd.asnT rfl) ?_
      refine PL.nil ?_
      refine thA_n ?_
      refine PC.ret ?_
      refine thA_r ?_
      obtain rfl := some_in hh0
      exact FinA.mk (r := bA false) (bl := []) [] (.inl rfl) rfl (rl := [.tmp 2]) (.tmp .nil) rfl rfl rfl (.t _) trivial ⟨rfl, rfl⟩
    refine PC.region ?_
    refine PL.op rfl (Rd.loadBox rfl rfl rfl) ?_
    refine PL.op rfl (Rd.loadBox rfl rfl rfl) ?_
    refine PL.callM true [] (w_L_equalHeap N r4.1 r6.1 r62 h_63) rfl Try.call42 rfl ⟨.aggL ⟨.own rfl (by first | decide | exact List.not_mem_nil) rfl rfl, trivial⟩, .aggL ⟨.own rfl (by first | decide | exact List.not_mem_nil) rfl rfl, trivial⟩, trivial⟩ rfl trivial (fun _ => ⟨trivial, flat_nil⟩) ?_
    refine PL.op rfl (Rd.moveT rfl) ?_
    refine PL.guard_on rfl h_64 ?_
    refine PL.op rfl (Rd.moveT rfl) ?_
    refine PL.guard_on rfl h_64 ?_
    refine PL.op rfl (Rd.moveT rfl) ?_
    refine PL.guard_on rfl h_64 ?_
    refine PL.op rfl (Rd.eqlB rfl rfl) ?_
    refine PL.op rfl (Rd.pick_t rfl h_64) ?_
    refine PL.op rfl (Rd.asnT rfl) ?_
    refine PL.nil ?_
    refine thA_n ?_
    refine PC.ret ?_
    refine thA_r ?_
    obtain rfl := some_in hh0
    exact FinA.mk (r := bA (r4.2 == r6.2)) (bl := []) [] (.inl rfl) rfl (rl := [.tmp 2]) (.tmp .nil) rfl rfl rfl (.t _) trivial ⟨rfl, rfl⟩
  rcases cond_some hh0 with ⟨h_11, hh0⟩ | ⟨h_11, hh0⟩
  rotate_left
  · refine PC.region ?_
    refine PL.op rfl (Rd.loadBox rfl rfl rfl) ?_
    refine PL.op rfl (Rd.loadBox rfl rfl rfl) ?_
    refine PL.callM true [] (w_L_equalHeap N r4.1 r6.1 r8 h_9) rfl Try.call42 rfl ⟨.aggL ⟨.own rfl (by first | decide | exact List.not_mem_nil) rfl rfl, trivial⟩, .aggL ⟨.own rfl (by first | decide | exact List.not_mem_nil) rfl rfl, trivial⟩, trivial⟩ rfl trivial (fun _ => ⟨trivial, flat_nil⟩) ?_
    refine PL.op rfl (Rd.unnot rfl) ?_
    refine PL.op rfl (Rd.moveT rfl) ?_
    refine PL.guard_on rfl (not_t h_10) ?_
    refine PL.op rfl (Rd.moveT rfl) ?_
    refine PL.guard_on rfl (not_t h_10) ?_
    refine PL.op rfl (Rd.moveT rfl) ?_
    refine PL.guard_on rfl (not_t h_10) ?_
    refine PL.op rfl (Rd.neqB rfl rfl) ?_
    refine PL.op rfl (Rd.pick_f rfl (not_t h_10)) ?_
    refine PL.op rfl (Rd.moveT rfl) ?_
    refine PL.guard_off rfl rfl (not_f h_11) ?_
    refine PL.guard_off rfl rfl (not_f h_11) ?_
    refine PL.op rfl (Rd.pick_t rfl (not_f h_11)) ?_
    refine PL.nil ?_
    refine thA_n ?_
    refine PC.cond_true rfl rfl ?_
    refine PC.seq ?_
    obtain ⟨r59, h_60, hh0⟩ := bind_some hh0
    rcases cond_some hh0 with ⟨h_61, hh0⟩ | ⟨h_61, hh0⟩
    rotate_left
    · refine PC.region ?_
      refine PL.op rfl (Rd.loadBox rfl rfl rfl) ?_
      refine PL.op rfl (Rd.loadBox rfl rfl rfl) ?_
      refine PL.callM true [] (w_L_equalHeap N r4.1 r6.1 r59 h_60) rfl Try.call42 rfl ⟨.aggL ⟨.own rfl (by first | decide | exact List.not_mem_nil) rfl rfl, trivial⟩, .aggL ⟨.own rfl (by first | decide | exact List.not_mem_nil) rfl rfl, trivial⟩, trivial⟩ rfl trivial (fun _ => ⟨trivial, flat_nil⟩) ?_
      refine PL.op rfl (Rd.moveT rfl) ?_
      refine PL.guard_off rfl rfl h_61 ?_
      refine PL.guard_off rfl rfl h_61 ?_
      refine PL.guard_off rfl rfl h_61 ?_
      refine PL.op rfl (Rd.pick_f rfl h_61) ?_
      refine PL.op rfl (Rd.asnT rfl) ?_
      refine PL.nil ?_
      refine thA_n ?_
      refine PC.ret ?_
      refine thA_r ?_
      obtain rfl := some_in hh0
      exact FinA.mk (r := bA false) (bl := []) [] (.inl rfl) rfl (rl := [.tmp 2]) (.tmp .nil) rfl rfl rfl (.t _) trivial ⟨rfl, rfl⟩
    refine PC.region ?_
    refine PL.op rfl (Rd.loadBox rfl rfl rfl) ?_
    refine PL.op rfl (Rd.loadBox rfl rfl rfl) ?_
    refine PL.callM true [] (w_L_equalHeap N r4.1 r6.1 r59 h_60) rfl Try.call42 rfl ⟨.aggL ⟨.own rfl (by first | decide | exact List.not_mem_nil) rfl rfl, trivial⟩, .aggL ⟨.own rfl (by first | decide | exact List.not_mem_nil) rfl rfl, trivial⟩, trivial⟩ rfl trivial (fun _ => ⟨trivial, flat_nil⟩) ?_
    refine PL.op rfl (Rd.moveT rfl) ?_
    refine PL.guard_on rfl h_61 ?_
    refine PL.op rfl (Rd.moveT rfl) ?_
    refine PL.guard_on rfl h_61 ?_
    refine PL.op rfl (Rd.moveT rfl) ?_
    refine PL.guard_on rfl h_61 ?_
    refine PL.op rfl (Rd.eqlB rfl rfl) ?_
    refine PL.op rfl (Rd.pick_t rfl h_61) ?_
    refine PL.op rfl (Rd.asnT rfl) ?_
    refine PL.nil ?_
    refine thA_n ?_
    refine PC.ret ?_
    refine thA_r ?_
    obtain rfl := some_in hh0
    exact FinA.mk (r := bA (r4.2 == r6.2)) (bl := []) [] (.inl rfl) rfl (rl := [.tmp 2]) (.tmp .nil) rfl rfl rfl (.t _) trivial ⟨rfl, rfl⟩
  refine PC.region ?_
  refine PL.op rfl (Rd.loadBox rfl rfl rfl) ?_
  refine PL.op rfl (Rd.loadBox rfl rfl rfl) ?_
  refine PL.callM true [] (w_L_equalHeap N r4.1 r6.1 r8 h_9) rfl Try.call42 rfl ⟨.aggL ⟨.own rfl (by first | decide | exact List.not_mem_nil) rfl rfl, trivial⟩, .aggL ⟨.own rfl (by first | decide | exact List.not_mem_nil) rfl rfl, trivial⟩, trivial⟩ rfl trivial (fun _ => ⟨trivial, flat_nil⟩) ?_
  refine PL.op rfl (Rd.unnot rfl) ?_
  refine PL.op rfl (Rd.moveT rfl) ?_
  refine PL.guard_on rfl (not_t h_10) ?_
  refine PL.op rfl (Rd.moveT rfl) ?_
  refine PL.guard_on rfl (not_t h_10) ?_
  refine PL.op rfl (Rd.moveT rfl) ?_
  refine PL.guard_on rfl (not_t h_10) ?_
  refine PL.op rfl (Rd.neqB rfl rfl) ?_
  refine PL.op rfl (Rd.pick_f rfl (not_t h_10)) ?_
  refine PL.op rfl (Rd.moveT rfl) ?_
  refine PL.guard_on rfl (not_t h_11) ?_
  refine PL.op rfl (Rd.moveT rfl) ?_
  refine PL.guard_on rfl (not_t h_11) ?_
  refine PL.op rfl (Rd.unnot rfl) ?_
  refine PL.op rfl (Rd.pick_f rfl (not_t h_11)) ?_
  refine PL.nil ?_
  refine thA_n ?_
  rcases cond_some hh0 with ⟨h_12, hh0⟩ | ⟨h_12, hh0⟩
  rotate_left
  · refine PC.cond_true rfl (not_f h_12) ?_
    refine PC.seq ?_
    obtain ⟨r56, h_57, hh0⟩ := bind_some hh0
    rcases cond_some hh0 with ⟨h_58, hh0⟩ | ⟨h_58, hh0⟩
    rotate_left
    · refine PC.region ?_
      refine PL.op rfl (Rd.loadBox rfl rfl rfl) ?_
      refine PL.op rfl (Rd.loadBox rfl rfl rfl) ?_
      refine PL.callM true [] (w_L_equalHeap N r4.1 r6.1 r56 h_57) rfl Try.call42 rfl ⟨.aggL ⟨.own rfl (by first | decide | exact List.not_mem_nil) rfl rfl, trivial⟩, .aggL ⟨.own rfl (by first | decide | exact List.not_mem_nil) rfl rfl, trivial⟩, trivial⟩ rfl trivial (fun _ => ⟨trivial, flat_nil⟩) ?_
      refine PL.op rfl (Rd.moveT rfl) ?_
      refine PL.guard_off rfl rfl h_58 ?_
      refine PL.guard_off rfl rfl h_58 ?_
      refine PL.guard_off rfl rfl h_58 ?_
      refine PL.op rfl (Rd.pick_f rfl h_58) ?_
      refine PL.op rfl (Rd.asnT rfl) ?_
      refine PL.nil ?_
      refine thA_n ?_
      refine PC.ret ?_
      refine thA_r ?_
      obtain rfl := some_in hh0
      exact FinA.mk (r := bA false) (bl := []) [] (.inl rfl) rfl (rl := [.tmp 2]) (.tmp .nil) rfl rfl rfl (.t _) trivial ⟨rfl, rfl⟩
    refine PC.region ?_
    refine PL.op rfl (Rd.loadBox rfl rfl rfl) ?_
    refine PL.op rfl (Rd.loadBox rfl rfl rfl) ?_
    refine PL.callM true [] (w_L_equalHeap N r4.1 r6.1 r56 h_57) rfl Try.call42 rfl ⟨.aggL ⟨.own rfl (by first | decide | exact List.not_mem_nil) rfl rfl, trivial⟩, .aggL ⟨.own rfl (by first | decide | exact List.not_mem_nil) rfl rfl, trivial⟩, trivial⟩ rfl trivial (fun _ => ⟨trivial, flat_nil⟩) ?_
    refine PL.op rfl (Rd.moveT rfl) ?_
    refine PL.guard_on rfl h_58 ?_
    refine PL.op rfl (Rd.moveT rfl) ?_
    refine PL.guard_on rfl h_58 ?_
    refine PL.op rfl (Rd.moveT rfl) ?_
    refine PL.guard_on rfl h_58 ?_
    refine PL.op rfl (Rd.eqlB rfl rfl) ?_
    refine PL.op rfl (Rd.pick_t rfl h_58) ?_
    refine PL.op rfl (Rd.asnT rfl) ?_
    refine PL.nil ?_
    refine thA_n ?_
    refine PC.ret ?_
    refine thA_r ?_
    obtain rfl := some_in hh0
    exact FinA.mk (r := bA (r4.2 == r6.2)) (bl := []) [] (.inl rfl) rfl (rl := [.tmp 2]) (.tmp .nil) rfl rfl rfl (.t _) trivial ⟨rfl, rfl⟩
  refine PC.cond_false rfl (not_t h_12) ?_
  refine PC.skip ?_
  refine thA_n ?_
  refine PC.seq ?_
  obtain ⟨r13, h_14, hh0⟩ := bind_some hh0
  refine PC.region ?_
  refine PL.op rfl (Rd.loadBox rfl rfl rfl) ?_
  refine PL.callM false [] (w_I_HeapScan N r2.1 r13 h_14) rfl Try.call43 rfl ⟨.aggL ⟨.t _, trivial⟩, trivial⟩ rfl trivial (fun h => by cases h) ?_
  refine PL.nm (.os 6 0 r13.length) [some ⟨.mx [sL r2.1.pages], 58, 0⟩, some ⟨.mx [iA r2.2.page, iA r2.2.slot], 62, 0⟩, some ⟨.tr (eL r4.1.pages), 25, 1⟩, some ⟨.mx [.os 2 0 r4.1.pages.length], 58, 0⟩, some ⟨.tr (eL r6.1.pages), 25, 1⟩, some ⟨.mx [.os 4 0 r6.1.pages.length], 58, 0⟩, some ⟨.tr (eL r13), 62, 2⟩] rfl rfl ?_
  refine PL.op rfl (Rd.asnO rfl) ?_
  refine PL.nil ?_
  refine thA_n ?_
  refine PC.seq ?_
  refine PC.seq ?_
  refine PC.region ?_
  refine PL.op rfl (Rd.asnT rfl) ?_
  refine PL.nil ?_
  refine thA_n ?_
  obtain ⟨o31, h_32, hh0⟩ := bind_some hh0
  refine PC.cutE hs (fun x : Unit => [(3, .op 0 0), (5, .op 1 0), (9, .os 3 0 r13.length)]) (fun x => [⟨.mx [sL r2.1.pages], 58, 0⟩, ⟨.mx [.os 2 0 r4.1.pages.length], 58, 0⟩, ⟨.tr (eL r4.1.pages), 25, 1⟩, ⟨.tr (eL r13), 62, 2⟩]) (fun x => m_L_FnHeapDelete_k1 N r2 r4 r13  = some r) ?_ ?_
  · refine PC.block ?_
    refine PC.loop hs (fun x : Nat × (Int) => [(3, .op 0 0), (4, .op 1 0), (5, .op 2 0), (9, .os 4 0 r13.length), (10, iA x.2)]) (fun x => [⟨.mx [sL r2.1.pages], 58, 0⟩, ⟨.mx [iA r2.2.page, iA r2.2.slot], 62, 0⟩, ⟨.mx [.os 3 0 r4.1.pages.length], 58, 0⟩, ⟨.tr (eL r4.1.pages), 25, 1⟩, ⟨.tr (eL r13), 62, 2⟩]) (fun x => loopM (β := Unit ⊕ Bool) (fun s : Int => m_L_FnHeapDelete_b1 N r2 r4 r13 s) x.1 x.2 = some o31) (fun x => x.1) (N, (0 : Int)) [some 0, some 1, some 3, some 2, some 6] ⟨rfl, rfl, ⟨⟨_, rfl, rfl, rfl, .mx ⟨.t _, trivial⟩⟩, ⟨_, rfl, rfl, rfl, .mx ⟨.t _, .t _, trivial⟩⟩, ⟨_, rfl, rfl, rfl, .mx ⟨.os rfl, trivial⟩⟩, ⟨_, rfl, rfl, rfl, .tr _⟩, ⟨_, rfl, rfl, rfl, .tr _⟩, trivial⟩, ⟨.op rfl, .op rfl, .op rfl, .os rfl, .t _, trivial⟩⟩ h_32 ?_
    rintro ⟨f33_, a15⟩ h_35
    obtain ⟨f33, y34, rfl, hh1, kk1⟩ := loopM_some h_35
    replace hh1 : m_L_FnHeapDelete_b1 N r2 r4 r13 a15 = some y34 := hh1
    unfold m_L_FnHeapDelete_b1 at hh1
    refine PC.seq ?_
    refine PC.seq ?_
    refine PC.region ?_
    refine PL.op rfl (Rd.moveT rfl) ?_
    refine PL.op rfl (Rd.moveO rfl) ?_
    refine PL.op rfl (Rd.lenO rfl rfl) ?_
    refine PL.op rfl (Rd.lss rfl rfl) ?_
    refine PL.nil ?_
    refine thA_n ?_
    rcases cond_some hh1 with ⟨h_41, hh1⟩ | ⟨h_41, hh1⟩
    rotate_left
    · refine PC.cond_false rfl h_41 ?_
      refine PC.exit ?_
      refine thA_e ?_
      refine thA_e ?_
      refine inA_eq rfl ?_
      refine thA_n ?_
      obtain rfl := some_in hh1
      obtain rfl : (.inl () : Unit ⊕ Bool) = o31 := kk1
      exact ⟨(), hh0, [some 0, some 2, some 3, some 4], ⟨rfl, rfl, ⟨⟨_, rfl, rfl, rfl, .mx ⟨.t _, trivial⟩⟩, ⟨_, rfl, rfl, rfl, .mx ⟨.os rfl, trivial⟩⟩, ⟨_, rfl, rfl, rfl, .tr _⟩, ⟨_, rfl, rfl, rfl, .tr _⟩, trivial⟩, ⟨.op rfl, .op rfl, .os rfl, trivial⟩⟩⟩
    refine PC.cond_true rfl h_41 ?_
    refine PC.skip ?_
    refine thA_n ?_
    refine PC.seq ?_
    refine PC.block ?_
    refine PC.seq ?_
    obtain ⟨x42, h_43, hh1⟩ := bind_some hh1
    obtain ⟨r44, h_45, hh1⟩ := bind_some hh1
    refine PC.any (id := 12) 11 (.seg [0, 1, 2, 3, 4, 5, 6, 7, 8, 9, 10] .done) [] rfl (by kernel_rfl) rfl ?_
    refine PT.seg ?_
    refine PR.op rfl (Rd.loadBox rfl rfl rfl) ?_
    refine PR.op rfl (Rd.moveO rfl) ?_
    refine PR.op rfl (Rd.moveT rfl) ?_
    refine PR.op rfl (Rd.ixOM rfl rfl rfl (ixI_lt h_43)) ?_
    refine PR.op rfl (Rd.owMR rfl rfl h_43 rfl rfl) ?_
    refine PR.callM false [] (w_I_HeapGet N r2.1 x42 r44 h_45) rfl Try.call44 rfl ⟨.aggL ⟨.t _, trivial⟩, .aggL ⟨.t _, .t _, trivial⟩, trivial⟩ rfl trivial (fun h => by cases h) rfl ?_
    refine PR.op rfl (Rd.moveU rfl) ?_
    refine PR.op rfl (Rd.extract rfl rfl) ?_
    refine PR.op rfl (Rd.extract rfl rfl) ?_
    refine PR.op rfl (Rd.asnT rfl) ?_
    refine PR.op rfl (Rd.asnT rfl) ?_
    refine PR.nil ?_
    refine PT.done ?_
    refine PL.nil ?_
    refine thA_n ?_
    refine PC.seq ?_
    obtain ⟨r46, h_47, hh1⟩ := bind_some hh1
    refine PC.any (id := 13) 11 (.seg [0, 1, 2, 3, 4, 5, 6, 7, 8, 9, 10] .done) [] rfl (by kernel_rfl) rfl ?_
    refine PT.seg ?_
    refine PR.op rfl (Rd.loadBox rfl rfl rfl) ?_
    refine PR.op rfl (Rd.moveO rfl) ?_
    refine PR.op rfl (Rd.moveT rfl) ?_
    refine PR.op rfl (Rd.ixOM rfl rfl rfl (ixI_lt h_43)) ?_
    refine PR.op rfl (Rd.owMR rfl rfl h_43 rfl rfl) ?_
    refine PR.callM true [] (w_I_HeapGet N r4.1 x42 r46 h_47) rfl Try.call44 rfl ⟨.aggL ⟨.own rfl (by first | decide | exact List.not_mem_nil) rfl rfl, trivial⟩, .aggL ⟨.t _, .t _, trivial⟩, trivial⟩ rfl trivial (fun _ => ⟨⟨trivial, trivial, trivial⟩, flat_nil⟩) rfl ?_
    refine PR.op rfl (Rd.moveU rfl) ?_
    refine PR.op rfl (Rd.extract rfl rfl) ?_
    refine PR.op rfl (Rd.extract rfl rfl) ?_
    refine PR.op rfl (Rd.asnT rfl) ?_
    refine PR.op rfl (Rd.asnT rfl) ?_
    refine PR.nil ?_
    refine PT.done ?_
    refine PL.nil ?_
    refine thA_n ?_
    refine PC.seq ?_
    rcases cond_some hh1 with ⟨h_48, hh1⟩ | ⟨h_48, hh1⟩
    rotate_left
    · refine PC.any (id := 14) 25 (.seg [0, 1, 2, 3, 4, 5, 6, 7, 8, 9, 10, 11, 12, 13, 14, 15, 16, 17, 18, 19, 20, 21, 22, 23, 24] .done) [] rfl (by kernel_rfl) rfl ?_
      refine PT.seg ?_
      refine PR.op rfl (Rd.moveT rfl) ?_
      refine PR.op rfl (Rd.unnot rfl) ?_
      refine PR.op rfl (Rd.moveT rfl) ?_
      refine PR.guard_off rfl rfl (not_f h_48) ?_
      refine PR.guard_off rfl rfl (not_f h_48) ?_
      refine PR.guard_off rfl rfl (not_f h_48) ?_
      refine PR.guard_off rfl rfl (not_f h_48) ?_
      refine PR.guard_off rfl rfl (not_f h_48) ?_
      refine PR.guard_off rfl rfl (not_f h_48) ?_
      refine PR.guard_off rfl rfl (not_f h_48) ?_
      refine PR.guard_off rfl rfl (not_f h_48) ?_
      refine PR.op rfl (Rd.pick_t rfl (not_f h_48)) ?_
      refine PR.op rfl (Rd.moveT rfl) ?_
      refine PR.guard_off rfl rfl rfl ?_
      refine PR.guard_off rfl rfl rfl ?_
      refine PR.guard_off rfl rfl rfl ?_
      refine PR.guard_off rfl rfl rfl ?_
      refine PR.guard_off rfl rfl rfl ?_
      refine PR.guard_off rfl rfl rfl ?_
      refine PR.guard_off rfl rfl rfl ?_
      refine PR.guard_un rfl rfl ?_
      refine PR.guard_un rfl rfl ?_
      refine PR.guard_un rfl rfl ?_
      refine PR.guard_off rfl rfl rfl ?_
      refine PR.op rfl (Rd.pick_t rfl rfl) ?_
      refine PR.nil ?_
      refine PT.done ?_
      refine PL.nil ?_
      refine thA_n ?_
      refine PC.cond_true rfl rfl ?_
      refine PC.seq ?_
      refine PC.region ?_
      refine PL.op rfl (Rd.asnT rfl) ?_
      refine PL.nil ?_
      refine thA_n ?_
      refine PC.ret ?_
      refine inA_r ?_
      refine thA_r ?_
      refine thA_r ?_
      refine inA_r ?_
      refine thA_r ?_
      obtain rfl := some_in hh1
      obtain rfl : (.inr false : Unit ⊕ Bool) = o31 := kk1
      refine thA_r ?_
      obtain rfl := some_in hh0
      exact FinA.mk (r := bA false) (bl := []) [] (.inl rfl) rfl (rl := [.tmp 2]) (.tmp .nil) rfl rfl rfl (.t _) trivial ⟨rfl, rfl⟩
    rcases cond_some hh1 with ⟨h_49, hh1⟩ | ⟨h_49, hh1⟩
    · refine PC.any (id := 14) 25 (.seg [0, 1, 2, 3, 4, 5, 6, 7, 8, 9, 10, 11, 12, 13, 14, 15, 16, 17, 18, 19, 20, 21, 22, 23, 24] .done) [] rfl (by kernel_rfl) rfl ?_
      refine PT.seg ?_
      refine PR.op rfl (Rd.moveT rfl) ?_
      refine PR.op rfl (Rd.unnot rfl) ?_
      refine PR.op rfl (Rd.moveT rfl) ?_
      refine PR.guard_on rfl rfl (not_t h_48) ?_
      refine PR.op rfl (Rd.moveT rfl) ?_
      refine PR.guard_on rfl rfl (not_t h_48) ?_
      refine PR.op rfl (Rd.moveO rfl) ?_
      refine PR.guard_on rfl rfl (not_t h_48) ?_
      refine PR.op rfl (Rd.moveT rfl) ?_
      refine PR.guard_on rfl rfl (not_t h_48) ?_
      refine PR.op rfl (Rd.ixOM rfl rfl rfl (ixI_lt h_43)) ?_
      refine PR.guard_on rfl rfl (not_t h_48) ?_
      refine PR.op rfl (Rd.owMR rfl rfl h_43 rfl rfl) ?_
      refine PR.guard_on rfl rfl (not_t h_48) ?_
      refine PR.op rfl (Rd.loadBox rfl rfl rfl) ?_
      refine PR.guard_on rfl rfl (not_t h_48) ?_
      refine PR.op rfl (Rd.eqlE (a := x42) (b := r2.2) rfl rfl rfl rfl) ?_
      refine PR.guard_on rfl rfl (not_t h_48) ?_
      refine PR.op rfl (Rd.eqlB rfl rfl) ?_
      refine PR.op rfl (Rd.pick_f rfl (not_t h_48)) ?_
      refine PR.op rfl (Rd.moveT rfl) ?_
      refine PR.guard_off rfl rfl h_49 ?_
      refine PR.guard_off rfl rfl h_49 ?_
      refine PR.guard_off rfl rfl h_49 ?_
      refine PR.guard_off rfl rfl h_49 ?_
      refine PR.guard_off rfl rfl h_49 ?_
      refine PR.guard_off rfl rfl h_49 ?_
      refine PR.guard_off rfl rfl h_49 ?_
      refine PR.guard_un rfl rfl ?_
      refine PR.guard_un rfl rfl ?_
      refine PR.guard_un rfl rfl ?_
      refine PR.guard_off rfl rfl h_49 ?_
      refine PR.op rfl (Rd.pick_t rfl h_49) ?_
      refine PR.nil ?_
      refine PT.done ?_
      refine PL.nil ?_
      refine thA_n ?_
      refine PC.cond_true rfl rfl ?_
      refine PC.seq ?_
      refine PC.region ?_
      refine PL.op rfl (Rd.asnT rfl) ?_
      refine PL.nil ?_
      refine thA_n ?_
      refine PC.ret ?_
      refine inA_r ?_
      refine thA_r ?_
      refine thA_r ?_
      refine inA_r ?_
      refine thA_r ?_
      obtain rfl := some_in hh1
      obtain rfl : (.inr false : Unit ⊕ Bool) = o31 := kk1
      refine thA_r ?_
      obtain rfl := some_in hh0
      exact FinA.mk (r := bA false) (bl := []) [] (.inl rfl) rfl (rl := [.tmp 2]) (.tmp .nil) rfl rfl rfl (.t _) trivial ⟨rfl, rfl⟩
    rcases cond_some hh1 with ⟨h_50, hh1⟩ | ⟨h_50, hh1⟩
    · refine PC.any (id := 14) 25 (.seg [0, 1, 2, 3, 4, 5, 6, 7, 8, 9, 10, 11, 12, 13, 14, 15, 16, 17, 18, 19, 20, 21, 22, 23, 24] .done) [] rfl (by kernel_rfl) rfl ?_
      refine PT.seg ?_
      refine PR.op rfl (Rd.moveT rfl) ?_
      refine PR.op rfl (Rd.unnot rfl) ?_
      refine PR.op rfl (Rd.moveT rfl) ?_
      refine PR.guard_on rfl rfl (not_t h_48) ?_
      refine PR.op rfl (Rd.moveT rfl) ?_
      refine PR.guard_on rfl rfl (not_t h_48) ?_
      refine PR.op rfl (Rd.moveO rfl) ?_
      refine PR.guard_on rfl rfl (not_t h_48) ?_
      refine PR.op rfl (Rd.moveT rfl) ?_
      refine PR.guard_on rfl rfl (not_t h_48) ?_
      refine PR.op rfl (Rd.ixOM rfl rfl rfl (ixI_lt h_43)) ?_
      refine PR.guard_on rfl rfl (not_t h_48) ?_
      refine PR.op rfl (Rd.owMR rfl rfl h_43 rfl rfl) ?_
      refine PR.guard_on rfl rfl (not_t h_48) ?_
      refine PR.op rfl (Rd.loadBox rfl rfl rfl) ?_
      refine PR.guard_on rfl rfl (not_t h_48) ?_
      refine PR.op rfl (Rd.eqlE (a := x42) (b := r2.2) rfl rfl rfl rfl) ?_
      refine PR.guard_on rfl rfl (not_t h_48) ?_
      refine PR.op rfl (Rd.eqlB rfl rfl) ?_
      refine PR.op rfl (Rd.pick_f rfl (not_t h_48)) ?_
      refine PR.op rfl (Rd.moveT rfl) ?_
      refine PR.guard_on rfl rfl h_49 ?_
      refine PR.op rfl (Rd.moveO rfl) ?_
      refine PR.guard_on rfl rfl h_49 ?_
      refine PR.op rfl (Rd.moveT rfl) ?_
      refine PR.guard_on rfl rfl h_49 ?_
      refine PR.op rfl (Rd.ixOM rfl rfl rfl (ixI_lt h_43)) ?_
      refine PR.guard_on rfl rfl h_49 ?_
      refine PR.op rfl (Rd.owMR rfl rfl h_43 rfl rfl) ?_
      refine PR.guard_on rfl rfl h_49 ?_
      refine PR.op rfl (Rd.loadBox rfl rfl rfl) ?_
      refine PR.guard_on rfl rfl h_49 ?_
      refine PR.op rfl (Rd.neqE (a := x42) (b := r2.2) rfl rfl rfl rfl) ?_
      refine PR.guard_on rfl rfl h_49 ?_
      refine PR.op rfl (Rd.moveT rfl) ?_
      refine PR.guard_off rfl rfl (not_t h_50) ?_
      refine PR.guard_off rfl rfl (not_t h_50) ?_
      refine PR.guard_off rfl rfl (not_t h_50) ?_
      refine PR.guard_on rfl rfl h_49 ?_
      refine PR.op rfl (Rd.pick_f rfl (not_t h_50)) ?_
      refine PR.op rfl (Rd.pick_f rfl h_49) ?_
      refine PR.nil ?_
      refine PT.done ?_
      refine PL.nil ?_
      refine thA_n ?_
      refine PC.cond_false rfl rfl ?_
      refine PC.skip ?_
      refine inA_n ?_
      refine thA_n ?_
      obtain ⟨n51, h_52, hh1⟩ := bind_some hh1
      refine PC.region ?_
      refine PL.op rfl (Rd.moveT rfl) ?_
      refine PL.op rfl (Rd.addM rfl rfl h_52) ?_
      refine PL.op rfl (Rd.asnT rfl) ?_
      refine PL.nil ?_
      obtain rfl := some_in hh1
      refine thA_n ?_
      exact ⟨(f33, n51), Nat.lt_succ_self _, kk1, [some 0, some 1, some 2, some 3, some 4], ⟨rfl, rfl, ⟨⟨_, rfl, rfl, rfl, .mx ⟨.t _, trivial⟩⟩, ⟨_, rfl, rfl, rfl, .mx ⟨.t _, .t _, trivial⟩⟩, ⟨_, rfl, rfl, rfl, .mx ⟨.os rfl, trivial⟩⟩, ⟨_, rfl, rfl, rfl, .tr _⟩, ⟨_, rfl, rfl, rfl, .tr _⟩, trivial⟩, ⟨.op rfl, .op rfl, .op rfl, .os rfl, .t _, trivial⟩⟩⟩
    refine PC.any (id := 14) 25 (.seg [0, 1, 2, 3, 4, 5, 6, 7, 8, 9, 10, 11, 12, 13, 14, 15, 16, 17, 18, 19, 20, 21, 22, 23, 24] .done) [] rfl (by kernel_rfl) rfl ?_
    refine PT.seg ?_
    refine PR.op rfl (Rd.moveT rfl) ?_
    refine PR.op rfl (Rd.unnot rfl) ?_
    refine PR.op rfl (Rd.moveT rfl) ?_
    refine PR.guard_on rfl rfl (not_t h_48) ?_
    refine PR.op rfl (Rd.moveT rfl) ?_
    refine PR.guard_on rfl rfl (not_t h_48) ?_
    refine PR.op rfl (Rd.moveO rfl) ?_
    refine PR.guard_on rfl rfl (not_t h_48) ?_
    refine PR.op rfl (Rd.moveT rfl) ?_
    refine PR.guard_on rfl rfl (not_t h_48) ?_
    refine PR.op rfl (Rd.ixOM rfl rfl rfl (ixI_lt h_43)) ?_
    refine PR.guard_on rfl rfl (not_t h_48) ?_
    refine PR.op rfl (Rd.owMR rfl rfl h_43 rfl rfl) ?_
    refine PR.guard_on rfl rfl (not_t h_48) ?_
    refine PR.op rfl (Rd.loadBox rfl rfl rfl) ?_
    refine PR.guard_on rfl rfl (not_t h_48) ?_
    refine PR.op rfl (Rd.eqlE (a := x42) (b := r2.2) rfl rfl rfl rfl) ?_
    refine PR.guard_on rfl rfl (not_t h_48) ?_
    refine PR.op rfl (Rd.eqlB rfl rfl) ?_
    refine PR.op rfl (Rd.pick_f rfl (not_t h_48)) ?_
    refine PR.op rfl (Rd.moveT rfl) ?_
    refine PR.guard_on rfl rfl h_49 ?_
    refine PR.op rfl (Rd.moveO rfl) ?_
    refine PR.guard_on rfl rfl h_49 ?_
    refine PR.op rfl (Rd.moveT rfl) ?_
    refine PR.guard_on rfl rfl h_49 ?_
    refine PR.op rfl (Rd.ixOM rfl rfl rfl (ixI_lt h_43)) ?_
    refine PR.guard_on rfl rfl h_49 ?_
    refine PR.op rfl (Rd.owMR rfl rfl h_43 rfl rfl) ?_
    refine PR.guard_on rfl rfl h_49 ?_
    refine PR.op rfl (Rd.loadBox rfl rfl rfl) ?_
    refine PR.guard_on rfl rfl h_49 ?_
    refine PR.op rfl (Rd.neqE (a := x42) (b := r2.2) rfl rfl rfl rfl) ?_
    refine PR.guard_on rfl rfl h_49 ?_
    refine PR.op rfl (Rd.moveT rfl) ?_
    refine PR.guard_on rfl rfl (not_f h_50) ?_
    refine PR.op rfl (Rd.moveT rfl) ?_
    refine PR.guard_on rfl rfl (not_f h_50) ?_
    refine PR.op rfl (Rd.moveT rfl) ?_
    refine PR.guard_on rfl rfl (not_f h_50) ?_
    refine PR.op rfl (Rd.neqS rfl rfl) ?_
    refine PR.guard_on rfl rfl h_49 ?_
    refine PR.op rfl (Rd.pick_t rfl (not_f h_50)) ?_
    refine PR.op rfl (Rd.pick_f rfl h_49) ?_
    refine PR.nil ?_
    refine PT.done ?_
    refine PL.nil ?_
    refine thA_n ?_
    rcases cond_some hh1 with ⟨h_53, hh1⟩ | ⟨h_53, hh1⟩
    rotate_left
    · refine PC.cond_true rfl (not_f h_53) ?_
      refine PC.seq ?_
      refine PC.region ?_
      refine PL.op rfl (Rd.asnT rfl) ?_
      refine PL.nil ?_
      refine thA_n ?_
      refine PC.ret ?_
      refine inA_r ?_
      refine thA_r ?_
      refine thA_r ?_
      refine inA_r ?_
      refine thA_r ?_
      obtain rfl := some_in hh1
      obtain rfl : (.inr false : Unit ⊕ Bool) = o31 := kk1
      refine thA_r ?_
      obtain rfl := some_in hh0
      exact FinA.mk (r := bA false) (bl := []) [] (.inl rfl) rfl (rl := [.tmp 2]) (.tmp .nil) rfl rfl rfl (.t _) trivial ⟨rfl, rfl⟩
    refine PC.cond_false rfl (not_t h_53) ?_
    refine PC.skip ?_
    refine inA_n ?_
    refine thA_n ?_
    obtain ⟨n54, h_55, hh1⟩ := bind_some hh1
    refine PC.region ?_
    refine PL.op rfl (Rd.moveT rfl) ?_
    refine PL.op rfl (Rd.addM rfl rfl h_55) ?_
    refine PL.op rfl (Rd.asnT rfl) ?_
    refine PL.nil ?_
    obtain rfl := some_in hh1
    refine thA_n ?_
    exact ⟨(f33, n54), Nat.lt_succ_self _, kk1, [some 0, some 1, some 2, some 3, some 4], ⟨rfl, rfl, ⟨⟨_, rfl, rfl, rfl, .mx ⟨.t _, trivial⟩⟩, ⟨_, rfl, rfl, rfl, .mx ⟨.t _, .t _, trivial⟩⟩, ⟨_, rfl, rfl, rfl, .mx ⟨.os rfl, trivial⟩⟩, ⟨_, rfl, rfl, rfl, .tr _⟩, ⟨_, rfl, rfl, rfl, .tr _⟩, trivial⟩, ⟨.op rfl, .op rfl, .op rfl, .os rfl, .t _, trivial⟩⟩⟩
  clear hh0
  rintro ⟨⟩ hh0
  replace hh0 : m_L_FnHeapDelete_k1 N r2 r4 r13  = some r := hh0
  unfold m_L_FnHeapDelete_k1 at hh0
  refine thA_n ?_
  refine PC.seq ?_
  obtain ⟨r36, h_37, hh0⟩ := bind_some hh0
  obtain ⟨n38, h_39, hh0⟩ := bind_some hh0
  rcases cond_some hh0 with ⟨h_40, hh0⟩ | ⟨h_40, hh0⟩
  rotate_left
  · refine PC.region ?_
    refine PL.op rfl (Rd.loadBox rfl rfl rfl) ?_
    refine PL.callM true [] (w_I_HeapScan N r4.1 r36 h_37) rfl Try.call43 rfl ⟨.aggL ⟨.own rfl (by first | decide | exact List.not_mem_nil) rfl rfl, trivial⟩, trivial⟩ rfl trivial (fun _ => ⟨trivial, (flat_cons flat_ow flat_nil)⟩) ?_
    refine PL.nm (.os 4 0 r36.length) [some ⟨.mx [sL r2.1.pages], 58, 0⟩, some ⟨.mx [.os 2 0 r4.1.pages.length], 58, 0⟩, some ⟨.tr (eL r4.1.pages), 25, 1⟩, some ⟨.tr (eL r13), 62, 2⟩, some ⟨.tr (eL r36), 62, 2⟩] rfl rfl ?_
    refine PL.op rfl (Rd.lenO rfl rfl) ?_
    refine PL.op rfl (Rd.moveO rfl) ?_
    refine PL.op rfl (Rd.lenO rfl rfl) ?_
    refine PL.op rfl (Rd.subM rfl rfl h_39) ?_
    refine PL.op rfl (Rd.eql rfl rfl) ?_
    refine PL.op rfl (Rd.moveT rfl) ?_
    refine PL.guard_off rfl rfl h_40 ?_
    refine PL.guard_off rfl rfl h_40 ?_
    refine PL.guard_off rfl rfl h_40 ?_
    refine PL.guard_off rfl rfl h_40 ?_
    refine PL.guard_off rfl rfl h_40 ?_
    refine PL.guard_off rfl rfl h_40 ?_
    refine PL.guard_off rfl rfl h_40 ?_
    refine PL.op rfl (Rd.pick_f rfl h_40) ?_
    refine PL.op rfl (Rd.asnT rfl) ?_
    refine PL.nil ?_
    refine thA_n ?_
    refine PC.ret ?_
    obtain rfl := some_in hh0
    exact FinA.mk (r := bA false) (bl := []) [] (.inl rfl) rfl (rl := [.tmp 2]) (.tmp .nil) rfl rfl rfl (.t _) trivial ⟨rfl, rfl⟩
  refine PC.region ?_
  refine PL.op rfl (Rd.loadBox rfl rfl rfl) ?_
  refine PL.callM true [] (w_I_HeapScan N r4.1 r36 h_37) rfl Try.call43 rfl ⟨.aggL ⟨.own rfl (by first | decide | exact List.not_mem_nil) rfl rfl, trivial⟩, trivial⟩ rfl trivial (fun _ => ⟨trivial, (flat_cons flat_ow flat_nil)⟩) ?_
  refine PL.nm (.os 4 0 r36.length) [some ⟨.mx [sL r2.1.pages], 58, 0⟩, some ⟨.mx [.os 2 0 r4.1.pages.length], 58, 0⟩, some ⟨.tr (eL r4.1.pages), 25, 1⟩, some ⟨.tr (eL r13), 62, 2⟩, some ⟨.tr (eL r36), 62, 2⟩] rfl rfl ?_
  refine PL.op rfl (Rd.lenO rfl rfl) ?_
  refine PL.op rfl (Rd.moveO rfl) ?_
  refine PL.op rfl (Rd.lenO rfl rfl) ?_
  refine PL.op rfl (Rd.subM rfl rfl h_39) ?_
  refine PL.op rfl (Rd.eql rfl rfl) ?_
  refine PL.op rfl (Rd.moveT rfl) ?_
  refine PL.guard_on rfl h_40 ?_
  refine PL.op rfl (Rd.fieldO rfl rfl) ?_
  refine PL.guard_on rfl h_40 ?_
  refine PL.op rfl (Rd.loadO rfl rfl rfl) ?_
  refine PL.guard_on rfl h_40 ?_
  refine PL.op rfl (Rd.lenO rfl rfl) ?_
  refine PL.guard_on rfl h_40 ?_
  refine PL.op rfl (Rd.fieldO rfl rfl) ?_
  refine PL.guard_on rfl h_40 ?_
  refine PL.op rfl (Rd.loadO rfl rfl rfl) ?_
  refine PL.guard_on rfl h_40 ?_
  refine PL.op rfl (Rd.lenT rfl) ?_
  refine PL.guard_on rfl h_40 ?_
  refine PL.op rfl (Rd.eql rfl rfl) ?_
  refine PL.op rfl (Rd.pick_t rfl h_40) ?_
  refine PL.op rfl (Rd.asnT rfl) ?_
  refine PL.nil ?_
  refine thA_n ?_
  refine PC.ret ?_
  obtain rfl := some_in hh0
  exact FinA.mk (r := bA (decide ((r4.1.pages.length : Int) = (r2.1.pages.length : Int)))) (bl := []) [] (.inl rfl) rfl (rl := [.tmp 2]) (.tmp .nil) rfl rfl rfl (.t _) trivial ⟨rfl, rfl⟩

end V
end Go.Proofs.Ytoljdhdfijnjiaa
