/- Heaps: a law's function. No condition. -/
import Derived.Test.YtoljdhdfijnjiaaHpEa
namespace Go.Proofs.Ytoljdhdfijnjiaa
namespace V
open Enc (enc)
set_option linter.unusedVariables false
set_option linter.unusedSimpArgs false
set_option maxHeartbeats 4000000
set_option maxRecDepth 100000
open Go.RowKit
attribute [local irreducible] thA inA FinA eL

def m_L_FnHeapInsertFirst_k1 (N : Nat) (r2 : (I_Heap × ByteArray)) (r4 : (I_Heap × I_Rid × Bool)) : Option (Bool) :=
  (chk (r4.2.1.page + (1 : Int))).bind fun n28 =>
  some (decide ((r4.1.pages.length : Int) = (max (r2.1.pages.length : Int) n28)))
def m_L_FnHeapInsertFirst_b1 (N : Nat) (r2 : (I_Heap × ByteArray)) (r4 : (I_Heap × I_Rid × Bool)) (x14 : Int) : Option (Int ⊕ (Unit ⊕ Bool)) :=
  cond (decide (x14 < r4.2.1.page))
    ((ixI r2.1.pages x14).bind fun x31 =>
    (m_I_PutSlot N x31 r2.2).bind fun r33 =>
    cond r33.2.2
      (some (.inr (.inr false)))
      ((chk (x14 + (1 : Int))).bind fun n36 =>
      some (.inl n36)))
    (some (.inr (.inl ())))
def m_L_FnHeapInsertFirst (N : Nat) (p_code : (List UInt8)) : Option (Bool) :=
  cond (decide ((1048576 : Int) < (p_code.length : Int)))
    (some true)
    ((m_S_DrawHeapInsert N p_code).bind fun r2 =>
    (m_I_HeapInsert N r2.1 r2.2).bind fun r4 =>
    (m_S_HeapInsert N r2.1 r2.2).bind fun r6 =>
    (m_L_equalHeap N r4.1 r6.1).bind fun r8 =>
    cond r8
      (cond (decide (r4.2.1 = r6.2.1))
        (cond (r4.2.2 == r6.2.2)
          (cond r4.2.2
            ((loopM (β := Unit ⊕ Bool) (fun s : Int => m_L_FnHeapInsertFirst_b1 N r2 r4 s) N (0 : Int)).bind fun o => match o with
            | .inl e =>
              m_L_FnHeapInsertFirst_k1 N r2 r4 
            | .inr v =>
              some v)
            ((m_L_equalHeap N r4.1 r6.1).bind fun r38 =>
            cond r38
              (some (r4.2.2 == r6.2.2))
              (some false)))
          ((m_L_equalHeap N r4.1 r6.1).bind fun r41 =>
          cond r41
            (some (r4.2.2 == r6.2.2))
            (some false)))
        ((m_L_equalHeap N r4.1 r6.1).bind fun r44 =>
        cond r44
          (some false)
          (some false)))
      ((m_L_equalHeap N r4.1 r6.1).bind fun r47 =>
      cond r47
        (cond (decide (r4.2.1 = r6.2.1))
          (some (r4.2.2 == r6.2.2))
          (some false))
        (some false)))
theorem w_L_FnHeapInsertFirst (N : Nat) (p_code : (List UInt8)) (r : Bool) (hh0 : m_L_FnHeapInsertFirst N p_code = some r) : FnX Try.prog 12 [] [sL p_code] (RE (bA r) []) := by
  unfold m_L_FnHeapInsertFirst at hh0
  refine FnX.mk Try.func12 rfl rfl ?_
  intro s hs
  refine PC.seq ?_
  refine PC.region ?_
  refine PL.op rfl (Rd.asnT rfl) ?_
  refine PL.nil ?_
  refine thA_n ?_
  refine PC.seq ?_
  refine PC.seq ?_
  refine PC.region ?_
  refine PL.op rfl (Rd.moveT rfl) ?_
  refine PL.op rfl (Rd.lenT rfl) ?_
  refine PL.op rfl (Rd.gtr rfl rfl) ?_
  refine PL.nil ?_
  refine thA_n ?_
  rcases cond_some hh0 with ⟨h_1, hh0⟩ | ⟨h_1, hh0⟩
  · refine PC.cond_true rfl h_1 ?_
    refine PC.seq ?_
    refine PC.region ?_
    refine PL.op rfl (Rd.asnT rfl) ?_
    refine PL.nil ?_
    refine thA_n ?_
    refine PC.ret ?_
    refine thA_r ?_
    obtain rfl := some_in hh0
    exact FinA.mk (r := bA true) (bl := []) [] (.inl rfl) rfl (rl := [.tmp 2]) (.tmp .nil) rfl rfl rfl (.t _) trivial ⟨rfl, rfl⟩
  refine PC.cond_false rfl h_1 ?_
  refine PC.skip ?_
  refine thA_n ?_
  refine PC.seq ?_
  obtain ⟨r2, h_3, hh0⟩ := bind_some hh0
  refine PC.region ?_
  refine PL.op rfl (Rd.moveT rfl) ?_
  refine PL.callM false [] (w_S_DrawHeapInsert N p_code r2 h_3) rfl Try.call39 rfl ⟨.t _, trivial⟩ rfl trivial (fun h => by cases h) ?_
  refine PL.nm (.tup [.agg [.os 0 0 r2.1.pages.length], sA r2.2]) [some ⟨.tr (eL r2.1.pages), 25, 1⟩] rfl rfl ?_
  refine PL.op rfl (Rd.moveU rfl) ?_
  refine PL.op rfl (Rd.extract rfl rfl) ?_
  refine PL.op rfl (Rd.extract rfl rfl) ?_
  refine PL.ef rfl (Ef.alloc rfl rfl) ?_
  refine PL.nm (.op 1 0) [some ⟨.tr (eL r2.1.pages), 25, 1⟩, some ⟨.mx [.t (.v (.slice none 0 0))], 58, 0⟩] rfl rfl ?_
  refine PL.store rfl rfl rfl rfl rfl rfl rfl ?_
  refine PL.nO [some ⟨.tr (eL r2.1.pages), 25, 1⟩, some ⟨.mx [.os 0 0 r2.1.pages.length], 58, 0⟩] rfl ?_
  refine PL.op rfl (Rd.asnT rfl) ?_
  refine PL.nil ?_
  refine thA_n ?_
  refine PC.seq ?_
  obtain ⟨r4, h_5, hh0⟩ := bind_some hh0
  refine PC.region ?_
  refine PL.op rfl (Rd.loadBox rfl rfl rfl) ?_
  refine PL.op rfl (Rd.moveT rfl) ?_
  refine PL.frz hs 0 2 [(20, .tup [.agg [sL r2.1.pages], sA r2.2]), (18, .tup [.agg [sL r2.1.pages], sA r2.2]), (21, .agg [sL r2.1.pages]), (24, .agg [sL r2.1.pages])] [none, some ⟨.mx [sL r2.1.pages], 58, 0⟩] rfl rfl ⟨(.tupL ⟨(.aggL ⟨(.own rfl (by decide) rfl rfl), trivial⟩), (.t _), trivial⟩), (.tupL ⟨(.aggL ⟨(.own rfl (by decide) rfl rfl), trivial⟩), (.t _), trivial⟩), (.aggL ⟨(.own rfl (by decide) rfl rfl), trivial⟩), (.aggL ⟨(.own rfl (by decide) rfl rfl), trivial⟩), trivial⟩ ⟨⟨rfl, .inr ⟨_, rfl, rfl, rfl, .mx ⟨(.own rfl (by decide) rfl rfl), trivial⟩⟩⟩, trivial⟩ ?_
  refine PL.callM false [] (w_I_HeapInsert N r2.1 r2.2 r4 h_5) rfl Try.call40 rfl ⟨.aggL ⟨.t _, trivial⟩, .t _, trivial⟩ rfl trivial (fun h => by cases h) ?_
  refine PL.nm (.tup [.agg [.os 2 0 r4.1.pages.length], .agg [iA r4.2.1.page, iA r4.2.1.slot], bA r4.2.2]) [none, some ⟨.mx [sL r2.1.pages], 58, 0⟩, some ⟨.tr (eL r4.1.pages), 25, 1⟩] rfl rfl ?_
  refine PL.op rfl (Rd.moveU rfl) ?_
  refine PL.op rfl (Rd.extract rfl rfl) ?_
  refine PL.op rfl (Rd.extract rfl rfl) ?_
  refine PL.op rfl (Rd.extract rfl rfl) ?_
  refine PL.ef rfl (Ef.alloc rfl rfl) ?_
  refine PL.nm (.op 3 0) [none, some ⟨.mx [sL r2.1.pages], 58, 0⟩, some ⟨.tr (eL r4.1.pages), 25, 1⟩, some ⟨.mx [.t (.v (.slice none 0 0))], 58, 0⟩] rfl rfl ?_
  refine PL.ef rfl (Ef.alloc rfl rfl) ?_
  refine PL.nm (.op 4 0) [none, some ⟨.mx [sL r2.1.pages], 58, 0⟩, some ⟨.tr (eL r4.1.pages), 25, 1⟩, some ⟨.mx [.t (.v (.slice none 0 0))], 58, 0⟩, some ⟨.mx [iA (0 : Int), iA (0 : Int)], 62, 0⟩] rfl rfl ?_
  refine PL.store rfl rfl rfl rfl rfl rfl rfl ?_
  refine PL.nO [none, some ⟨.mx [sL r2.1.pages], 58, 0⟩, some ⟨.tr (eL r4.1.pages), 25, 1⟩, some ⟨.mx [.os 2 0 r4.1.pages.length], 58, 0⟩, some ⟨.mx [iA (0 : Int), iA (0 : Int)], 62, 0⟩] rfl ?_
  refine PL.store rfl rfl rfl rfl rfl rfl rfl ?_
  refine PL.nO [none, some ⟨.mx [sL r2.1.pages], 58, 0⟩, some ⟨.tr (eL r4.1.pages), 25, 1⟩, some ⟨.mx [.os 2 0 r4.1.pages.length], 58, 0⟩, some ⟨.mx [iA r4.2.1.page, iA r4.2.1.slot], 62, 0⟩] rfl ?_
  refine PL.op rfl (Rd.asnT rfl) ?_
  refine PL.nil ?_
  refine thA_n ?_
  refine PC.seq ?_
  obtain ⟨r6, h_7, hh0⟩ := bind_some hh0
  refine PC.region ?_
  refine PL.op rfl (Rd.loadBox rfl rfl rfl) ?_
  refine PL.op rfl (Rd.moveT rfl) ?_
  refine PL.callM false [] (w_S_HeapInsert N r2.1 r2.2 r6 h_7) rfl Try.call41 rfl ⟨.aggL ⟨.t _, trivial⟩, .t _, trivial⟩ rfl trivial (fun h => by cases h) ?_
  refine PL.nm (.tup [.agg [.os 5 0 r6.1.pages.length], .agg [iA r6.2.1.page, iA r6.2.1.slot], bA r6.2.2]) [none, some ⟨.mx [sL r2.1.pages], 58, 0⟩, some ⟨.tr (eL r4.1.pages), 25, 1⟩, some ⟨.mx [.os 2 0 r4.1.pages.length], 58, 0⟩, some ⟨.mx [iA r4.2.1.page, iA r4.2.1.slot], 62, 0⟩, some ⟨.tr (eL r6.1.pages), 25, 1⟩] rfl rfl ?_
  refine PL.op rfl (Rd.moveU rfl) ?_
  refine PL.op rfl (Rd.extract rfl rfl) ?_
  refine PL.op rfl (Rd.extract rfl rfl) ?_
  refine PL.op rfl (Rd.extract rfl rfl) ?_
  refine PL.ef rfl (Ef.alloc rfl rfl) ?_
  refine PL.nm (.op 6 0) [none, some ⟨.mx [sL r2.1.pages], 58, 0⟩, some ⟨.tr (eL r4.1.pages), 25, 1⟩, some ⟨.mx [.os 2 0 r4.1.pages.length], 58, 0⟩, some ⟨.mx [iA r4.2.1.page, iA r4.2.1.slot], 62, 0⟩, some ⟨.tr (eL r6.1.pages), 25, 1⟩, some ⟨.mx [.t (.v (.slice none 0 0))], 58, 0⟩] rfl rfl ?_
  refine PL.ef rfl (Ef.alloc rfl rfl) ?_
  refine PL.nm (.op 7 0) [none, some ⟨.mx [sL r2.1.pages], 58, 0⟩, some ⟨.tr (eL r4.1.pages), 25, 1⟩, some ⟨.mx [.os 2 0 r4.1.pages.length], 58, 0⟩, some ⟨.mx [iA r4.2.1.page, iA r4.2.1.slot], 62, 0⟩, some ⟨.tr (eL r6.1.pages), 25, 1⟩, some ⟨.mx [.t (.v (.slice none 0 0))], 58, 0⟩, some ⟨.mx [iA (0 : Int), iA (0 : Int)], 62, 0⟩] rfl rfl ?_
  refine PL.store rfl rfl rfl rfl rfl rfl rfl ?_
  refine PL.nO [none, some ⟨.mx [sL r2.1.pages], 58, 0⟩, some ⟨.tr (eL r4.1.pages), 25, 1⟩, some ⟨.mx [.os 2 0 r4.1.pages.length], 58, 0⟩, some ⟨.mx [iA r4.2.1.page, iA r4.2.1.slot], 62, 0⟩, some ⟨.tr (eL r6.1.pages), 25, 1⟩, some ⟨.mx [.os 5 0 r6.1.pages.length], 58, 0⟩, some ⟨.mx [iA (0 : Int), iA (0 : Int)], 62, 0⟩] rfl ?_
  refine PL.store rfl rfl rfl rfl rfl rfl rfl ?_
  refine PL.nO [none, some ⟨.mx [sL r2.1.pages], 58, 0⟩, some ⟨.tr (eL r4.1.pages), 25, 1⟩, some ⟨.mx [.os 2 0 r4.1.pages.length], 58, 0⟩, some ⟨.mx [iA r4.2.1.page, iA r4.2.1.slot], 62, 0⟩, some ⟨.tr (eL r6.1.pages), 25, 1⟩, some ⟨.mx [.os 5 0 r6.1.pages.length], 58, 0⟩, some ⟨.mx [iA r6.2.1.page, iA r6.2.1.slot], 62, 0⟩] rfl ?_
  refine PL.op rfl (Rd.asnT rfl) ?_
  refine PL.nil ?_
  refine thA_n ?_
  refine PC.seq ?_
  refine PC.seq ?_
  obtain ⟨r8, h_9, hh0⟩ := bind_some hh0
  rcases cond_some hh0 with ⟨h_10, hh0⟩ | ⟨h_10, hh0⟩
  rotate_left
  · refine PC.region ?_
    refine PL.op rfl (Rd.loadBox rfl rfl rfl) ?_
    refine PL.op rfl (Rd.loadBox rfl rfl rfl) ?_
    refine PL.callM true [] (w_L_equalHeap N r4.1 r6.1 r8 h_9) rfl Try.call42 rfl ⟨.aggL ⟨.own rfl (by first | decide | exact List.not_mem_nil) rfl rfl, trivial⟩, .aggL ⟨.own rfl (by first | decide | exact List.not_mem_nil) rfl rfl, trivial⟩, trivial⟩ rfl trivial (fun _ => ⟨trivial, flat_nil⟩) ?_
    refine PL.op rfl (Rd.unnot rfl) ?_
    refine PL.op rfl (Rd.moveT rfl) ?_
    refine PL.guard_off rfl rfl (not_f h_10) ?_
    refine PL.guard_off rfl rfl (not_f h_10) ?_
    refine PL.guard_off rfl rfl (not_f h_10) ?_
    refine PL.op rfl (Rd.pick_t rfl (not_f h_10)) ?_
    refine PL.op rfl (Rd.moveT rfl) ?_
    refine PL.guard_off rfl rfl rfl ?_
    refine PL.guard_off rfl rfl rfl ?_
    refine PL.guard_off rfl rfl rfl ?_
    refine PL.op rfl (Rd.pick_t rfl rfl) ?_
    refine PL.op rfl (Rd.moveT rfl) ?_
    refine PL.guard_off rfl rfl rfl ?_
    refine PL.guard_off rfl rfl rfl ?_
    refine PL.op rfl (Rd.pick_t rfl rfl) ?_
    refine PL.nil ?_
    refine thA_n ?_
    refine PC.cond_true rfl rfl ?_
    refine PC.seq ?_
    obtain ⟨r47, h_48, hh0⟩ := bind_some hh0
    rcases cond_some hh0 with ⟨h_49, hh0⟩ | ⟨h_49, hh0⟩
    rotate_left
    · refine PC.region ?_
      refine PL.op rfl (Rd.loadBox rfl rfl rfl) ?_
      refine PL.op rfl (Rd.loadBox rfl rfl rfl) ?_
      refine PL.callM true [] (w_L_equalHeap N r4.1 r6.1 r47 h_48) rfl Try.call42 rfl ⟨.aggL ⟨.own rfl (by first | decide | exact List.not_mem_nil) rfl rfl, trivial⟩, .aggL ⟨.own rfl (by first | decide | exact List.not_mem_nil) rfl rfl, trivial⟩, trivial⟩ rfl trivial (fun _ => ⟨trivial, flat_nil⟩) ?_
      refine PL.op rfl (Rd.moveT rfl) ?_
      refine PL.guard_off rfl rfl h_49 ?_
      refine PL.guard_off rfl rfl h_49 ?_
      refine PL.guard_off rfl rfl h_49 ?_
      refine PL.op rfl (Rd.pick_f rfl h_49) ?_
      refine PL.op rfl (Rd.moveT rfl) ?_
      refine PL.guard_off rfl rfl rfl ?_
      refine PL.guard_off rfl rfl rfl ?_
      refine PL.guard_off rfl rfl rfl ?_
      refine PL.op rfl (Rd.pick_f rfl rfl) ?_
      refine PL.op rfl (Rd.asnT rfl) ?_
      refine PL.nil ?_
      refine thA_n ?_
      refine PC.ret ?_
      refine thA_r ?_
      obtain rfl := some_in hh0
      exact FinA.mk (r := bA false) (bl := []) [] (.inl rfl) rfl (rl := [.tmp 2]) (.tmp .nil) rfl rfl rfl (.t _) trivial ⟨rfl, rfl⟩
    rcases cond_some hh0 with ⟨h_50, hh0⟩ | ⟨h_50, hh0⟩
    rotate_left
    · refine PC.region ?_
      refine PL.op rfl (Rd.loadBox rfl rfl rfl) ?_
      refine PL.op rfl (Rd.loadBox rfl rfl rfl) ?_
      refine PL.callM true [] (w_L_equalHeap N r4.1 r6.1 r47 h_48) rfl Try.call42 rfl ⟨.aggL ⟨.own rfl (by first | decide | exact List.not_mem_nil) rfl rfl, trivial⟩, .aggL ⟨.own rfl (by first | decide | exact List.not_mem_nil) rfl rfl, trivial⟩, trivial⟩ rfl trivial (fun _ => ⟨trivial, flat_nil⟩) ?_
      refine PL.op rfl (Rd.moveT rfl) ?_
      refine PL.guard_on rfl h_49 ?_
      refine PL.op rfl (Rd.loadBox rfl rfl rfl) ?_
      refine PL.guard_on rfl h_49 ?_
      refine PL.op rfl (Rd.loadBox rfl rfl rfl) ?_
      refine PL.guard_on rfl h_49 ?_
      refine PL.op rfl (Rd.eqlE (a := r4.2.1) (b := r6.2.1) rfl rfl rfl rfl) ?_
      refine PL.op rfl (Rd.pick_t rfl h_49) ?_
      refine PL.op rfl (Rd.moveT rfl) ?_
      refine PL.guard_off rfl rfl h_50 ?_
      refine PL.guard_off rfl rfl h_50 ?_
      refine PL.guard_off rfl rfl h_50 ?_
      refine PL.op rfl (Rd.pick_f rfl h_50) ?_
      refine PL.op rfl (Rd.asnT rfl) ?_
      refine PL.nil ?_
      refine thA_n ?_
      refine PC.ret ?_
      refine thA_r ?_
      obtain rfl := some_in hh0
      exact FinA.mk (r := bA false) (bl := []) [] (.inl rfl) rfl (rl := [.tmp 2]) (.tmp .nil) rfl rfl rfl (.t _) trivial ⟨rfl, rfl⟩
    refine PC.region ?_
    refine PL.op rfl (Rd.loadBox rfl rfl rfl) ?_
    refine PL.op rfl (Rd.loadBox rfl rfl rfl) ?_
    refine PL.callM true [] (w_L_equalHeap N r4.1 r6.1 r47 h_48) rfl Try.call42 rfl ⟨.aggL ⟨.own rfl (by first | decide | exact List.not_mem_nil) rfl rfl, trivial⟩, .aggL ⟨.own rfl (by first | decide | exact List.not_mem_nil) rfl rfl, trivial⟩, trivial⟩ rfl trivial (fun _ => ⟨trivial, flat_nil⟩) ?_
    refine PL.op rfl (Rd.moveT rfl) ?_
    refine PL.guard_on rfl h_49 ?_
    refine PL.op rfl (Rd.loadBox rfl rfl rfl) ?_
    refine PL.guard_on rfl h_49 ?_
    refine PL.op rfl (Rd.loadBox rfl rfl rfl) ?_
    refine PL.guard_on rfl h_49 ?_
    refine PL.op rfl (Rd.eqlE (a := r4.2.1) (b := r6.2.1) rfl rfl rfl rfl) ?_
    refine PL.op rfl (Rd.pick_t rfl h_49) ?_
    refine PL.op rfl (Rd.moveT rfl) ?_
    refine PL.guard_on rfl h_50 ?_
    refine PL.op rfl (Rd.moveT rfl) ?_
    refine PL.guard_on rfl h_50 ?_
    refine PL.op rfl (Rd.moveT rfl) ?_
    refine PL.guard_on rfl h_50 ?_
    refine PL.op rfl (Rd.eqlB rfl rfl) ?_
    refine PL.op rfl (Rd.pick_t rfl h_50) ?_
    refine PL.op rfl (Rd.asnT rfl) ?_
    refine PL.nil ?_
    refine thA_n ?_
    refine PC.ret ?_
    refine thA_r ?_
    obtain rfl := some_in hh0
    exact FinA.mk (r := bA (r4.2.2 == r6.2.2)) (bl := []) [] (.inl rfl) rfl (rl := [.tmp 2]) (.tmp .nil) rfl rfl rfl (.t _) trivial ⟨rfl, rfl⟩
  rcases cond_some hh0 with ⟨h_11, hh0⟩ | ⟨h_11, hh0⟩
  rotate_left
  · refine PC.region ?_
    refine PL.op rfl (Rd.loadBox rfl rfl rfl) ?_
    refine PL.op rfl (Rd.loadBox rfl rfl rfl) ?_
    refine PL.callM true [] (w_L_equalHeap N r4.1 r6.1 r8 h_9) rfl Try.call42 rfl ⟨.aggL ⟨.own rfl (by first | decide | exact List.not_mem_nil) rfl rfl, trivial⟩, .aggL ⟨.own rfl (by first | decide | exact List.not_mem_nil) rfl rfl, trivial⟩, trivial⟩ rfl trivial (fun _ => ⟨trivial, flat_nil⟩) ?_
    refine PL.op rfl (Rd.unnot rfl) ?_
    refine PL.op rfl (Rd.moveT rfl) ?_
    refine PL.guard_on rfl (not_t h_10) ?_
    refine PL.op rfl (Rd.loadBox rfl rfl rfl) ?_
    refine PL.guard_on rfl (not_t h_10) ?_
    refine PL.op rfl (Rd.loadBox rfl rfl rfl) ?_
    refine PL.guard_on rfl (not_t h_10) ?_
    refine PL.op rfl (Rd.neqE (a := r4.2.1) (b := r6.2.1) rfl rfl rfl rfl) ?_
    refine PL.op rfl (Rd.pick_f rfl (not_t h_10)) ?_
    refine PL.op rfl (Rd.moveT rfl) ?_
    refine PL.guard_off rfl rfl (not_f h_11) ?_
    refine PL.guard_off rfl rfl (not_f h_11) ?_
    refine PL.guard_off rfl rfl (not_f h_11) ?_
    refine PL.op rfl (Rd.pick_t rfl (not_f h_11)) ?_
    refine PL.op rfl (Rd.moveT rfl) ?_
    refine PL.guard_off rfl rfl rfl ?_
    refine PL.guard_off rfl rfl rfl ?_
    refine PL.op rfl (Rd.pick_t rfl rfl) ?_
    refine PL.nil ?_
    refine thA_n ?_
    refine PC.cond_true rfl rfl ?_
    refine PC.seq ?_
    obtain ⟨r44, h_45, hh0⟩ := bind_some hh0
    rcases cond_some hh0 with ⟨h_46, hh0⟩ | ⟨h_46, hh0⟩
    rotate_left
    · refine PC.region ?_
      refine PL.op rfl (Rd.loadBox rfl rfl rfl) ?_
      refine PL.op rfl (Rd.loadBox rfl rfl rfl) ?_
      refine PL.callM true [] (w_L_equalHeap N r4.1 r6.1 r44 h_45) rfl Try.call42 rfl ⟨.aggL ⟨.own rfl (by first | decide | exact List.not_mem_nil) rfl rfl, trivial⟩, .aggL ⟨.own rfl (by first | decide | exact List.not_mem_nil) rfl rfl, trivial⟩, trivial⟩ rfl trivial (fun _ => ⟨trivial, flat_nil⟩) ?_
      refine PL.op rfl (Rd.moveT rfl) ?_
      refine PL.guard_off rfl rfl h_46 ?_
      refine PL.guard_off rfl rfl h_46 ?_
      refine PL.guard_off rfl rfl h_46 ?_
      refine PL.op rfl (Rd.pick_f rfl h_46) ?_
      refine PL.op rfl (Rd.moveT rfl) ?_
      refine PL.guard_off rfl rfl rfl ?_
      refine PL.guard_off rfl rfl rfl ?_
      refine PL.guard_off rfl rfl rfl ?_
      refine PL.op rfl (Rd.pick_f rfl rfl) ?_
      refine PL.op rfl (Rd.asnT rfl) ?_
      refine PL.nil ?_
      refine thA_n ?_
      refine PC.ret ?_
      refine thA_r ?_
      obtain rfl := some_in hh0
      exact FinA.mk (r := bA false) (bl := []) [] (.inl rfl) rfl (rl := [.tmp 2]) (.tmp .nil) rfl rfl rfl (.t _) trivial ⟨rfl, rfl⟩
    refine PC.region ?_
    refine PL.op rfl (Rd.loadBox rfl rfl rfl) ?_
    refine PL.op rfl (Rd.loadBox rfl rfl rfl) ?_
    refine PL.callM true [] (w_L_equalHeap N r4.1 r6.1 r44 h_45) rfl Try.call42 rfl ⟨.aggL ⟨.own rfl (by first | decide | exact List.not_mem_nil) rfl rfl, trivial⟩, .aggL ⟨.own rfl (by first | decide | exact List.not_mem_nil) rfl rfl, trivial⟩, trivial⟩ rfl trivial (fun _ => ⟨trivial, flat_nil⟩) ?_
    refine PL.op rfl (Rd.moveT rfl) ?_
    refine PL.guard_on rfl h_46 ?_
    refine PL.op rfl (Rd.loadBox rfl rfl rfl) ?_
    refine PL.guard_on rfl h_46 ?_
    refine PL.op rfl (Rd.loadBox rfl rfl rfl) ?_
    refine PL.guard_on rfl h_46 ?_
    refine PL.op rfl (Rd.eqlE (a := r4.2.1) (b := r6.2.1) rfl rfl rfl rfl) ?_
    refine PL.op rfl (Rd.pick_t rfl h_46) ?_
    refine PL.op rfl (Rd.moveT rfl) ?_
    refine PL.guard_off rfl rfl h_11 ?_
    refine PL.guard_off rfl rfl h_11 ?_
    refine PL.guard_off rfl rfl h_11 ?_
    refine PL.op rfl (Rd.pick_f rfl h_11) ?_
    refine PL.op rfl (Rd.asnT rfl) ?_
    refine PL.nil ?_
    refine thA_n ?_
    refine PC.ret ?_
    refine thA_r ?_
    obtain rfl := some_in hh0
    exact FinA.mk (r := bA false) (bl := []) [] (.inl rfl) rfl (rl := [.tmp 2]) (.tmp .nil) rfl rfl rfl (.t _) trivial ⟨rfl, rfl⟩
  rcases cond_some hh0 with ⟨h_12, hh0⟩ | ⟨h_12, hh0⟩
  rotate_left
  · refine PC.region ?_
    refine PL.op rfl (Rd.loadBox rfl rfl rfl) ?_
    refine PL.op rfl (Rd.loadBox rfl rfl rfl) ?_
    refine PL.callM true [] (w_L_equalHeap N r4.1 r6.1 r8 h_9) rfl Try.call42 rfl ⟨.aggL ⟨.own rfl (by first | decide | exact List.not_mem_nil) rfl rfl, trivial⟩, .aggL ⟨.own rfl (by first | decide | exact List.not_mem_nil) rfl rfl, trivial⟩, trivial⟩ rfl trivial (fun _ => ⟨trivial, flat_nil⟩) ?_
    refine PL.op rfl (Rd.unnot rfl) ?_
    refine PL.op rfl (Rd.moveT rfl) ?_
    refine PL.guard_on rfl (not_t h_10) ?_
    refine PL.op rfl (Rd.loadBox rfl rfl rfl) ?_
    refine PL.guard_on rfl (not_t h_10) ?_
    refine PL.op rfl (Rd.loadBox rfl rfl rfl) ?_
    refine PL.guard_on rfl (not_t h_10) ?_
    refine PL.op rfl (Rd.neqE (a := r4.2.1) (b := r6.2.1) rfl rfl rfl rfl) ?_
    refine PL.op rfl (Rd.pick_f rfl (not_t h_10)) ?_
    refine PL.op rfl (Rd.moveT rfl) ?_
    refine PL.guard_on rfl (not_t h_11) ?_
    refine PL.op rfl (Rd.moveT rfl) ?_
    refine PL.guard_on rfl (not_t h_11) ?_
    refine PL.op rfl (Rd.moveT rfl) ?_
    refine PL.guard_on rfl (not_t h_11) ?_
    refine PL.op rfl (Rd.neqB rfl rfl) ?_
    refine PL.op rfl (Rd.pick_f rfl (not_t h_11)) ?_
    refine PL.op rfl (Rd.moveT rfl) ?_
    refine PL.guard_off rfl rfl (not_f h_12) ?_
    refine PL.guard_off rfl rfl (not_f h_12) ?_
    refine PL.op rfl (Rd.pick_t rfl (not_f h_12)) ?_
    refine PL.nil ?_
    refine thA_n ?_
    refine PC.cond_true rfl rfl ?_
    refine PC.seq ?_
    obtain ⟨r41, h_42, hh0⟩ := bind_some hh0
    rcases cond_some hh0 with ⟨h_43, hh0⟩ | ⟨h_43, hh0⟩
    rotate_left
    · refine PC.region ?_
      refine PL.op rfl (Rd.loadBox rfl rfl rfl) ?_
      refine PL.op rfl (Rd.loadBox rfl rfl rfl) ?_
      refine PL.callM true [] (w_L_equalHeap N r4.1 r6.1 r41 h_42) rfl Try.call42 rfl ⟨.aggL ⟨.own rfl (by first | decide | exact List.not_mem_nil) rfl rfl, trivial⟩, .aggL ⟨.own rfl (by first | decide | exact List.not_mem_nil) rfl rfl, trivial⟩, trivial⟩ rfl trivial (fun _ => ⟨trivial, flat_nil⟩) ?_
      refine PL.op rfl (Rd.moveT rfl) ?_
      refine PL.guard_off rfl rfl h_43 ?_
      refine PL.guard_off rfl rfl h_43 ?_
      refine PL.guard_off rfl rfl h_43 ?_
      refine PL.op rfl (Rd.pick_f rfl h_43) ?_
      refine PL.op rfl (Rd.moveT rfl) ?_
      refine PL.guard_off rfl rfl rfl ?_
      refine PL.guard_off rfl rfl rfl ?_
      refine PL.guard_off rfl rfl rfl ?_
      refine PL.op rfl (Rd.pick_f rfl rfl) ?_
      refine PL.op rfl (Rd.asnT rfl) ?_
      refine PL.nil ?_
      refine thA_n ?_
      refine PC.ret ?_
      refine thA_r ?_
      obtain rfl := some_in hh0
      exact FinA.mk (r := bA false) (bl := []) [] (.inl rfl) rfl (rl := [.tmp 2]) (.tmp .nil) rfl rfl rfl (.t _) trivial ⟨rfl, rfl⟩
    refine PC.region ?_
    refine PL.op rfl (Rd.loadBox rfl rfl rfl) ?_
    refine PL.op rfl (Rd.loadBox rfl rfl rfl) ?_
    refine PL.callM true [] (w_L_equalHeap N r4.1 r6.1 r41 h_42) rfl Try.call42 rfl ⟨.aggL ⟨.own rfl (by first | decide | exact List.not_mem_nil) rfl rfl, trivial⟩, .aggL ⟨.own rfl (by first | decide | exact List.not_mem_nil) rfl rfl, trivial⟩, trivial⟩ rfl trivial (fun _ => ⟨trivial, flat_nil⟩) ?_
    refine PL.op rfl (Rd.moveT rfl) ?_
    refine PL.guard_on rfl h_43 ?_
    refine PL.op rfl (Rd.loadBox rfl rfl rfl) ?_
    refine PL.guard_on rfl h_43 ?_
    refine PL.op rfl (Rd.loadBox rfl rfl rfl) ?_
    refine PL.guard_on rfl h_43 ?_
    refine PL.op rfl (Rd.eqlE (a := r4.2.1) (b := r6.2.1) rfl rfl rfl rfl) ?_
    refine PL.op rfl (Rd.pick_t rfl h_43) ?_
    refine PL.op rfl (Rd.moveT rfl) ?_
    refine PL.guard_on rfl h_11 ?_
    refine PL.op rfl (Rd.moveT rfl) ?_
    refine PL.guard_on rfl h_11 ?_
    refine PL.op rfl (Rd.moveT rfl) ?_
    refine PL.guard_on rfl h_11 ?_
    refine PL.op rfl (Rd.eqlB rfl rfl) ?_
    refine PL.op rfl (Rd.pick_t rfl h_11) ?_
    refine PL.op rfl (Rd.asnT rfl) ?_
    refine PL.nil ?_
    refine thA_n ?_
    refine PC.ret ?_
    refine thA_r ?_
    obtain rfl := some_in hh0
    exact FinA.mk (r := bA (r4.2.2 == r6.2.2)) (bl := []) [] (.inl rfl) rfl (rl := [.tmp 2]) (.tmp .nil) rfl rfl rfl (.t _) trivial ⟨rfl, rfl⟩
  refine PC.region ?_
  refine PL.op rfl (Rd.loadBox rfl rfl rfl) ?_
  refine PL.op rfl (Rd.loadBox rfl rfl rfl) ?_
  refine PL.callM true [] (w_L_equalHeap N r4.1 r6.1 r8 h_9) rfl Try.call42 rfl ⟨.aggL ⟨.own rfl (by first | decide | exact List.not_mem_nil) rfl rfl, trivial⟩, .aggL ⟨.own rfl (by first | decide | exact List.not_mem_nil) rfl rfl, trivial⟩, trivial⟩ rfl trivial (fun _ => ⟨trivial, flat_nil⟩) ?_
  refine PL.op rfl (Rd.unnot rfl) ?_
  refine PL.op rfl (Rd.moveT rfl) ?_
  refine PL.guard_on rfl (not_t h_10) ?_
  refine PL.op rfl (Rd.loadBox rfl rfl rfl) ?_
  refine PL.guard_on rfl (not_t h_10) ?_
  refine PL.op rfl (Rd.loadBox rfl rfl rfl) ?_
  refine PL.guard_on rfl (not_t h_10) ?_
  refine PL.op rfl (Rd.neqE (a := r4.2.1) (b := r6.2.1) rfl rfl rfl rfl) ?_
  refine PL.op rfl (Rd.pick_f rfl (not_t h_10)) ?_
  refine PL.op rfl (Rd.moveT rfl) ?_
  refine PL.guard_on rfl (not_t h_11) ?_
  refine PL.op rfl (Rd.moveT rfl) ?_
  refine PL.guard_on rfl (not_t h_11) ?_
  refine PL.op rfl (Rd.moveT rfl) ?_
  refine PL.guard_on rfl (not_t h_11) ?_
  refine PL.op rfl (Rd.neqB rfl rfl) ?_
  refine PL.op rfl (Rd.pick_f rfl (not_t h_11)) ?_
  refine PL.op rfl (Rd.moveT rfl) ?_
  refine PL.guard_on rfl (not_t h_12) ?_
  refine PL.op rfl (Rd.moveT rfl) ?_
  refine PL.guard_on rfl (not_t h_12) ?_
  refine PL.op rfl (Rd.unnot rfl) ?_
  refine PL.op rfl (Rd.pick_f rfl (not_t h_12)) ?_
  refine PL.nil ?_
  refine thA_n ?_
  rcases cond_some hh0 with ⟨h_13, hh0⟩ | ⟨h_13, hh0⟩
  rotate_left
  · refine PC.cond_true rfl (not_f h_13) ?_
    refine PC.seq ?_
    obtain ⟨r38, h_39, hh0⟩ := bind_some hh0
    rcases cond_some hh0 with ⟨h_40, hh0⟩ | ⟨h_40, hh0⟩
    rotate_left
    · refine PC.region ?_
      refine PL.op rfl (Rd.loadBox rfl rfl rfl) ?_
      refine PL.op rfl (Rd.loadBox rfl rfl rfl) ?_
      refine PL.callM true [] (w_L_equalHeap N r4.1 r6.1 r38 h_39) rfl Try.call42 rfl ⟨.aggL ⟨.own rfl (by first | decide | exact List.not_mem_nil) rfl rfl, trivial⟩, .aggL ⟨.own rfl (by first | decide | exact List.not_mem_nil) rfl rfl, trivial⟩, trivial⟩ rfl trivial (fun _ => ⟨trivial, flat_nil⟩) ?_
      refine PL.op rfl (Rd.moveT rfl) ?_
      refine PL.guard_off rfl rfl h_40 ?_
      refine PL.guard_off rfl rfl h_40 ?_
      refine PL.guard_off rfl rfl h_40 ?_
      refine PL.op rfl (Rd.pick_f rfl h_40) ?_
      refine PL.op rfl (Rd.moveT rfl) ?_
      refine PL.guard_off rfl rfl rfl ?_
      refine PL.guard_off rfl rfl rfl ?_
      refine PL.guard_off rfl rfl rfl ?_
      refine PL.op rfl (Rd.pick_f rfl rfl) ?_
      refine PL.op rfl (Rd.asnT rfl) ?_
      refine PL.nil ?_
      refine thA_n ?_
      refine PC.ret ?_
      refine thA_r ?_
      obtain rfl := some_in hh0
      exact FinA.mk (r := bA false) (bl := []) [] (.inl rfl) rfl (rl := [.tmp 2]) (.tmp .nil) rfl rfl rfl (.t _) trivial ⟨rfl, rfl⟩
    refine PC.region ?_
    refine PL.op rfl (Rd.loadBox rfl rfl rfl) ?_
    refine PL.op rfl (Rd.loadBox rfl rfl rfl) ?_
    refine PL.callM true [] (w_L_equalHeap N r4.1 r6.1 r38 h_39) rfl Try.call42 rfl ⟨.aggL ⟨.own rfl (by first | decide | exact List.not_mem_nil) rfl rfl, trivial⟩, .aggL ⟨.own rfl (by first | decide | exact List.not_mem_nil) rfl rfl, trivial⟩, trivial⟩ rfl trivial (fun _ => ⟨trivial, flat_nil⟩) ?_
    refine PL.op rfl (Rd.moveT rfl) ?_
    refine PL.guard_on rfl h_40 ?_
    refine PL.op rfl (Rd.loadBox rfl rfl rfl) ?_
    refine PL.guard_on rfl h_40 ?_
    refine PL.op rfl (Rd.loadBox rfl rfl rfl) ?_
    refine PL.guard_on rfl h_40 ?_
    refine PL.op rfl (Rd.eqlE (a := r4.2.1) (b := r6.2.1) rfl rfl rfl rfl) ?_
    refine PL.op rfl (Rd.pick_t rfl h_40) ?_
    refine PL.op rfl (Rd.moveT rfl) ?_
    refine PL.guard_on rfl h_11 ?_
    refine PL.op rfl (Rd.moveT rfl) ?_
    refine PL.guard_on rfl h_11 ?_
    refine PL.op rfl (Rd.moveT rfl) ?_
    refine PL.guard_on rfl h_11 ?_
    refine PL.op rfl (Rd.eqlB rfl rfl) ?_
    refine PL.op rfl (Rd.pick_t rfl h_11) ?_
    refine PL.op rfl (Rd.asnT rfl) ?_
    refine PL.nil ?_
    refine thA_n ?_
    refine PC.ret ?_
    refine thA_r ?_
    obtain rfl := some_in hh0
    exact FinA.mk (r := bA (r4.2.2 == r6.2.2)) (bl := []) [] (.inl rfl) rfl (rl := [.tmp 2]) (.tmp .nil) rfl rfl rfl (.t _) trivial ⟨rfl, rfl⟩
  refine PC.cond_false rfl (not_t h_13) ?_
  refine PC.skip ?_
  refine thA_n ?_
  refine PC.seq ?_
  refine PC.seq ?_
  refine PC.region ?_
  refine PL.op rfl (Rd.asnT rfl) ?_
  refine PL.nil ?_
  refine thA_n ?_
  obtain ⟨o23, h_24, hh0⟩ := bind_some hh0
  refine PC.cutE hs (fun x : Unit => [(3, .op 0 0), (5, .op 1 0), (6, .op 3 0)]) (fun x => [⟨.mx [sL r2.1.pages], 58, 0⟩, ⟨.mx [.os 2 0 r4.1.pages.length], 58, 0⟩, ⟨.tr (eL r4.1.pages), 25, 1⟩, ⟨.mx [iA r4.2.1.page, iA r4.2.1.slot], 62, 0⟩]) (fun x => m_L_FnHeapInsertFirst_k1 N r2 r4  = some r) ?_ ?_
  · refine PC.block ?_
    refine PC.loop hs (fun x : Nat × (Int) => [(3, .op 0 0), (4, sA r2.2), (5, .op 1 0), (6, .op 3 0), (11, iA x.2)]) (fun x => [⟨.mx [sL r2.1.pages], 58, 0⟩, ⟨.mx [.os 2 0 r4.1.pages.length], 58, 0⟩, ⟨.tr (eL r4.1.pages), 25, 1⟩, ⟨.mx [iA r4.2.1.page, iA r4.2.1.slot], 62, 0⟩]) (fun x => loopM (β := Unit ⊕ Bool) (fun s : Int => m_L_FnHeapInsertFirst_b1 N r2 r4 s) x.1 x.2 = some o23) (fun x => x.1) (N, (0 : Int)) [some 1, some 3, some 2, some 4] ⟨rfl, rfl, ⟨⟨_, rfl, rfl, rfl, .mx ⟨.t _, trivial⟩⟩, ⟨_, rfl, rfl, rfl, .mx ⟨.os rfl, trivial⟩⟩, ⟨_, rfl, rfl, rfl, .tr _⟩, ⟨_, rfl, rfl, rfl, .mx ⟨.t _, .t _, trivial⟩⟩, trivial⟩, ⟨.op rfl, .t _, .op rfl, .op rfl, .t _, trivial⟩⟩ h_24 ?_
    rintro ⟨f25_, x14⟩ h_27
    obtain ⟨f25, y26, rfl, hh1, kk1⟩ := loopM_some h_27
    replace hh1 : m_L_FnHeapInsertFirst_b1 N r2 r4 x14 = some y26 := hh1
    unfold m_L_FnHeapInsertFirst_b1 at hh1
    refine PC.seq ?_
    refine PC.seq ?_
    refine PC.region ?_
    refine PL.op rfl (Rd.moveT rfl) ?_
    refine PL.op rfl (Rd.fieldO rfl rfl) ?_
    refine PL.op rfl (Rd.loadO rfl rfl rfl) ?_
    refine PL.op rfl (Rd.lss rfl rfl) ?_
    refine PL.nil ?_
    refine thA_n ?_
    rcases cond_some hh1 with ⟨h_30, hh1⟩ | ⟨h_30, hh1⟩
    rotate_left
    · refine PC.cond_false rfl h_30 ?_
      refine PC.exit ?_
      refine thA_e ?_
      refine thA_e ?_
      refine inA_eq rfl ?_
      refine thA_n ?_
      obtain rfl := some_in hh1
      obtain rfl : (.inl () : Unit ⊕ Bool) = o23 := kk1
      exact ⟨(), hh0, [some 0, some 1, some 2, some 3], ⟨rfl, rfl, ⟨⟨_, rfl, rfl, rfl, .mx ⟨.t _, trivial⟩⟩, ⟨_, rfl, rfl, rfl, .mx ⟨.os rfl, trivial⟩⟩, ⟨_, rfl, rfl, rfl, .tr _⟩, ⟨_, rfl, rfl, rfl, .mx ⟨.t _, .t _, trivial⟩⟩, trivial⟩, ⟨.op rfl, .op rfl, .op rfl, trivial⟩⟩⟩
    refine PC.cond_true rfl h_30 ?_
    refine PC.skip ?_
    refine thA_n ?_
    refine PC.seq ?_
    refine PC.block ?_
    refine PC.seq ?_
    obtain ⟨x31, h_32, hh1⟩ := bind_some hh1
    obtain ⟨r33, h_34, hh1⟩ := bind_some hh1
    refine PC.region ?_
    refine PL.op rfl (Rd.fieldO rfl rfl) ?_
    refine PL.op rfl (Rd.loadO rfl rfl rfl) ?_
    refine PL.op rfl (Rd.moveT rfl) ?_
    refine PL.op rfl (Rd.ixM rfl rfl h_32) ?_
    refine PL.op rfl (Rd.elMR rfl h_32 rfl rfl) ?_
    refine PL.op rfl (Rd.moveT rfl) ?_
    refine PL.callM false [] (w_I_PutSlot N x31 r2.2 r33 h_34) rfl Try.call22 rfl ⟨.aggL ⟨.t _, trivial⟩, .t _, trivial⟩ rfl trivial (fun h => by cases h) ?_
    refine PL.nm (.tup [.agg [.os 4 0 r33.1.slots.length], iA r33.2.1, bA r33.2.2]) [some ⟨.mx [sL r2.1.pages], 58, 0⟩, some ⟨.mx [.os 2 0 r4.1.pages.length], 58, 0⟩, some ⟨.tr (eL r4.1.pages), 25, 1⟩, some ⟨.mx [iA r4.2.1.page, iA r4.2.1.slot], 62, 0⟩, some ⟨.tr (eL r33.1.slots), 35, 2⟩] rfl rfl ?_
    refine PL.op rfl (Rd.moveU rfl) ?_
    refine PL.op rfl (Rd.extract rfl rfl) ?_
    refine PL.op rfl (Rd.extract rfl rfl) ?_
    refine PL.op rfl (Rd.extract rfl rfl) ?_
    refine PL.ef rfl (Ef.alloc rfl rfl) ?_
    refine PL.nm (.op 5 0) [some ⟨.mx [sL r2.1.pages], 58, 0⟩, some ⟨.mx [.os 2 0 r4.1.pages.length], 58, 0⟩, some ⟨.tr (eL r4.1.pages), 25, 1⟩, some ⟨.mx [iA r4.2.1.page, iA r4.2.1.slot], 62, 0⟩, some ⟨.tr (eL r33.1.slots), 35, 2⟩, some ⟨.mx [.t (.v (.slice none 0 0))], 25, 0⟩] rfl rfl ?_
    refine PL.store rfl rfl rfl rfl rfl rfl rfl ?_
    refine PL.nO [some ⟨.mx [sL r2.1.pages], 58, 0⟩, some ⟨.mx [.os 2 0 r4.1.pages.length], 58, 0⟩, some ⟨.tr (eL r4.1.pages), 25, 1⟩, some ⟨.mx [iA r4.2.1.page, iA r4.2.1.slot], 62, 0⟩, some ⟨.tr (eL r33.1.slots), 35, 2⟩, some ⟨.mx [.os 4 0 r33.1.slots.length], 25, 0⟩] rfl ?_
    refine PL.op rfl (Rd.asnT rfl) ?_
    refine PL.op rfl (Rd.asnT rfl) ?_
    refine PL.nil ?_
    refine thA_n ?_
    refine PC.seq ?_
    refine PC.region ?_
    refine PL.op rfl (Rd.moveT rfl) ?_
    refine PL.nil ?_
    refine thA_n ?_
    rcases cond_some hh1 with ⟨h_35, hh1⟩ | ⟨h_35, hh1⟩
    · refine PC.cond_true rfl h_35 ?_
      refine PC.seq ?_
      refine PC.region ?_
      refine PL.op rfl (Rd.asnT rfl) ?_
      refine PL.nil ?_
      refine thA_n ?_
      refine PC.ret ?_
      refine inA_r ?_
      refine thA_r ?_
      refine thA_r ?_
      refine inA_r ?_
      refine thA_r ?_
      obtain rfl := some_in hh1
      obtain rfl : (.inr false : Unit ⊕ Bool) = o23 := kk1
      refine thA_r ?_
      obtain rfl := some_in hh0
      exact FinA.mk (r := bA false) (bl := []) [] (.inl rfl) rfl (rl := [.tmp 2]) (.tmp .nil) rfl rfl rfl (.t _) trivial ⟨rfl, rfl⟩
    refine PC.cond_false rfl h_35 ?_
    refine PC.skip ?_
    refine inA_n ?_
    refine thA_n ?_
    obtain ⟨n36, h_37, hh1⟩ := bind_some hh1
    refine PC.region ?_
    refine PL.op rfl (Rd.moveT rfl) ?_
    refine PL.op rfl (Rd.addM rfl rfl h_37) ?_
    refine PL.op rfl (Rd.asnT rfl) ?_
    refine PL.nil ?_
    obtain rfl := some_in hh1
    refine thA_n ?_
    exact ⟨(f25, n36), Nat.lt_succ_self _, kk1, [some 0, some 1, some 2, some 3], ⟨rfl, rfl, ⟨⟨_, rfl, rfl, rfl, .mx ⟨.t _, trivial⟩⟩, ⟨_, rfl, rfl, rfl, .mx ⟨.os rfl, trivial⟩⟩, ⟨_, rfl, rfl, rfl, .tr _⟩, ⟨_, rfl, rfl, rfl, .mx ⟨.t _, .t _, trivial⟩⟩, trivial⟩, ⟨.op rfl, .t _, .op rfl, .op rfl, .t _, trivial⟩⟩⟩
  clear hh0
  rintro ⟨⟩ hh0
  replace hh0 : m_L_FnHeapInsertFirst_k1 N r2 r4  = some r := hh0
  unfold m_L_FnHeapInsertFirst_k1 at hh0
  refine thA_n ?_
  refine PC.seq ?_
  obtain ⟨n28, h_29, hh0⟩ := bind_some hh0
  refine PC.region ?_
  refine PL.op rfl (Rd.fieldO rfl rfl) ?_
  refine PL.op rfl (Rd.loadO rfl rfl rfl) ?_
  refine PL.op rfl (Rd.lenO rfl rfl) ?_
  refine PL.op rfl (Rd.fieldO rfl rfl) ?_
  refine PL.op rfl (Rd.loadO rfl rfl rfl) ?_
  refine PL.op rfl (Rd.lenT rfl) ?_
  refine PL.op rfl (Rd.fieldO rfl rfl) ?_
  refine PL.op rfl (Rd.loadO rfl rfl rfl) ?_
  refine PL.op rfl (Rd.addM rfl rfl h_29) ?_
  refine PL.op rfl (Rd.max2 rfl rfl) ?_
  refine PL.op rfl (Rd.eql rfl rfl) ?_
  refine PL.op rfl (Rd.asnT rfl) ?_
  refine PL.nil ?_
  refine thA_n ?_
  refine PC.ret ?_
  obtain rfl := some_in hh0
  exact FinA.mk (r := bA (decide ((r4.1.pages.length : Int) = (max (r2.1.pages.length : Int) n28)))) (bl := []) [] (.inl rfl) rfl (rl := [.tmp 2]) (.tmp .nil) rfl rfl rfl (.t _) trivial ⟨rfl, rfl⟩

end V
end Go.Proofs.Ytoljdhdfijnjiaa
