/- Heaps that are drawn. No condition. -/
import Derived.Test.YtoljdhdfijnjiaaHpAa
import Derived.Test.YtoljdhdfijnjiaaPgDa
namespace Go.Proofs.Ytoljdhdfijnjiaa
namespace V
open Enc (enc)
set_option linter.unusedVariables false
set_option linter.unusedSimpArgs false
set_option maxHeartbeats 4000000
set_option maxRecDepth 100000
open Go.RowKit
attribute [local irreducible] thA inA FinA eL

def m_S_anyHeap_k2 (N : Nat) (r22 : (Int × S_reader)) (v34 : (List I_Page)) : Option (I_Heap × S_reader) :=
  some ((I_Heap.mk v34), r22.2)
def m_S_anyHeap_b2 (N : Nat) (v30 : (List I_Page)) : Option ((List I_Page) ⊕ (List I_Page)) :=
  cond (decide ((v30.length : Int) < (7 : Int)))
    ((appM 24 v30 ([(I_Page.mk ([] : List I_Slot))])).bind fun xs41 =>
    some (.inl xs41))
    (some (.inr v30))
def m_S_anyHeap_k1 (N : Nat) (v14 : (List UInt8)) (v15 : Int) (v16 : (List I_Page)) : Option (I_Heap × S_reader) :=
  (m_S_reader_pick N (S_reader.mk v14 v15) (24 : Int)).bind fun r22 =>
  cond (decide (r22.1 = (0 : Int)))
    ((m_S_anyPage N r22.2).bind fun r25 =>
    (appM 24 v16 [r25.1]).bind fun xs27 =>
    some ((I_Heap.mk xs27), r25.2))
    (cond (decide (r22.1 = (1 : Int)))
      ((loopM (β := (List I_Page)) (fun s : (List I_Page) => m_S_anyHeap_b2 N s) N v16).bind fun e =>
      m_S_anyHeap_k2 N r22 e)
      (some ((I_Heap.mk v16), r22.2)))
def m_S_anyHeap_b1 (N : Nat) (i3 : Int) (v4 : (List UInt8)) (v5 : Int) (v6 : (List I_Page)) : Option ((Int × (List UInt8) × Int × (List I_Page)) ⊕ ((List UInt8) × Int × (List I_Page))) :=
  cond (decide ((0 : Int) < i3))
    ((m_S_randomPage N (S_reader.mk v4 v5)).bind fun r44 =>
    (appM 24 v6 [r44.1]).bind fun xs46 =>
    (chk (i3 - (1 : Int))).bind fun n48 =>
    some (.inl (n48, r44.2.b, r44.2.p, xs46)))
    (some (.inr (v4, v5, v6)))
def m_S_anyHeap (N : Nat) (p_r : S_reader) : Option (I_Heap × S_reader) :=
  (m_S_reader_one N p_r [(2 : Int), (1 : Int), (3 : Int), (0 : Int), (6 : Int), (4 : Int)]).bind fun r1 =>
  (loopM (β := (List UInt8) × Int × (List I_Page)) (fun s : Int × (List UInt8) × Int × (List I_Page) => m_S_anyHeap_b1 N s.1 s.2.1 s.2.2.1 s.2.2.2) N (r1.1, r1.2.b, r1.2.p, ([] : List I_Page))).bind fun e =>
  m_S_anyHeap_k1 N e.1 e.2.1 e.2.2
theorem w_S_anyHeap (N : Nat) (p_r : S_reader) (r : I_Heap × S_reader) (hh0 : m_S_anyHeap N p_r = some r) : FnX Try.prog 77 [⟨.mx [sL p_r.b, iA p_r.p], 115, 0⟩] [.op 0 0] (RE (.agg [.os 1 0 r.1.pages.length]) [⟨.mx [sL r.2.b, iA r.2.p], 115, 0⟩, ⟨.tr (eL r.1.pages), 25, 1⟩]) := by
  unfold m_S_anyHeap at hh0
  refine FnX.mk Try.func77 rfl rfl ?_
  intro s hs
  refine PC.seq ?_
  refine PC.region ?_
  refine PL.ef rfl (Ef.alloc rfl rfl) ?_
  refine PL.nm (.op 1 0) [some ⟨.mx [sL p_r.b, iA p_r.p], 115, 0⟩, some ⟨.mx [.t (.v (.slice none 0 0))], 58, 0⟩] rfl rfl ?_
  refine PL.nil ?_
  refine thA_n ?_
  refine PC.seq ?_
  refine PC.region ?_
  refine PL.ef rfl (Ef.lit0M I_Page) ?_
  refine PL.nm (.os 2 0 0) [some ⟨.mx [sL p_r.b, iA p_r.p], 115, 0⟩, some ⟨.mx [.t (.v (.slice none 0 0))], 58, 0⟩, some ⟨.tr (eL ([] : List I_Page)), 25, 1⟩] rfl rfl ?_
  refine PL.op rfl (Rd.asnO rfl) ?_
  refine PL.nil ?_
  refine thA_n ?_
  refine PC.seq ?_
  refine PC.seq ?_
  obtain ⟨r1, h_2, hh0⟩ := bind_some hh0
  refine PC.region ?_
  refine PL.op rfl (Rd.moveP rfl) ?_
  refine PL.er rfl (Er.ints [(2 : Int), (1 : Int), (3 : Int), (0 : Int), (6 : Int), (4 : Int)] rfl rfl (by decide) rfl) ?_
  refine PL.callM false [0] (w_S_reader_one N p_r [(2 : Int), (1 : Int), (3 : Int), (0 : Int), (6 : Int), (4 : Int)] r1 h_2) rfl Try.call97 rfl ⟨.op rfl, .t _, trivial⟩ rfl ⟨⟨_, rfl, rfl, rfl, .mx ⟨.t _, .t _, trivial⟩⟩, trivial⟩ (fun h => by cases h) ?_
  refine PL.nm (iA r1.1) [some ⟨.mx [sL r1.2.b, iA r1.2.p], 115, 0⟩, some ⟨.mx [.t (.v (.slice none 0 0))], 58, 0⟩, some ⟨.tr (eL ([] : List I_Page)), 25, 1⟩] rfl rfl ?_
  refine PL.op rfl (Rd.asnT rfl) ?_
  refine PL.nil ?_
  refine thA_n ?_
  obtain ⟨o17, h_18, hh0⟩ := bind_some hh0
  refine PC.cutE hs (fun x : (List UInt8) × Int × (List I_Page) => [(0, .op 0 0), (2, .op 1 0), (3, .os 2 0 x.2.2.length)]) (fun x => [⟨.mx [sL x.1, iA x.2.1], 115, 0⟩, ⟨.mx [.t (.v (.slice none 0 0))], 58, 0⟩, ⟨.tr (eL x.2.2), 25, 1⟩]) (fun x => m_S_anyHeap_k1 N x.1 x.2.1 x.2.2 = some r) ?_ ?_
  · refine PC.block ?_
    refine PC.loop hs (fun x : Nat × (Int × (List UInt8) × Int × (List I_Page)) => [(0, .op 0 0), (2, .op 1 0), (3, .os 2 0 x.2.2.2.2.length), (4, iA x.2.1)]) (fun x => [⟨.mx [sL x.2.2.1, iA x.2.2.2.1], 115, 0⟩, ⟨.mx [.t (.v (.slice none 0 0))], 58, 0⟩, ⟨.tr (eL x.2.2.2.2), 25, 1⟩]) (fun x => loopM (β := (List UInt8) × Int × (List I_Page)) (fun s : Int × (List UInt8) × Int × (List I_Page) => m_S_anyHeap_b1 N s.1 s.2.1 s.2.2.1 s.2.2.2) x.1 x.2 = some o17) (fun x => x.1) (N, (r1.1, r1.2.b, r1.2.p, ([] : List I_Page))) [some 0, some 1, some 2] ⟨rfl, rfl, ⟨⟨_, rfl, rfl, rfl, .mx ⟨.t _, .t _, trivial⟩⟩, ⟨_, rfl, rfl, rfl, .mx ⟨.t _, trivial⟩⟩, ⟨_, rfl, rfl, rfl, .tr _⟩, trivial⟩, ⟨.op rfl, .op rfl, .os rfl, .t _, trivial⟩⟩ h_18 ?_
    rintro ⟨f19_, i3, v4, v5, v6⟩ h_21
    obtain ⟨f19, y20, rfl, hh1, kk1⟩ := loopM_some h_21
    replace hh1 : m_S_anyHeap_b1 N i3 v4 v5 v6 = some y20 := hh1
    unfold m_S_anyHeap_b1 at hh1
    refine PC.seq ?_
    refine PC.seq ?_
    refine PC.region ?_
    refine PL.op rfl (Rd.moveT rfl) ?_
    refine PL.op rfl (Rd.gtr rfl rfl) ?_
    refine PL.nil ?_
    refine thA_n ?_
    rcases cond_some hh1 with ⟨h_43, hh1⟩ | ⟨h_43, hh1⟩
    rotate_left
    · refine PC.cond_false rfl h_43 ?_
      refine PC.exit ?_
      refine thA_e ?_
      refine thA_e ?_
      refine inA_eq rfl ?_
      refine thA_n ?_
      obtain rfl := some_in hh1
      obtain rfl : ((v4, v5, v6) : (List UInt8) × Int × (List I_Page)) = o17 := kk1
      exact ⟨(v4, v5, v6), hh0, [some 0, some 1, some 2], ⟨rfl, rfl, ⟨⟨_, rfl, rfl, rfl, .mx ⟨.t _, .t _, trivial⟩⟩, ⟨_, rfl, rfl, rfl, .mx ⟨.t _, trivial⟩⟩, ⟨_, rfl, rfl, rfl, .tr _⟩, trivial⟩, ⟨.op rfl, .op rfl, .os rfl, trivial⟩⟩⟩
    refine PC.cond_true rfl h_43 ?_
    refine PC.skip ?_
    refine thA_n ?_
    refine PC.seq ?_
    refine PC.block ?_
    obtain ⟨r44, h_45, hh1⟩ := bind_some hh1
    obtain ⟨xs46, h_47, hh1⟩ := bind_some hh1
    refine PC.region ?_
    refine PL.op rfl (Rd.moveO rfl) ?_
    refine PL.op rfl (Rd.moveP rfl) ?_
    refine PL.callM false [0] (w_S_randomPage N (S_reader.mk v4 v5) r44 h_45) rfl Try.call93 rfl ⟨.op rfl, trivial⟩ rfl ⟨⟨_, rfl, rfl, rfl, .mx ⟨.t _, .t _, trivial⟩⟩, trivial⟩ (fun h => by cases h) ?_
    refine PL.nm (.agg [.os 3 0 r44.1.slots.length]) [some ⟨.mx [sL r44.2.b, iA r44.2.p], 115, 0⟩, some ⟨.mx [.t (.v (.slice none 0 0))], 58, 0⟩, some ⟨.tr (eL v6), 25, 1⟩, some ⟨.tr (eL r44.1.slots), 35, 2⟩] rfl rfl ?_
    refine PL.frz hs 3 4 [(15, .agg [sL r44.1.slots])] [some ⟨.mx [sL r44.2.b, iA r44.2.p], 115, 0⟩, some ⟨.mx [.t (.v (.slice none 0 0))], 58, 0⟩, some ⟨.tr (eL v6), 25, 1⟩, none] rfl rfl ⟨(.aggL ⟨(.own rfl (by decide) rfl rfl), trivial⟩), trivial⟩ ⟨⟨rfl, .inl rfl⟩, ⟨rfl, .inl rfl⟩, ⟨rfl, .inl rfl⟩, trivial⟩ ?_
    refine PL.ef rfl (Ef.litM (α := I_Page) [r44.1] [_] rfl rfl (by decide) rfl rfl rfl rfl) ?_
    refine PL.nm (.os 4 0 1) [some ⟨.mx [sL r44.2.b, iA r44.2.p], 115, 0⟩, some ⟨.mx [.t (.v (.slice none 0 0))], 58, 0⟩, some ⟨.tr (eL v6), 25, 1⟩, none, some ⟨.tr (eL [r44.1]), 25, 1⟩] rfl rfl ?_
    refine PL.apM hs rfl rfl rfl rfl (SrcA.ownE rfl rfl rfl) rfl rfl rfl rfl h_47 ?_
    refine PL.nm (.os 5 0 xs46.length) [some ⟨.mx [sL r44.2.b, iA r44.2.p], 115, 0⟩, some ⟨.mx [.t (.v (.slice none 0 0))], 58, 0⟩, none, none, some ⟨.tr (eL [r44.1]), 25, 1⟩, some ⟨.tr (eL xs46), 25, 1⟩] rfl rfl ?_
    refine PL.op rfl (Rd.asnO rfl) ?_
    refine PL.nil ?_
    refine inA_n ?_
    refine thA_n ?_
    obtain ⟨n48, h_49, hh1⟩ := bind_some hh1
    refine PC.region ?_
    refine PL.op rfl (Rd.moveT rfl) ?_
    refine PL.op rfl (Rd.subM rfl rfl h_49) ?_
    refine PL.op rfl (Rd.asnT rfl) ?_
    refine PL.nil ?_
    obtain rfl := some_in hh1
    refine thA_n ?_
    exact ⟨(f19, (n48, r44.2.b, r44.2.p, xs46)), Nat.lt_succ_self _, kk1, [some 0, some 1, some 5], ⟨rfl, rfl, ⟨⟨_, rfl, rfl, rfl, .mx ⟨.t _, .t _, trivial⟩⟩, ⟨_, rfl, rfl, rfl, .mx ⟨.t _, trivial⟩⟩, ⟨_, rfl, rfl, rfl, .tr _⟩, trivial⟩, ⟨.op rfl, .op rfl, .os rfl, .t _, trivial⟩⟩⟩
  clear hh0
  rintro ⟨v14, v15, v16⟩ hh0
  replace hh0 : m_S_anyHeap_k1 N v14 v15 v16 = some r := hh0
  unfold m_S_anyHeap_k1 at hh0
  refine thA_n ?_
  refine PC.seq ?_
  refine PC.seq ?_
  obtain ⟨r22, h_23, hh0⟩ := bind_some hh0
  refine PC.region ?_
  refine PL.op rfl (Rd.moveP rfl) ?_
  refine PL.callM false [0] (w_S_reader_pick N (S_reader.mk v14 v15) (24 : Int) r22 h_23) rfl Try.call94 rfl ⟨.op rfl, .t _, trivial⟩ rfl ⟨⟨_, rfl, rfl, rfl, .mx ⟨.t _, .t _, trivial⟩⟩, trivial⟩ (fun h => by cases h) ?_
  refine PL.nm (iA r22.1) [some ⟨.mx [sL r22.2.b, iA r22.2.p], 115, 0⟩, some ⟨.mx [.t (.v (.slice none 0 0))], 58, 0⟩, some ⟨.tr (eL v16), 25, 1⟩] rfl rfl ?_
  refine PL.nil ?_
  refine thA_n ?_
  refine PC.block ?_
  refine PC.seq ?_
  refine PC.region ?_
  refine PL.op rfl (Rd.eql rfl rfl) ?_
  refine PL.op rfl (Rd.asnT rfl) ?_
  refine PL.nil ?_
  refine thA_n ?_
  rcases cond_some hh0 with ⟨h_24, hh0⟩ | ⟨h_24, hh0⟩
  · refine PC.cond_true rfl h_24 ?_
    obtain ⟨r25, h_26, hh0⟩ := bind_some hh0
    obtain ⟨xs27, h_28, hh0⟩ := bind_some hh0
    refine PC.region ?_
    refine PL.op rfl (Rd.moveO rfl) ?_
    refine PL.op rfl (Rd.moveP rfl) ?_
    refine PL.callM false [0] (w_S_anyPage N r22.2 r25 h_26) rfl Try.call58 rfl ⟨.op rfl, trivial⟩ rfl ⟨⟨_, rfl, rfl, rfl, .mx ⟨.t _, .t _, trivial⟩⟩, trivial⟩ (fun h => by cases h) ?_
    refine PL.nm (.agg [.os 3 0 r25.1.slots.length]) [some ⟨.mx [sL r25.2.b, iA r25.2.p], 115, 0⟩, some ⟨.mx [.t (.v (.slice none 0 0))], 58, 0⟩, some ⟨.tr (eL v16), 25, 1⟩, some ⟨.tr (eL r25.1.slots), 35, 2⟩] rfl rfl ?_
    refine PL.frz hs 3 4 [(24, .agg [sL r25.1.slots])] [some ⟨.mx [sL r25.2.b, iA r25.2.p], 115, 0⟩, some ⟨.mx [.t (.v (.slice none 0 0))], 58, 0⟩, some ⟨.tr (eL v16), 25, 1⟩, none] rfl rfl ⟨(.aggL ⟨(.own rfl (by decide) rfl rfl), trivial⟩), trivial⟩ ⟨⟨rfl, .inl rfl⟩, ⟨rfl, .inl rfl⟩, ⟨rfl, .inl rfl⟩, trivial⟩ ?_
    refine PL.ef rfl (Ef.litM (α := I_Page) [r25.1] [_] rfl rfl (by decide) rfl rfl rfl rfl) ?_
    refine PL.nm (.os 4 0 1) [some ⟨.mx [sL r25.2.b, iA r25.2.p], 115, 0⟩, some ⟨.mx [.t (.v (.slice none 0 0))], 58, 0⟩, some ⟨.tr (eL v16), 25, 1⟩, none, some ⟨.tr (eL [r25.1]), 25, 1⟩] rfl rfl ?_
    refine PL.apM hs rfl rfl rfl rfl (SrcA.ownE rfl rfl rfl) rfl rfl rfl rfl h_28 ?_
    refine PL.nm (.os 5 0 xs27.length) [some ⟨.mx [sL r25.2.b, iA r25.2.p], 115, 0⟩, some ⟨.mx [.t (.v (.slice none 0 0))], 58, 0⟩, none, none, some ⟨.tr (eL [r25.1]), 25, 1⟩, some ⟨.tr (eL xs27), 25, 1⟩] rfl rfl ?_
    refine PL.op rfl (Rd.asnO rfl) ?_
    refine PL.nil ?_
    refine inA_n ?_
    refine thA_n ?_
    refine PC.seq ?_
    refine PC.region ?_
    refine PL.op rfl (Rd.moveO rfl) ?_
    refine PL.op rfl (Rd.build rfl rfl rfl rfl) ?_
    refine PL.store rfl rfl rfl rfl rfl rfl rfl ?_
    refine PL.nO [some ⟨.mx [sL r25.2.b, iA r25.2.p], 115, 0⟩, some ⟨.mx [.os 5 0 xs27.length], 58, 0⟩, none, none, some ⟨.tr (eL [r25.1]), 25, 1⟩, some ⟨.tr (eL xs27), 25, 1⟩] rfl ?_
    refine PL.nil ?_
    refine thA_n ?_
    refine PC.ret ?_
    obtain rfl := some_in hh0
    exact FinA.mk (r := .agg [.os 1 0 ((((I_Heap.mk xs27), r25.2).1.pages).length)]) (bl := [⟨.mx [sL (((I_Heap.mk xs27), r25.2).2.b), iA (((I_Heap.mk xs27), r25.2).2.p)], 115, 0⟩, ⟨.tr (eL (((I_Heap.mk xs27), r25.2).1.pages)), 25, 1⟩]) [some 0, some 5] (.inl rfl) rfl (rl := [.cell 2 58]) (.cellN rfl rfl rfl rfl .nil) rfl rfl rfl (.aggL ⟨.os rfl, trivial⟩) ⟨⟨_, rfl, rfl, rfl, .mx ⟨.t _, .t _, trivial⟩⟩, ⟨_, rfl, rfl, rfl, .tr _⟩, trivial⟩ ⟨rfl, rfl⟩
  refine PC.cond_false rfl h_24 ?_
  refine PC.seq ?_
  refine PC.region ?_
  refine PL.op rfl (Rd.eql rfl rfl) ?_
  refine PL.op rfl (Rd.asnT rfl) ?_
  refine PL.nil ?_
  refine thA_n ?_
  rcases cond_some hh0 with ⟨h_29, hh0⟩ | ⟨h_29, hh0⟩
  rotate_left
  · refine PC.cond_false rfl h_29 ?_
    refine PC.skip ?_
    refine inA_n ?_
    refine thA_n ?_
    refine PC.seq ?_
    refine PC.region ?_
    refine PL.op rfl (Rd.moveO rfl) ?_
    refine PL.op rfl (Rd.build rfl rfl rfl rfl) ?_
    refine PL.store rfl rfl rfl rfl rfl rfl rfl ?_
    refine PL.nO [some ⟨.mx [sL r22.2.b, iA r22.2.p], 115, 0⟩, some ⟨.mx [.os 2 0 v16.length], 58, 0⟩, some ⟨.tr (eL v16), 25, 1⟩] rfl ?_
    refine PL.nil ?_
    refine thA_n ?_
    refine PC.ret ?_
    obtain rfl := some_in hh0
    exact FinA.mk (r := .agg [.os 1 0 ((((I_Heap.mk v16), r22.2).1.pages).length)]) (bl := [⟨.mx [sL (((I_Heap.mk v16), r22.2).2.b), iA (((I_Heap.mk v16), r22.2).2.p)], 115, 0⟩, ⟨.tr (eL (((I_Heap.mk v16), r22.2).1.pages)), 25, 1⟩]) [some 0, some 2] (.inl rfl) rfl (rl := [.cell 2 58]) (.cellN rfl rfl rfl rfl .nil) rfl rfl rfl (.aggL ⟨.os rfl, trivial⟩) ⟨⟨_, rfl, rfl, rfl, .mx ⟨.t _, .t _, trivial⟩⟩, ⟨_, rfl, rfl, rfl, .tr _⟩, trivial⟩ ⟨rfl, rfl⟩
  refine PC.cond_true rfl h_29 ?_
  obtain ⟨o35, h_36, hh0⟩ := bind_some hh0
  refine PC.cutE hs (fun x : (List I_Page) => [(2, .op 1 0), (3, .os 2 0 x.length)]) (fun x => [⟨.mx [sL r22.2.b, iA r22.2.p], 115, 0⟩, ⟨.mx [.t (.v (.slice none 0 0))], 58, 0⟩, ⟨.tr (eL x), 25, 1⟩]) (fun x => m_S_anyHeap_k2 N r22 x = some r) ?_ ?_
  · refine PC.block ?_
    refine PC.loop hs (fun x : Nat × ((List I_Page)) => [(2, .op 1 0), (3, .os 2 0 x.2.length)]) (fun x => [⟨.mx [sL r22.2.b, iA r22.2.p], 115, 0⟩, ⟨.mx [.t (.v (.slice none 0 0))], 58, 0⟩, ⟨.tr (eL x.2), 25, 1⟩]) (fun x => loopM (β := (List I_Page)) (fun s : (List I_Page) => m_S_anyHeap_b2 N s) x.1 x.2 = some o35) (fun x => x.1) (N, v16) [some 0, some 1, some 2] ⟨rfl, rfl, ⟨⟨_, rfl, rfl, rfl, .mx ⟨.t _, .t _, trivial⟩⟩, ⟨_, rfl, rfl, rfl, .mx ⟨.t _, trivial⟩⟩, ⟨_, rfl, rfl, rfl, .tr _⟩, trivial⟩, ⟨.op rfl, .os rfl, trivial⟩⟩ h_36 ?_
    rintro ⟨f37_, v30⟩ h_39
    obtain ⟨f37, y38, rfl, hh1, kk1⟩ := loopM_some h_39
    replace hh1 : m_S_anyHeap_b2 N v30 = some y38 := hh1
    unfold m_S_anyHeap_b2 at hh1
    refine PC.seq ?_
    refine PC.seq ?_
    refine PC.region ?_
    refine PL.op rfl (Rd.moveO rfl) ?_
    refine PL.op rfl (Rd.lenO rfl rfl) ?_
    refine PL.op rfl (Rd.lss rfl rfl) ?_
    refine PL.nil ?_
    refine thA_n ?_
    rcases cond_some hh1 with ⟨h_40, hh1⟩ | ⟨h_40, hh1⟩
    rotate_left
    · refine PC.cond_false rfl h_40 ?_
      refine PC.exit ?_
      refine thA_e ?_
      refine thA_e ?_
      refine inA_eq rfl ?_
      refine thA_n ?_
      obtain rfl := some_in hh1
      obtain rfl : (v30 : (List I_Page)) = o35 := kk1
      exact ⟨v30, hh0, [some 0, some 1, some 2], ⟨rfl, rfl, ⟨⟨_, rfl, rfl, rfl, .mx ⟨.t _, .t _, trivial⟩⟩, ⟨_, rfl, rfl, rfl, .mx ⟨.t _, trivial⟩⟩, ⟨_, rfl, rfl, rfl, .tr _⟩, trivial⟩, ⟨.op rfl, .os rfl, trivial⟩⟩⟩
    refine PC.cond_true rfl h_40 ?_
    refine PC.skip ?_
    refine thA_n ?_
    refine PC.block ?_
    obtain ⟨xs41, h_42, hh1⟩ := bind_some hh1
    refine PC.region ?_
    refine PL.op rfl (Rd.moveO rfl) ?_
    refine PL.op rfl (Rd.build rfl rfl rfl rfl) ?_
    refine PL.ef rfl (Ef.litM (α := I_Page) [(I_Page.mk ([] : List I_Slot))] [_] rfl rfl (by decide) rfl rfl rfl (by with_unfolding_all rfl)) ?_
    refine PL.nm (.os 3 0 1) [some ⟨.mx [sL r22.2.b, iA r22.2.p], 115, 0⟩, some ⟨.mx [.t (.v (.slice none 0 0))], 58, 0⟩, some ⟨.tr (eL v30), 25, 1⟩, some ⟨.tr (eL ([(I_Page.mk ([] : List I_Slot))])), 25, 1⟩] rfl rfl ?_
    refine PL.apM hs rfl rfl rfl rfl (SrcA.ownE rfl rfl rfl) rfl rfl rfl rfl h_42 ?_
    refine PL.nm (.os 4 0 xs41.length) [some ⟨.mx [sL r22.2.b, iA r22.2.p], 115, 0⟩, some ⟨.mx [.t (.v (.slice none 0 0))], 58, 0⟩, none, some ⟨.tr (eL ([(I_Page.mk ([] : List I_Slot))])), 25, 1⟩, some ⟨.tr (eL xs41), 25, 1⟩] rfl rfl ?_
    refine PL.op rfl (Rd.asnO rfl) ?_
    refine PL.nil ?_
    refine inA_n ?_
    obtain rfl := some_in hh1
    refine thA_n ?_
    exact ⟨(f37, xs41), Nat.lt_succ_self _, kk1, [some 0, some 1, some 4], ⟨rfl, rfl, ⟨⟨_, rfl, rfl, rfl, .mx ⟨.t _, .t _, trivial⟩⟩, ⟨_, rfl, rfl, rfl, .mx ⟨.t _, trivial⟩⟩, ⟨_, rfl, rfl, rfl, .tr _⟩, trivial⟩, ⟨.op rfl, .os rfl, trivial⟩⟩⟩
  clear hh0
  rintro v34 hh0
  replace hh0 : m_S_anyHeap_k2 N r22 v34 = some r := hh0
  unfold m_S_anyHeap_k2 at hh0
  refine inA_n ?_
  refine thA_n ?_
  refine PC.seq ?_
  refine PC.region ?_
  refine PL.op rfl (Rd.moveO rfl) ?_
  refine PL.op rfl (Rd.build rfl rfl rfl rfl) ?_
  refine PL.store rfl rfl rfl rfl rfl rfl rfl ?_
  refine PL.nO [some ⟨.mx [sL r22.2.b, iA r22.2.p], 115, 0⟩, some ⟨.mx [.os 2 0 v34.length], 58, 0⟩, some ⟨.tr (eL v34), 25, 1⟩] rfl ?_
  refine PL.nil ?_
  refine thA_n ?_
  refine PC.ret ?_
  obtain rfl := some_in hh0
  exact FinA.mk (r := .agg [.os 1 0 ((((I_Heap.mk v34), r22.2).1.pages).length)]) (bl := [⟨.mx [sL (((I_Heap.mk v34), r22.2).2.b), iA (((I_Heap.mk v34), r22.2).2.p)], 115, 0⟩, ⟨.tr (eL (((I_Heap.mk v34), r22.2).1.pages)), 25, 1⟩]) [some 0, some 2] (.inl rfl) rfl (rl := [.cell 2 58]) (.cellN rfl rfl rfl rfl .nil) rfl rfl rfl (.aggL ⟨.os rfl, trivial⟩) ⟨⟨_, rfl, rfl, rfl, .mx ⟨.t _, .t _, trivial⟩⟩, ⟨_, rfl, rfl, rfl, .tr _⟩, trivial⟩ ⟨rfl, rfl⟩

def m_S_DrawHeapInsert (N : Nat) (p_code : (List UInt8)) : Option (I_Heap × ByteArray) :=
  (m_S_newReader N p_code).bind fun r1 =>
  (m_S_anyHeap N r1).bind fun r3 =>
  (m_S_someData N r3.2).bind fun r5 =>
  some (r3.1, r5.1)
theorem w_S_DrawHeapInsert (N : Nat) (p_code : (List UInt8)) (r : I_Heap × ByteArray) (hh0 : m_S_DrawHeapInsert N p_code = some r) : FnX Try.prog 39 [] [sL p_code] (RE (.tup [.agg [.os 0 0 r.1.pages.length], sA r.2]) [⟨.tr (eL r.1.pages), 25, 1⟩]) := by
  unfold m_S_DrawHeapInsert at hh0
  refine FnX.mk Try.func39 rfl rfl ?_
  intro s hs
  refine PC.seq ?_
  refine PC.region ?_
  refine PL.ef rfl (Ef.alloc rfl rfl) ?_
  refine PL.nm (.op 0 0) [some ⟨.mx [.t (.v (.slice none 0 0))], 58, 0⟩] rfl rfl ?_
  refine PL.op rfl (Rd.asnT rfl) ?_
  refine PL.nil ?_
  refine thA_n ?_
  refine PC.seq ?_
  obtain ⟨r1, h_2, hh0⟩ := bind_some hh0
  refine PC.region ?_
  refine PL.op rfl (Rd.moveT rfl) ?_
  refine PL.callM false [] (w_S_newReader N p_code r1 h_2) rfl Try.call59 rfl ⟨.t _, trivial⟩ rfl trivial (fun h => by cases h) ?_
  refine PL.nm (.op 1 0) [some ⟨.mx [.t (.v (.slice none 0 0))], 58, 0⟩, some ⟨.mx [sL r1.b, iA r1.p], 115, 0⟩] rfl rfl ?_
  refine PL.op rfl (Rd.asnP rfl) ?_
  refine PL.nil ?_
  refine thA_n ?_
  refine PC.seq ?_
  obtain ⟨r3, h_4, hh0⟩ := bind_some hh0
  refine PC.region ?_
  refine PL.op rfl (Rd.moveP rfl) ?_
  refine PL.callM false [1] (w_S_anyHeap N r1 r3 h_4) rfl Try.call77 rfl ⟨.op rfl, trivial⟩ rfl ⟨⟨_, rfl, rfl, rfl, .mx ⟨.t _, .t _, trivial⟩⟩, trivial⟩ (fun h => by cases h) ?_
  refine PL.nm (.agg [.os 2 0 r3.1.pages.length]) [some ⟨.mx [.t (.v (.slice none 0 0))], 58, 0⟩, some ⟨.mx [sL r3.2.b, iA r3.2.p], 115, 0⟩, some ⟨.tr (eL r3.1.pages), 25, 1⟩] rfl rfl ?_
  refine PL.ef rfl (Ef.alloc rfl rfl) ?_
  refine PL.nm (.op 3 0) [some ⟨.mx [.t (.v (.slice none 0 0))], 58, 0⟩, some ⟨.mx [sL r3.2.b, iA r3.2.p], 115, 0⟩, some ⟨.tr (eL r3.1.pages), 25, 1⟩, some ⟨.mx [.t (.v (.slice none 0 0))], 58, 0⟩] rfl rfl ?_
  refine PL.store rfl rfl rfl rfl rfl rfl rfl ?_
  refine PL.nO [some ⟨.mx [.t (.v (.slice none 0 0))], 58, 0⟩, some ⟨.mx [sL r3.2.b, iA r3.2.p], 115, 0⟩, some ⟨.tr (eL r3.1.pages), 25, 1⟩, some ⟨.mx [.os 2 0 r3.1.pages.length], 58, 0⟩] rfl ?_
  refine PL.nil ?_
  refine thA_n ?_
  refine PC.seq ?_
  obtain ⟨r5, h_6, hh0⟩ := bind_some hh0
  refine PC.any (id := 3) 3 (.seg [0, 1, 2] .done) [1] rfl (by kernel_rfl) rfl ?_
  refine PT.seg ?_
  refine PR.op rfl (Rd.loadBox rfl rfl rfl) ?_
  refine PR.op rfl (Rd.moveP rfl) ?_
  refine PR.callM false [1] (w_S_someData N r3.2 r5 h_6) rfl Try.call66 rfl ⟨.op rfl, trivial⟩ rfl ⟨⟨_, rfl, rfl, rfl, .mx ⟨.t _, .t _, trivial⟩⟩, trivial⟩ (fun h => by cases h) rfl ?_
  refine PR.nm (sA r5.1) [some ⟨.mx [.t (.v (.slice none 0 0))], 58, 0⟩, some ⟨.mx [sL r5.2.b, iA r5.2.p], 115, 0⟩, some ⟨.tr (eL r3.1.pages), 25, 1⟩, some ⟨.mx [.os 2 0 r3.1.pages.length], 58, 0⟩] rfl rfl ?_
  refine PR.nil ?_
  refine PT.done ?_
  refine PL.store rfl rfl rfl rfl rfl rfl rfl ?_
  refine PL.nO [some ⟨.mx [.os 2 0 r3.1.pages.length], 58, 0⟩, some ⟨.mx [sL r5.2.b, iA r5.2.p], 115, 0⟩, some ⟨.tr (eL r3.1.pages), 25, 1⟩, some ⟨.mx [.os 2 0 r3.1.pages.length], 58, 0⟩] rfl ?_
  refine PL.op rfl (Rd.asnT rfl) ?_
  refine PL.nil ?_
  refine thA_n ?_
  refine PC.ret ?_
  obtain rfl := some_in hh0
  exact FinA.mk (r := .tup [.agg [.os 0 0 (((r3.1, r5.1).1.pages).length)], sA ((r3.1, r5.1).2)]) (bl := [⟨.tr (eL ((r3.1, r5.1).1.pages)), 25, 1⟩]) [some 2] (.inl rfl) rfl (rl := [.cell 2 58, .tmp 3]) (.cellN rfl rfl rfl rfl (.tmp .nil)) rfl rfl rfl (.tupL ⟨.aggL ⟨.os rfl, trivial⟩, .t _, trivial⟩) ⟨⟨_, rfl, rfl, rfl, .tr _⟩, trivial⟩ ⟨rfl, rfl⟩

def m_S_HeapScan_k2 (N : Nat) (v45 : (List I_Rid)) : Option ((List I_Rid)) :=
  some v45
def m_S_HeapScan_k3 (N : Nat) (k4 : Int) (v68 : (List I_Rid)) : Option ((Int × (List I_Rid)) ⊕ (List I_Rid)) :=
  (chk (k4 + (1 : Int))).bind fun n74 =>
  some (.inl (n74, v68))
def m_S_HeapScan_b3 (N : Nat) (p_h : I_Heap) (k4 : Int) (i52 : Int) (v53 : (List I_Rid)) : Option ((Int × (List I_Rid)) ⊕ (List I_Rid)) :=
  (ixI p_h.pages k4).bind fun x76 =>
  cond (decide (i52 < (x76.slots.length : Int)))
    ((ixI p_h.pages k4).bind fun x79 =>
    (ixI x79.slots i52).bind fun x81 =>
    cond x81.live
      ((appM 16 v53 [(I_Rid.mk k4 i52)]).bind fun xs84 =>
      (chk (i52 + (1 : Int))).bind fun n86 =>
      some (.inl (n86, xs84)))
      ((chk (i52 + (1 : Int))).bind fun n88 =>
      some (.inl (n88, v53))))
    (some (.inr v53))
def m_S_HeapScan_b2 (N : Nat) (p_h : I_Heap) (k4 : Int) (v5 : (List I_Rid)) : Option ((Int × (List I_Rid)) ⊕ (List I_Rid)) :=
  cond (decide (k4 < (p_h.pages.length : Int)))
    ((loopM (β := (List I_Rid)) (fun s : Int × (List I_Rid) => m_S_HeapScan_b3 N p_h k4 s.1 s.2) N ((0 : Int), v5)).bind fun e =>
    m_S_HeapScan_k3 N k4 e)
    (some (.inr v5))
def m_S_HeapScan (N : Nat) (p_h : I_Heap) : Option ((List I_Rid)) :=
  (m_S_validHeap N p_h).bind fun r1 =>
  cond r1
    ((loopM (β := (List I_Rid)) (fun s : Int × (List I_Rid) => m_S_HeapScan_b2 N p_h s.1 s.2) N ((0 : Int), ([] : List I_Rid))).bind fun e =>
    m_S_HeapScan_k2 N e)
    (some ([] : List I_Rid))
theorem w_S_HeapScan (N : Nat) (p_h : I_Heap) (r : (List I_Rid)) (hh0 : m_S_HeapScan N p_h = some r) : FnX Try.prog 102 [] [.agg [sL p_h.pages]] (RE (.os 0 0 r.length) [⟨.tr (eL r), 62, 2⟩]) := by
  unfold m_S_HeapScan at hh0
  refine FnX.mk Try.func102 rfl rfl ?_
  intro s hs
  refine PC.seq ?_
  refine PC.region ?_
  refine PL.ef rfl (Ef.box rfl rfl rfl) ?_
  refine PL.nm (.op 0 0) [some ⟨.mx [sL p_h.pages], 58, 0⟩] rfl rfl ?_
  refine PL.op rfl (Rd.asnT rfl) ?_
  refine PL.nil ?_
  refine thA_n ?_
  refine PC.seq ?_
  refine PC.region ?_
  refine PL.ef rfl (Ef.lit0M I_Rid) ?_
  refine PL.nm (.os 1 0 0) [some ⟨.mx [sL p_h.pages], 58, 0⟩, some ⟨.tr (eL ([] : List I_Rid)), 62, 2⟩] rfl rfl ?_
  refine PL.op rfl (Rd.asnO rfl) ?_
  refine PL.nil ?_
  refine thA_n ?_
  refine PC.seq ?_
  refine PC.seq ?_
  obtain ⟨r1, h_2, hh0⟩ := bind_some hh0
  refine PC.region ?_
  refine PL.op rfl (Rd.loadBox rfl rfl rfl) ?_
  refine PL.callM false [] (w_S_validHeap N p_h r1 h_2) rfl Try.call80 rfl ⟨.aggL ⟨.t _, trivial⟩, trivial⟩ rfl trivial (fun h => by cases h) ?_
  refine PL.op rfl (Rd.unnot rfl) ?_
  refine PL.nil ?_
  refine thA_n ?_
  rcases cond_some hh0 with ⟨h_3, hh0⟩ | ⟨h_3, hh0⟩
  rotate_left
  · refine PC.cond_true rfl (not_f h_3) ?_
    refine PC.seq ?_
    refine PC.region ?_
    refine PL.op rfl (Rd.asnT rfl) ?_
    refine PL.nil ?_
    refine thA_n ?_
    refine PC.ret ?_
    refine thA_r ?_
    obtain rfl := some_in hh0
    exact FinA.mk (r := .os 0 0 0) (bl := [⟨.tr (eL ([] : List I_Rid)), 62, 2⟩]) [none] (.inl rfl) rfl (rl := [.tmp 2]) (.tmp .nil) rfl rfl rfl (.osn rfl) ⟨ow_nil _, trivial⟩ ⟨rfl, rfl⟩
  refine PC.cond_false rfl (not_t h_3) ?_
  refine PC.skip ?_
  refine thA_n ?_
  refine PC.seq ?_
  refine PC.seq ?_
  refine PC.region ?_
  refine PL.op rfl (Rd.asnT rfl) ?_
  refine PL.nil ?_
  refine thA_n ?_
  obtain ⟨o46, h_47, hh0⟩ := bind_some hh0
  refine PC.cutE hs (fun x : (List I_Rid) => [(3, .os 0 0 x.length)]) (fun x => [⟨.tr (eL x), 62, 2⟩]) (fun x => m_S_HeapScan_k2 N x = some r) ?_ ?_
  · refine PC.block ?_
    refine PC.loop hs (fun x : Nat × (Int × (List I_Rid)) => [(1, .op 0 0), (3, .os 1 0 x.2.2.length), (4, iA x.2.1)]) (fun x => [⟨.mx [sL p_h.pages], 58, 0⟩, ⟨.tr (eL x.2.2), 62, 2⟩]) (fun x => loopM (β := (List I_Rid)) (fun s : Int × (List I_Rid) => m_S_HeapScan_b2 N p_h s.1 s.2) x.1 x.2 = some o46) (fun x => x.1) (N, ((0 : Int), ([] : List I_Rid))) [some 0, some 1] ⟨rfl, rfl, ⟨⟨_, rfl, rfl, rfl, .mx ⟨.t _, trivial⟩⟩, ⟨_, rfl, rfl, rfl, .tr _⟩, trivial⟩, ⟨.op rfl, .os rfl, .t _, trivial⟩⟩ h_47 ?_
    rintro ⟨f48_, k4, v5⟩ h_50
    obtain ⟨f48, y49, rfl, hh1, kk1⟩ := loopM_some h_50
    replace hh1 : m_S_HeapScan_b2 N p_h k4 v5 = some y49 := hh1
    unfold m_S_HeapScan_b2 at hh1
    refine PC.seq ?_
    refine PC.seq ?_
    refine PC.region ?_
    refine PL.op rfl (Rd.moveT rfl) ?_
    refine PL.op rfl (Rd.fieldO rfl rfl) ?_
    refine PL.op rfl (Rd.loadO rfl rfl rfl) ?_
    refine PL.op rfl (Rd.lenT rfl) ?_
    refine PL.op rfl (Rd.lss rfl rfl) ?_
    refine PL.nil ?_
    refine thA_n ?_
    rcases cond_some hh1 with ⟨h_51, hh1⟩ | ⟨h_51, hh1⟩
    rotate_left
    · refine PC.cond_false rfl h_51 ?_
      refine PC.exit ?_
      refine thA_e ?_
      refine thA_e ?_
      refine inA_eq rfl ?_
      refine thA_n ?_
      obtain rfl := some_in hh1
      obtain rfl : (v5 : (List I_Rid)) = o46 := kk1
      exact ⟨v5, hh0, [some 1], ⟨rfl, rfl, ⟨⟨_, rfl, rfl, rfl, .tr _⟩, trivial⟩, ⟨.os rfl, trivial⟩⟩⟩
    refine PC.cond_true rfl h_51 ?_
    refine PC.skip ?_
    refine thA_n ?_
    refine PC.seq ?_
    refine PC.block ?_
    refine PC.seq ?_
    refine PC.region ?_
    refine PL.op rfl (Rd.asnT rfl) ?_
    refine PL.nil ?_
    refine thA_n ?_
    obtain ⟨o69, h_70, hh1⟩ := bind_some hh1
    refine PC.cutE hs (fun x : (List I_Rid) => [(1, .op 0 0), (3, .os 1 0 x.length), (4, iA k4)]) (fun x => [⟨.mx [sL p_h.pages], 58, 0⟩, ⟨.tr (eL x), 62, 2⟩]) (fun x => m_S_HeapScan_k3 N k4 x = some y49) ?_ ?_
    · refine PC.block ?_
      refine PC.loop hs (fun x : Nat × (Int × (List I_Rid)) => [(1, .op 0 0), (3, .os 1 0 x.2.2.length), (4, iA k4), (5, iA x.2.1)]) (fun x => [⟨.mx [sL p_h.pages], 58, 0⟩, ⟨.tr (eL x.2.2), 62, 2⟩]) (fun x => loopM (β := (List I_Rid)) (fun s : Int × (List I_Rid) => m_S_HeapScan_b3 N p_h k4 s.1 s.2) x.1 x.2 = some o69) (fun x => x.1) (N, ((0 : Int), v5)) [some 0, some 1] ⟨rfl, rfl, ⟨⟨_, rfl, rfl, rfl, .mx ⟨.t _, trivial⟩⟩, ⟨_, rfl, rfl, rfl, .tr _⟩, trivial⟩, ⟨.op rfl, .os rfl, .t _, .t _, trivial⟩⟩ h_70 ?_
      rintro ⟨f71_, i52, v53⟩ h_73
      obtain ⟨f71, y72, rfl, hh2, kk2⟩ := loopM_some h_73
      replace hh2 : m_S_HeapScan_b3 N p_h k4 i52 v53 = some y72 := hh2
      unfold m_S_HeapScan_b3 at hh2
      refine PC.seq ?_
      refine PC.seq ?_
      obtain ⟨x76, h_77, hh2⟩ := bind_some hh2
      refine PC.region ?_
      refine PL.op rfl (Rd.moveT rfl) ?_
      refine PL.op rfl (Rd.fieldO rfl rfl) ?_
      refine PL.op rfl (Rd.loadO rfl rfl rfl) ?_
      refine PL.op rfl (Rd.moveT rfl) ?_
      refine PL.op rfl (Rd.ixM rfl rfl h_77) ?_
      refine PL.op rfl (Rd.fieldT rfl) ?_
      refine PL.op rfl (Rd.elMF (f := 0) rfl h_77 rfl rfl) ?_
      refine PL.op rfl (Rd.lenT rfl) ?_
      refine PL.op rfl (Rd.lss rfl rfl) ?_
      refine PL.nil ?_
      refine thA_n ?_
      rcases cond_some hh2 with ⟨h_78, hh2⟩ | ⟨h_78, hh2⟩
      rotate_left
      · refine PC.cond_false rfl h_78 ?_
        refine PC.exit ?_
        refine thA_e ?_
        refine thA_e ?_
        refine inA_eq rfl ?_
        refine thA_n ?_
        obtain rfl := some_in hh2
        obtain rfl : (v53 : (List I_Rid)) = o69 := kk2
        exact ⟨v53, hh1, [some 0, some 1], ⟨rfl, rfl, ⟨⟨_, rfl, rfl, rfl, .mx ⟨.t _, trivial⟩⟩, ⟨_, rfl, rfl, rfl, .tr _⟩, trivial⟩, ⟨.op rfl, .os rfl, .t _, trivial⟩⟩⟩
      refine PC.cond_true rfl h_78 ?_
      refine PC.skip ?_
      refine thA_n ?_
      refine PC.seq ?_
      refine PC.block ?_
      refine PC.seq ?_
      obtain ⟨x79, h_80, hh2⟩ := bind_some hh2
      obtain ⟨x81, h_82, hh2⟩ := bind_some hh2
      refine PC.region ?_
      refine PL.op rfl (Rd.fieldO rfl rfl) ?_
      refine PL.op rfl (Rd.loadO rfl rfl rfl) ?_
      refine PL.op rfl (Rd.moveT rfl) ?_
      refine PL.op rfl (Rd.ixM rfl rfl h_80) ?_
      refine PL.op rfl (Rd.fieldT rfl) ?_
      refine PL.op rfl (Rd.elMF (f := 0) rfl h_80 rfl rfl) ?_
      refine PL.op rfl (Rd.moveT rfl) ?_
      refine PL.op rfl (Rd.ixM rfl rfl h_82) ?_
      refine PL.op rfl (Rd.fieldT rfl) ?_
      refine PL.op rfl (Rd.elMF (f := 0) rfl h_82 rfl rfl) ?_
      refine PL.nil ?_
      refine thA_n ?_
      rcases cond_some hh2 with ⟨h_83, hh2⟩ | ⟨h_83, hh2⟩
      rotate_left
      · refine PC.cond_false rfl h_83 ?_
        refine PC.skip ?_
        refine inA_n ?_
        refine thA_n ?_
        obtain ⟨n88, h_89, hh2⟩ := bind_some hh2
        refine PC.region ?_
        refine PL.op rfl (Rd.moveT rfl) ?_
        refine PL.op rfl (Rd.addM rfl rfl h_89) ?_
        refine PL.op rfl (Rd.asnT rfl) ?_
        refine PL.nil ?_
        obtain rfl := some_in hh2
        refine thA_n ?_
        exact ⟨(f71, (n88, v53)), Nat.lt_succ_self _, kk2, [some 0, some 1], ⟨rfl, rfl, ⟨⟨_, rfl, rfl, rfl, .mx ⟨.t _, trivial⟩⟩, ⟨_, rfl, rfl, rfl, .tr _⟩, trivial⟩, ⟨.op rfl, .os rfl, .t _, .t _, trivial⟩⟩⟩
      refine PC.cond_true rfl h_83 ?_
      obtain ⟨xs84, h_85, hh2⟩ := bind_some hh2
      refine PC.region ?_
      refine PL.op rfl (Rd.moveO rfl) ?_
      refine PL.op rfl (Rd.moveT rfl) ?_
      refine PL.op rfl (Rd.moveT rfl) ?_
      refine PL.op rfl (Rd.build rfl rfl rfl rfl) ?_
      refine PL.ef rfl (Ef.litM (α := I_Rid) [(I_Rid.mk k4 i52)] [_] rfl rfl (by decide) rfl rfl rfl rfl) ?_
      refine PL.nm (.os 2 0 1) [some ⟨.mx [sL p_h.pages], 58, 0⟩, some ⟨.tr (eL v53), 62, 2⟩, some ⟨.tr (eL [(I_Rid.mk k4 i52)]), 62, 2⟩] rfl rfl ?_
      refine PL.apM hs rfl rfl rfl rfl (SrcA.ownE rfl rfl rfl) rfl rfl rfl rfl h_85 ?_
      refine PL.nm (.os 3 0 xs84.length) [some ⟨.mx [sL p_h.pages], 58, 0⟩, none, some ⟨.tr (eL [(I_Rid.mk k4 i52)]), 62, 2⟩, some ⟨.tr (eL xs84), 62, 2⟩] rfl rfl ?_
      refine PL.op rfl (Rd.asnO rfl) ?_
      refine PL.nil ?_
      refine inA_n ?_
      refine thA_n ?_
      obtain ⟨n86, h_87, hh2⟩ := bind_some hh2
      refine PC.region ?_
      refine PL.op rfl (Rd.moveT rfl) ?_
      refine PL.op rfl (Rd.addM rfl rfl h_87) ?_
      refine PL.op rfl (Rd.asnT rfl) ?_
      refine PL.nil ?_
      obtain rfl := some_in hh2
      refine thA_n ?_
      exact ⟨(f71, (n86, xs84)), Nat.lt_succ_self _, kk2, [some 0, some 3], ⟨rfl, rfl, ⟨⟨_, rfl, rfl, rfl, .mx ⟨.t _, trivial⟩⟩, ⟨_, rfl, rfl, rfl, .tr _⟩, trivial⟩, ⟨.op rfl, .os rfl, .t _, .t _, trivial⟩⟩⟩
    clear hh1
    rintro v68 hh1
    replace hh1 : m_S_HeapScan_k3 N k4 v68 = some y49 := hh1
    unfold m_S_HeapScan_k3 at hh1
    refine inA_n ?_
    refine thA_n ?_
    obtain ⟨n74, h_75, hh1⟩ := bind_some hh1
    refine PC.region ?_
    refine PL.op rfl (Rd.moveT rfl) ?_
    refine PL.op rfl (Rd.addM rfl rfl h_75) ?_
    refine PL.op rfl (Rd.asnT rfl) ?_
    refine PL.nil ?_
    obtain rfl := some_in hh1
    refine thA_n ?_
    exact ⟨(f48, (n74, v68)), Nat.lt_succ_self _, kk1, [some 0, some 1], ⟨rfl, rfl, ⟨⟨_, rfl, rfl, rfl, .mx ⟨.t _, trivial⟩⟩, ⟨_, rfl, rfl, rfl, .tr _⟩, trivial⟩, ⟨.op rfl, .os rfl, .t _, trivial⟩⟩⟩
  clear hh0
  rintro v45 hh0
  replace hh0 : m_S_HeapScan_k2 N v45 = some r := hh0
  unfold m_S_HeapScan_k2 at hh0
  refine thA_n ?_
  refine PC.seq ?_
  refine PC.region ?_
  refine PL.op rfl (Rd.moveO rfl) ?_
  refine PL.op rfl (Rd.asnO rfl) ?_
  refine PL.nil ?_
  refine thA_n ?_
  refine PC.ret ?_
  obtain rfl := some_in hh0
  exact FinA.mk (r := .os 0 0 v45.length) (bl := [⟨.tr (eL v45), 62, 2⟩]) [some 0] (.inl rfl) rfl (rl := [.tmp 2]) (.tmp .nil) rfl rfl rfl (.os rfl) ⟨⟨_, rfl, rfl, rfl, .tr _⟩, trivial⟩ ⟨rfl, rfl⟩

def m_S_someRid (N : Nat) (p_r : S_reader) (p_h : I_Heap) : Option (I_Rid × S_reader) :=
  (m_S_HeapScan N p_h).bind fun r1 =>
  cond (decide ((0 : Int) < (r1.length : Int)))
    ((m_S_reader_pick N p_r (4 : Int)).bind fun r4 =>
    cond (decide ((0 : Int) < r4.1))
      ((m_S_reader_pick N r4.2 (r1.length : Int)).bind fun r7 =>
      (ixI r1 r7.1).bind fun x9 =>
      some (x9, r7.2))
      ((m_S_reader_one N r4.2 [(0 : Int), (1 : Int), (6 : Int), (-1 : Int)]).bind fun r11 =>
      (m_S_someSlot N r11.2).bind fun r13 =>
      some ((I_Rid.mk r11.1 r13.1), r13.2)))
    ((m_S_reader_one N p_r [(0 : Int), (1 : Int), (6 : Int), (-1 : Int)]).bind fun r15 =>
    (m_S_someSlot N r15.2).bind fun r17 =>
    some ((I_Rid.mk r15.1 r17.1), r17.2))
theorem w_S_someRid (N : Nat) (p_r : S_reader) (p_h : I_Heap) (r : I_Rid × S_reader) (hh0 : m_S_someRid N p_r p_h = some r) : FnX Try.prog 92 [⟨.mx [sL p_r.b, iA p_r.p], 115, 0⟩] [.op 0 0, .agg [sL p_h.pages]] (RE (.agg [iA r.1.page, iA r.1.slot]) [⟨.mx [sL r.2.b, iA r.2.p], 115, 0⟩]) := by
  unfold m_S_someRid at hh0
  refine FnX.mk Try.func92 rfl rfl ?_
  intro s hs
  refine PC.seq ?_
  refine PC.region ?_
  refine PL.ef rfl (Ef.box rfl rfl rfl) ?_
  refine PL.nm (.op 1 0) [some ⟨.mx [sL p_r.b, iA p_r.p], 115, 0⟩, some ⟨.mx [sL p_h.pages], 58, 0⟩] rfl rfl ?_
  refine PL.ef rfl (Ef.alloc rfl rfl) ?_
  refine PL.nm (.op 2 0) [some ⟨.mx [sL p_r.b, iA p_r.p], 115, 0⟩, some ⟨.mx [sL p_h.pages], 58, 0⟩, some ⟨.mx [iA (0 : Int), iA (0 : Int)], 62, 0⟩] rfl rfl ?_
  refine PL.nil ?_
  refine thA_n ?_
  refine PC.seq ?_
  obtain ⟨r1, h_2, hh0⟩ := bind_some hh0
  refine PC.region ?_
  refine PL.op rfl (Rd.loadBox rfl rfl rfl) ?_
  refine PL.callM false [] (w_S_HeapScan N p_h r1 h_2) rfl Try.call102 rfl ⟨.aggL ⟨.t _, trivial⟩, trivial⟩ rfl trivial (fun h => by cases h) ?_
  refine PL.nm (.os 3 0 r1.length) [some ⟨.mx [sL p_r.b, iA p_r.p], 115, 0⟩, some ⟨.mx [sL p_h.pages], 58, 0⟩, some ⟨.mx [iA (0 : Int), iA (0 : Int)], 62, 0⟩, some ⟨.tr (eL r1), 62, 2⟩] rfl rfl ?_
  refine PL.op rfl (Rd.asnO rfl) ?_
  refine PL.nil ?_
  refine thA_n ?_
  refine PC.seq ?_
  refine PC.seq ?_
  rcases cond_some hh0 with ⟨h_3, hh0⟩ | ⟨h_3, hh0⟩
  rotate_left
  · refine PC.region ?_
    refine PL.op rfl (Rd.moveO rfl) ?_
    refine PL.op rfl (Rd.lenO rfl rfl) ?_
    refine PL.op rfl (Rd.gtr rfl rfl) ?_
    refine PL.op rfl (Rd.moveT rfl) ?_
    refine PL.guard_off rfl rfl h_3 ?_
    refine PL.guard_off rfl rfl h_3 ?_
    refine PL.guard_off rfl rfl h_3 ?_
    refine PL.op rfl (Rd.pick_f rfl h_3) ?_
    refine PL.nil ?_
    refine thA_n ?_
    refine PC.cond_false rfl rfl ?_
    refine PC.skip ?_
    refine thA_n ?_
    refine PC.seq ?_
    obtain ⟨r15, h_16, hh0⟩ := bind_some hh0
    obtain ⟨r17, h_18, hh0⟩ := bind_some hh0
    refine PC.region ?_
    refine PL.op rfl (Rd.moveP rfl) ?_
    refine PL.er rfl (Er.ints [(0 : Int), (1 : Int), (6 : Int), (-1 : Int)] rfl rfl (by decide) rfl) ?_
    refine PL.callM false [0] (w_S_reader_one N p_r [(0 : Int), (1 : Int), (6 : Int), (-1 : Int)] r15 h_16) rfl Try.call97 rfl ⟨.op rfl, .t _, trivial⟩ rfl ⟨⟨_, rfl, rfl, rfl, .mx ⟨.t _, .t _, trivial⟩⟩, trivial⟩ (fun h => by cases h) ?_
    refine PL.nm (iA r15.1) [some ⟨.mx [sL r15.2.b, iA r15.2.p], 115, 0⟩, some ⟨.mx [sL p_h.pages], 58, 0⟩, some ⟨.mx [iA (0 : Int), iA (0 : Int)], 62, 0⟩, some ⟨.tr (eL r1), 62, 2⟩] rfl rfl ?_
    refine PL.op rfl (Rd.moveP rfl) ?_
    refine PL.callM false [0] (w_S_someSlot N r15.2 r17 h_18) rfl Try.call69 rfl ⟨.op rfl, trivial⟩ rfl ⟨⟨_, rfl, rfl, rfl, .mx ⟨.t _, .t _, trivial⟩⟩, trivial⟩ (fun h => by cases h) ?_
    refine PL.nm (iA r17.1) [some ⟨.mx [sL r17.2.b, iA r17.2.p], 115, 0⟩, some ⟨.mx [sL p_h.pages], 58, 0⟩, some ⟨.mx [iA (0 : Int), iA (0 : Int)], 62, 0⟩, some ⟨.tr (eL r1), 62, 2⟩] rfl rfl ?_
    refine PL.op rfl (Rd.build rfl rfl rfl rfl) ?_
    refine PL.store rfl rfl rfl rfl rfl rfl rfl ?_
    refine PL.nO [some ⟨.mx [sL r17.2.b, iA r17.2.p], 115, 0⟩, some ⟨.mx [sL p_h.pages], 58, 0⟩, some ⟨.mx [iA r15.1, iA r17.1], 62, 0⟩, some ⟨.tr (eL r1), 62, 2⟩] rfl ?_
    refine PL.nil ?_
    refine thA_n ?_
    refine PC.ret ?_
    obtain rfl := some_in hh0
    exact FinA.mk (r := .agg [iA (((I_Rid.mk r15.1 r17.1), r17.2).1.page), iA (((I_Rid.mk r15.1 r17.1), r17.2).1.slot)]) (bl := [⟨.mx [sL (((I_Rid.mk r15.1 r17.1), r17.2).2.b), iA (((I_Rid.mk r15.1 r17.1), r17.2).2.p)], 115, 0⟩]) [some 0] (.inl rfl) rfl (rl := [.cell 4 62]) (.cellN rfl rfl rfl rfl .nil) rfl rfl rfl (.aggL ⟨.t _, .t _, trivial⟩) ⟨⟨_, rfl, rfl, rfl, .mx ⟨.t _, .t _, trivial⟩⟩, trivial⟩ ⟨rfl, rfl⟩
  obtain ⟨r4, h_5, hh0⟩ := bind_some hh0
  refine PC.region ?_
  refine PL.op rfl (Rd.moveO rfl) ?_
  refine PL.op rfl (Rd.lenO rfl rfl) ?_
  refine PL.op rfl (Rd.gtr rfl rfl) ?_
  refine PL.op rfl (Rd.moveT rfl) ?_
  refine PL.guard_on rfl h_3 ?_
  refine PL.op rfl (Rd.moveP rfl) ?_
  refine PL.guard_on rfl h_3 ?_
  refine PL.callM false [0] (w_S_reader_pick N p_r (4 : Int) r4 h_5) rfl Try.call94 rfl ⟨.op rfl, .t _, trivial⟩ rfl ⟨⟨_, rfl, rfl, rfl, .mx ⟨.t _, .t _, trivial⟩⟩, trivial⟩ (fun h => by cases h) ?_
  refine PL.nm (iA r4.1) [some ⟨.mx [sL r4.2.b, iA r4.2.p], 115, 0⟩, some ⟨.mx [sL p_h.pages], 58, 0⟩, some ⟨.mx [iA (0 : Int), iA (0 : Int)], 62, 0⟩, some ⟨.tr (eL r1), 62, 2⟩] rfl rfl ?_
  refine PL.guard_on rfl h_3 ?_
  refine PL.op rfl (Rd.gtr rfl rfl) ?_
  refine PL.op rfl (Rd.pick_t rfl h_3) ?_
  refine PL.nil ?_
  refine thA_n ?_
  rcases cond_some hh0 with ⟨h_6, hh0⟩ | ⟨h_6, hh0⟩
  · refine PC.cond_true rfl h_6 ?_
    refine PC.seq ?_
    obtain ⟨r7, h_8, hh0⟩ := bind_some hh0
    obtain ⟨x9, h_10, hh0⟩ := bind_some hh0
    refine PC.region ?_
    refine PL.op rfl (Rd.moveO rfl) ?_
    refine PL.op rfl (Rd.moveP rfl) ?_
    refine PL.op rfl (Rd.moveO rfl) ?_
    refine PL.op rfl (Rd.lenO rfl rfl) ?_
    refine PL.callM false [0] (w_S_reader_pick N r4.2 (r1.length : Int) r7 h_8) rfl Try.call94 rfl ⟨.op rfl, .t _, trivial⟩ rfl ⟨⟨_, rfl, rfl, rfl, .mx ⟨.t _, .t _, trivial⟩⟩, trivial⟩ (fun h => by cases h) ?_
    refine PL.nm (iA r7.1) [some ⟨.mx [sL r7.2.b, iA r7.2.p], 115, 0⟩, some ⟨.mx [sL p_h.pages], 58, 0⟩, some ⟨.mx [iA (0 : Int), iA (0 : Int)], 62, 0⟩, some ⟨.tr (eL r1), 62, 2⟩] rfl rfl ?_
    refine PL.op rfl (Rd.ixOM rfl rfl rfl (ixI_lt h_10)) ?_
    refine PL.op rfl (Rd.owMR rfl rfl h_10 rfl rfl) ?_
    refine PL.store rfl rfl rfl rfl rfl rfl rfl ?_
    refine PL.nO [some ⟨.mx [sL r7.2.b, iA r7.2.p], 115, 0⟩, some ⟨.mx [sL p_h.pages], 58, 0⟩, some ⟨.mx [iA x9.page, iA x9.slot], 62, 0⟩, some ⟨.tr (eL r1), 62, 2⟩] rfl ?_
    refine PL.nil ?_
    refine thA_n ?_
    refine PC.ret ?_
    refine thA_r ?_
    obtain rfl := some_in hh0
    exact FinA.mk (r := .agg [iA ((x9, r7.2).1.page), iA ((x9, r7.2).1.slot)]) (bl := [⟨.mx [sL ((x9, r7.2).2.b), iA ((x9, r7.2).2.p)], 115, 0⟩]) [some 0] (.inl rfl) rfl (rl := [.cell 4 62]) (.cellN rfl rfl rfl rfl .nil) rfl rfl rfl (.aggL ⟨.t _, .t _, trivial⟩) ⟨⟨_, rfl, rfl, rfl, .mx ⟨.t _, .t _, trivial⟩⟩, trivial⟩ ⟨rfl, rfl⟩
  refine PC.cond_false rfl h_6 ?_
  refine PC.skip ?_
  refine thA_n ?_
  refine PC.seq ?_
  obtain ⟨r11, h_12, hh0⟩ := bind_some hh0
  obtain ⟨r13, h_14, hh0⟩ := bind_some hh0
  refine PC.region ?_
  refine PL.op rfl (Rd.moveP rfl) ?_
  refine PL.er rfl (Er.ints [(0 : Int), (1 : Int), (6 : Int), (-1 : Int)] rfl rfl (by decide) rfl) ?_
  refine PL.callM false [0] (w_S_reader_one N r4.2 [(0 : Int), (1 : Int), (6 : Int), (-1 : Int)] r11 h_12) rfl Try.call97 rfl ⟨.op rfl, .t _, trivial⟩ rfl ⟨⟨_, rfl, rfl, rfl, .mx ⟨.t _, .t _, trivial⟩⟩, trivial⟩ (fun h => by cases h) ?_
  refine PL.nm (iA r11.1) [some ⟨.mx [sL r11.2.b, iA r11.2.p], 115, 0⟩, some ⟨.mx [sL p_h.pages], 58, 0⟩, some ⟨.mx [iA (0 : Int), iA (0 : Int)], 62, 0⟩, some ⟨.tr (eL r1), 62, 2⟩] rfl rfl ?_
  refine PL.op rfl (Rd.moveP rfl) ?_
  refine PL.callM false [0] (w_S_someSlot N r11.2 r13 h_14) rfl Try.call69 rfl ⟨.op rfl, trivial⟩ rfl ⟨⟨_, rfl, rfl, rfl, .mx ⟨.t _, .t _, trivial⟩⟩, trivial⟩ (fun h => by cases h) ?_
  refine PL.nm (iA r13.1) [some ⟨.mx [sL r13.2.b, iA r13.2.p], 115, 0⟩, some ⟨.mx [sL p_h.pages], 58, 0⟩, some ⟨.mx [iA (0 : Int), iA (0 : Int)], 62, 0⟩, some ⟨.tr (eL r1), 62, 2⟩] rfl rfl ?_
  refine PL.op rfl (Rd.build rfl rfl rfl rfl) ?_
  refine PL.store rfl rfl rfl rfl rfl rfl rfl ?_
  refine PL.nO [some ⟨.mx [sL r13.2.b, iA r13.2.p], 115, 0⟩, some ⟨.mx [sL p_h.pages], 58, 0⟩, some ⟨.mx [iA r11.1, iA r13.1], 62, 0⟩, some ⟨.tr (eL r1), 62, 2⟩] rfl ?_
  refine PL.nil ?_
  refine thA_n ?_
  refine PC.ret ?_
  obtain rfl := some_in hh0
  exact FinA.mk (r := .agg [iA (((I_Rid.mk r11.1 r13.1), r13.2).1.page), iA (((I_Rid.mk r11.1 r13.1), r13.2).1.slot)]) (bl := [⟨.mx [sL (((I_Rid.mk r11.1 r13.1), r13.2).2.b), iA (((I_Rid.mk r11.1 r13.1), r13.2).2.p)], 115, 0⟩]) [some 0] (.inl rfl) rfl (rl := [.cell 4 62]) (.cellN rfl rfl rfl rfl .nil) rfl rfl rfl (.aggL ⟨.t _, .t _, trivial⟩) ⟨⟨_, rfl, rfl, rfl, .mx ⟨.t _, .t _, trivial⟩⟩, trivial⟩ ⟨rfl, rfl⟩

def m_S_DrawHeapGet (N : Nat) (p_code : (List UInt8)) : Option (I_Heap × I_Rid) :=
  (m_S_newReader N p_code).bind fun r1 =>
  (m_S_anyHeap N r1).bind fun r3 =>
  (m_S_someRid N r3.2 r3.1).bind fun r5 =>
  some (r3.1, r5.1)
theorem w_S_DrawHeapGet (N : Nat) (p_code : (List UInt8)) (r : I_Heap × I_Rid) (hh0 : m_S_DrawHeapGet N p_code = some r) : FnX Try.prog 84 [] [sL p_code] (RE (.tup [.agg [sL r.1.pages], .agg [iA r.2.page, iA r.2.slot]]) []) := by
  unfold m_S_DrawHeapGet at hh0
  refine FnX.mk Try.func84 rfl rfl ?_
  intro s hs
  refine PC.seq ?_
  refine PC.region ?_
  refine PL.ef rfl (Ef.alloc rfl rfl) ?_
  refine PL.nm (.op 0 0) [some ⟨.mx [.t (.v (.slice none 0 0))], 58, 0⟩] rfl rfl ?_
  refine PL.ef rfl (Ef.alloc rfl rfl) ?_
  refine PL.nm (.op 1 0) [some ⟨.mx [.t (.v (.slice none 0 0))], 58, 0⟩, some ⟨.mx [iA (0 : Int), iA (0 : Int)], 62, 0⟩] rfl rfl ?_
  refine PL.nil ?_
  refine thA_n ?_
  refine PC.seq ?_
  obtain ⟨r1, h_2, hh0⟩ := bind_some hh0
  refine PC.region ?_
  refine PL.op rfl (Rd.moveT rfl) ?_
  refine PL.callM false [] (w_S_newReader N p_code r1 h_2) rfl Try.call59 rfl ⟨.t _, trivial⟩ rfl trivial (fun h => by cases h) ?_
  refine PL.nm (.op 2 0) [some ⟨.mx [.t (.v (.slice none 0 0))], 58, 0⟩, some ⟨.mx [iA (0 : Int), iA (0 : Int)], 62, 0⟩, some ⟨.mx [sL r1.b, iA r1.p], 115, 0⟩] rfl rfl ?_
  refine PL.op rfl (Rd.asnP rfl) ?_
  refine PL.nil ?_
  refine thA_n ?_
  refine PC.seq ?_
  obtain ⟨r3, h_4, hh0⟩ := bind_some hh0
  refine PC.region ?_
  refine PL.op rfl (Rd.moveP rfl) ?_
  refine PL.callM false [2] (w_S_anyHeap N r1 r3 h_4) rfl Try.call77 rfl ⟨.op rfl, trivial⟩ rfl ⟨⟨_, rfl, rfl, rfl, .mx ⟨.t _, .t _, trivial⟩⟩, trivial⟩ (fun h => by cases h) ?_
  refine PL.nm (.agg [.os 3 0 r3.1.pages.length]) [some ⟨.mx [.t (.v (.slice none 0 0))], 58, 0⟩, some ⟨.mx [iA (0 : Int), iA (0 : Int)], 62, 0⟩, some ⟨.mx [sL r3.2.b, iA r3.2.p], 115, 0⟩, some ⟨.tr (eL r3.1.pages), 25, 1⟩] rfl rfl ?_
  refine PL.ef rfl (Ef.alloc rfl rfl) ?_
  refine PL.nm (.op 4 0) [some ⟨.mx [.t (.v (.slice none 0 0))], 58, 0⟩, some ⟨.mx [iA (0 : Int), iA (0 : Int)], 62, 0⟩, some ⟨.mx [sL r3.2.b, iA r3.2.p], 115, 0⟩, some ⟨.tr (eL r3.1.pages), 25, 1⟩, some ⟨.mx [.t (.v (.slice none 0 0))], 58, 0⟩] rfl rfl ?_
  refine PL.store rfl rfl rfl rfl rfl rfl rfl ?_
  refine PL.nO [some ⟨.mx [.t (.v (.slice none 0 0))], 58, 0⟩, some ⟨.mx [iA (0 : Int), iA (0 : Int)], 62, 0⟩, some ⟨.mx [sL r3.2.b, iA r3.2.p], 115, 0⟩, some ⟨.tr (eL r3.1.pages), 25, 1⟩, some ⟨.mx [.os 3 0 r3.1.pages.length], 58, 0⟩] rfl ?_
  refine PL.nil ?_
  refine thA_n ?_
  refine PC.seq ?_
  obtain ⟨r5, h_6, hh0⟩ := bind_some hh0
  refine PC.any (id := 3) 4 (.seg [0, 1, 2, 3] .done) [2] rfl (by kernel_rfl) rfl ?_
  refine PT.seg ?_
  refine PR.op rfl (Rd.loadBox rfl rfl rfl) ?_
  refine PR.op rfl (Rd.moveP rfl) ?_
  refine PR.op rfl (Rd.loadBox rfl rfl rfl) ?_
  refine PR.frz hs 3 5 [(9, .agg [sL r3.1.pages]), (10, .agg [sL r3.1.pages]), (12, .agg [sL r3.1.pages])] [some ⟨.mx [.t (.v (.slice none 0 0))], 58, 0⟩, some ⟨.mx [iA (0 : Int), iA (0 : Int)], 62, 0⟩, some ⟨.mx [sL r3.2.b, iA r3.2.p], 115, 0⟩, none, some ⟨.mx [sL r3.1.pages], 58, 0⟩] rfl rfl rfl ⟨(.aggL ⟨(.own rfl (by decide) rfl rfl), trivial⟩), (.aggL ⟨(.own rfl (by decide) rfl rfl), trivial⟩), (.aggL ⟨(.own rfl (by decide) rfl rfl), trivial⟩), trivial⟩ ⟨⟨rfl, .inl rfl⟩, ⟨rfl, .inl rfl⟩, ⟨rfl, .inl rfl⟩, ⟨rfl, .inr ⟨_, rfl, rfl, rfl, .mx ⟨(.own rfl (by decide) rfl rfl), trivial⟩⟩⟩, trivial⟩ ?_
  refine PR.callM false [2] (w_S_someRid N r3.2 r3.1 r5 h_6) rfl Try.call92 rfl ⟨.op rfl, .aggL ⟨.t _, trivial⟩, trivial⟩ rfl ⟨⟨_, rfl, rfl, rfl, .mx ⟨.t _, .t _, trivial⟩⟩, trivial⟩ (fun h => by cases h) rfl ?_
  refine PR.nm (.agg [iA r5.1.page, iA r5.1.slot]) [some ⟨.mx [.t (.v (.slice none 0 0))], 58, 0⟩, some ⟨.mx [iA (0 : Int), iA (0 : Int)], 62, 0⟩, some ⟨.mx [sL r5.2.b, iA r5.2.p], 115, 0⟩, none, some ⟨.mx [sL r3.1.pages], 58, 0⟩] rfl rfl ?_
  refine PR.nil ?_
  refine PT.done ?_
  refine PL.store rfl rfl rfl rfl rfl rfl rfl ?_
  refine PL.nO [some ⟨.mx [sL r3.1.pages], 58, 0⟩, some ⟨.mx [iA (0 : Int), iA (0 : Int)], 62, 0⟩, some ⟨.mx [sL r5.2.b, iA r5.2.p], 115, 0⟩, none, some ⟨.mx [sL r3.1.pages], 58, 0⟩] rfl ?_
  refine PL.store rfl rfl rfl rfl rfl rfl rfl ?_
  refine PL.nO [some ⟨.mx [sL r3.1.pages], 58, 0⟩, some ⟨.mx [iA r5.1.page, iA r5.1.slot], 62, 0⟩, some ⟨.mx [sL r5.2.b, iA r5.2.p], 115, 0⟩, none, some ⟨.mx [sL r3.1.pages], 58, 0⟩] rfl ?_
  refine PL.nil ?_
  refine thA_n ?_
  refine PC.ret ?_
  obtain rfl := some_in hh0
  exact FinA.mk (r := .tup [.agg [sL ((r3.1, r5.1).1.pages)], .agg [iA ((r3.1, r5.1).2.page), iA ((r3.1, r5.1).2.slot)]]) (bl := []) [] (.inl rfl) rfl (rl := [.cell 2 58, .cell 3 62]) (.cellN rfl rfl rfl rfl (.cellN rfl rfl rfl rfl .nil)) rfl rfl rfl (.tupL ⟨.aggL ⟨.t _, trivial⟩, .aggL ⟨.t _, .t _, trivial⟩, trivial⟩) trivial ⟨rfl, rfl⟩

def m_S_DrawHeapDelete (N : Nat) (p_code : (List UInt8)) : Option (I_Heap × I_Rid) :=
  (m_S_DrawHeapGet N p_code).bind fun r1 =>
  some (r1.1, r1.2)
theorem w_S_DrawHeapDelete (N : Nat) (p_code : (List UInt8)) (r : I_Heap × I_Rid) (hh0 : m_S_DrawHeapDelete N p_code = some r) : FnX Try.prog 45 [] [sL p_code] (RE (.tup [.agg [sL r.1.pages], .agg [iA r.2.page, iA r.2.slot]]) []) := by
  unfold m_S_DrawHeapDelete at hh0
  refine FnX.mk Try.func45 rfl rfl ?_
  intro s hs
  refine PC.seq ?_
  refine PC.region ?_
  refine PL.ef rfl (Ef.alloc rfl rfl) ?_
  refine PL.nm (.op 0 0) [some ⟨.mx [.t (.v (.slice none 0 0))], 58, 0⟩] rfl rfl ?_
  refine PL.ef rfl (Ef.alloc rfl rfl) ?_
  refine PL.nm (.op 1 0) [some ⟨.mx [.t (.v (.slice none 0 0))], 58, 0⟩, some ⟨.mx [iA (0 : Int), iA (0 : Int)], 62, 0⟩] rfl rfl ?_
  refine PL.nil ?_
  refine thA_n ?_
  refine PC.seq ?_
  obtain ⟨r1, h_2, hh0⟩ := bind_some hh0
  refine PC.region ?_
  refine PL.op rfl (Rd.moveT rfl) ?_
  refine PL.callM false [] (w_S_DrawHeapGet N p_code r1 h_2) rfl Try.call84 rfl ⟨.t _, trivial⟩ rfl trivial (fun h => by cases h) ?_
  refine PL.op rfl (Rd.extract rfl rfl) ?_
  refine PL.op rfl (Rd.extract rfl rfl) ?_
  refine PL.store rfl rfl rfl rfl rfl rfl rfl ?_
  refine PL.nO [some ⟨.mx [sL r1.1.pages], 58, 0⟩, some ⟨.mx [iA (0 : Int), iA (0 : Int)], 62, 0⟩] rfl ?_
  refine PL.store rfl rfl rfl rfl rfl rfl rfl ?_
  refine PL.nO [some ⟨.mx [sL r1.1.pages], 58, 0⟩, some ⟨.mx [iA r1.2.page, iA r1.2.slot], 62, 0⟩] rfl ?_
  refine PL.nil ?_
  refine thA_n ?_
  refine PC.ret ?_
  obtain rfl := some_in hh0
  exact FinA.mk (r := .tup [.agg [sL ((r1.1, r1.2).1.pages)], .agg [iA ((r1.1, r1.2).2.page), iA ((r1.1, r1.2).2.slot)]]) (bl := []) [] (.inl rfl) rfl (rl := [.cell 2 58, .cell 3 62]) (.cellN rfl rfl rfl rfl (.cellN rfl rfl rfl rfl .nil)) rfl rfl rfl (.tupL ⟨.aggL ⟨.t _, trivial⟩, .aggL ⟨.t _, .t _, trivial⟩, trivial⟩) trivial ⟨rfl, rfl⟩

def m_S_DrawHeapUpdate (N : Nat) (p_code : (List UInt8)) : Option (I_Heap × I_Rid × ByteArray) :=
  (m_S_newReader N p_code).bind fun r1 =>
  (m_S_anyHeap N r1).bind fun r3 =>
  (m_S_someRid N r3.2 r3.1).bind fun r5 =>
  (m_S_someData N r5.2).bind fun r7 =>
  some (r3.1, r5.1, r7.1)
theorem w_S_DrawHeapUpdate (N : Nat) (p_code : (List UInt8)) (r : I_Heap × I_Rid × ByteArray) (hh0 : m_S_DrawHeapUpdate N p_code = some r) : FnX Try.prog 55 [] [sL p_code] (RE (.tup [.agg [sL r.1.pages], .agg [iA r.2.1.page, iA r.2.1.slot], sA r.2.2]) []) := by
  unfold m_S_DrawHeapUpdate at hh0
  refine FnX.mk Try.func55 rfl rfl ?_
  intro s hs
  refine PC.seq ?_
  refine PC.region ?_
  refine PL.ef rfl (Ef.alloc rfl rfl) ?_
  refine PL.nm (.op 0 0) [some ⟨.mx [.t (.v (.slice none 0 0))], 58, 0⟩] rfl rfl ?_
  refine PL.ef rfl (Ef.alloc rfl rfl) ?_
  refine PL.nm (.op 1 0) [some ⟨.mx [.t (.v (.slice none 0 0))], 58, 0⟩, some ⟨.mx [iA (0 : Int), iA (0 : Int)], 62, 0⟩] rfl rfl ?_
  refine PL.op rfl (Rd.asnT rfl) ?_
  refine PL.nil ?_
  refine thA_n ?_
  refine PC.seq ?_
  obtain ⟨r1, h_2, hh0⟩ := bind_some hh0
  refine PC.region ?_
  refine PL.op rfl (Rd.moveT rfl) ?_
  refine PL.callM false [] (w_S_newReader N p_code r1 h_2) rfl Try.call59 rfl ⟨.t _, trivial⟩ rfl trivial (fun h => by cases h) ?_
  refine PL.nm (.op 2 0) [some ⟨.mx [.t (.v (.slice none 0 0))], 58, 0⟩, some ⟨.mx [iA (0 : Int), iA (0 : Int)], 62, 0⟩, some ⟨.mx [sL r1.b, iA r1.p], 115, 0⟩] rfl rfl ?_
  refine PL.op rfl (Rd.asnP rfl) ?_
  refine PL.nil ?_
  refine thA_n ?_
  refine PC.seq ?_
  obtain ⟨r3, h_4, hh0⟩ := bind_some hh0
  refine PC.region ?_
  refine PL.op rfl (Rd.moveP rfl) ?_
  refine PL.callM false [2] (w_S_anyHeap N r1 r3 h_4) rfl Try.call77 rfl ⟨.op rfl, trivial⟩ rfl ⟨⟨_, rfl, rfl, rfl, .mx ⟨.t _, .t _, trivial⟩⟩, trivial⟩ (fun h => by cases h) ?_
  refine PL.nm (.agg [.os 3 0 r3.1.pages.length]) [some ⟨.mx [.t (.v (.slice none 0 0))], 58, 0⟩, some ⟨.mx [iA (0 : Int), iA (0 : Int)], 62, 0⟩, some ⟨.mx [sL r3.2.b, iA r3.2.p], 115, 0⟩, some ⟨.tr (eL r3.1.pages), 25, 1⟩] rfl rfl ?_
  refine PL.ef rfl (Ef.alloc rfl rfl) ?_
  refine PL.nm (.op 4 0) [some ⟨.mx [.t (.v (.slice none 0 0))], 58, 0⟩, some ⟨.mx [iA (0 : Int), iA (0 : Int)], 62, 0⟩, some ⟨.mx [sL r3.2.b, iA r3.2.p], 115, 0⟩, some ⟨.tr (eL r3.1.pages), 25, 1⟩, some ⟨.mx [.t (.v (.slice none 0 0))], 58, 0⟩] rfl rfl ?_
  refine PL.store rfl rfl rfl rfl rfl rfl rfl ?_
  refine PL.nO [some ⟨.mx [.t (.v (.slice none 0 0))], 58, 0⟩, some ⟨.mx [iA (0 : Int), iA (0 : Int)], 62, 0⟩, some ⟨.mx [sL r3.2.b, iA r3.2.p], 115, 0⟩, some ⟨.tr (eL r3.1.pages), 25, 1⟩, some ⟨.mx [.os 3 0 r3.1.pages.length], 58, 0⟩] rfl ?_
  refine PL.nil ?_
  refine thA_n ?_
  refine PC.seq ?_
  obtain ⟨r5, h_6, hh0⟩ := bind_some hh0
  refine PC.region ?_
  refine PL.op rfl (Rd.moveP rfl) ?_
  refine PL.op rfl (Rd.loadBox rfl rfl rfl) ?_
  refine PL.frz hs 3 5 [(11, .agg [sL r3.1.pages]), (13, .agg [sL r3.1.pages])] [some ⟨.mx [.t (.v (.slice none 0 0))], 58, 0⟩, some ⟨.mx [iA (0 : Int), iA (0 : Int)], 62, 0⟩, some ⟨.mx [sL r3.2.b, iA r3.2.p], 115, 0⟩, none, some ⟨.mx [sL r3.1.pages], 58, 0⟩] rfl rfl ⟨(.aggL ⟨(.own rfl (by decide) rfl rfl), trivial⟩), (.aggL ⟨(.own rfl (by decide) rfl rfl), trivial⟩), trivial⟩ ⟨⟨rfl, .inl rfl⟩, ⟨rfl, .inl rfl⟩, ⟨rfl, .inl rfl⟩, ⟨rfl, .inr ⟨_, rfl, rfl, rfl, .mx ⟨(.own rfl (by decide) rfl rfl), trivial⟩⟩⟩, trivial⟩ ?_
  refine PL.callM false [2] (w_S_someRid N r3.2 r3.1 r5 h_6) rfl Try.call92 rfl ⟨.op rfl, .aggL ⟨.t _, trivial⟩, trivial⟩ rfl ⟨⟨_, rfl, rfl, rfl, .mx ⟨.t _, .t _, trivial⟩⟩, trivial⟩ (fun h => by cases h) ?_
  refine PL.nm (.agg [iA r5.1.page, iA r5.1.slot]) [some ⟨.mx [.t (.v (.slice none 0 0))], 58, 0⟩, some ⟨.mx [iA (0 : Int), iA (0 : Int)], 62, 0⟩, some ⟨.mx [sL r5.2.b, iA r5.2.p], 115, 0⟩, none, some ⟨.mx [sL r3.1.pages], 58, 0⟩] rfl rfl ?_
  refine PL.ef rfl (Ef.alloc rfl rfl) ?_
  refine PL.nm (.op 5 0) [some ⟨.mx [.t (.v (.slice none 0 0))], 58, 0⟩, some ⟨.mx [iA (0 : Int), iA (0 : Int)], 62, 0⟩, some ⟨.mx [sL r5.2.b, iA r5.2.p], 115, 0⟩, none, some ⟨.mx [sL r3.1.pages], 58, 0⟩, some ⟨.mx [iA (0 : Int), iA (0 : Int)], 62, 0⟩] rfl rfl ?_
  refine PL.store rfl rfl rfl rfl rfl rfl rfl ?_
  refine PL.nO [some ⟨.mx [.t (.v (.slice none 0 0))], 58, 0⟩, some ⟨.mx [iA (0 : Int), iA (0 : Int)], 62, 0⟩, some ⟨.mx [sL r5.2.b, iA r5.2.p], 115, 0⟩, none, some ⟨.mx [sL r3.1.pages], 58, 0⟩, some ⟨.mx [iA r5.1.page, iA r5.1.slot], 62, 0⟩] rfl ?_
  refine PL.nil ?_
  refine thA_n ?_
  refine PC.seq ?_
  obtain ⟨r7, h_8, hh0⟩ := bind_some hh0
  refine PC.any (id := 4) 7 (.seg [0, 1, 2, 3, 4, 5, 6] .done) [0, 1, 2] rfl (by kernel_rfl) rfl ?_
  refine PT.seg ?_
  refine PR.op rfl (Rd.loadBox rfl rfl rfl) ?_
  refine PR.op rfl (Rd.loadBox rfl rfl rfl) ?_
  refine PR.op rfl (Rd.moveP rfl) ?_
  refine PR.callM false [2] (w_S_someData N r5.2 r7 h_8) rfl Try.call66 rfl ⟨.op rfl, trivial⟩ rfl ⟨⟨_, rfl, rfl, rfl, .mx ⟨.t _, .t _, trivial⟩⟩, trivial⟩ (fun h => by cases h) rfl ?_
  refine PR.nm (sA r7.1) [some ⟨.mx [.t (.v (.slice none 0 0))], 58, 0⟩, some ⟨.mx [iA (0 : Int), iA (0 : Int)], 62, 0⟩, some ⟨.mx [sL r7.2.b, iA r7.2.p], 115, 0⟩, none, some ⟨.mx [sL r3.1.pages], 58, 0⟩, some ⟨.mx [iA r5.1.page, iA r5.1.slot], 62, 0⟩] rfl rfl ?_
  refine PR.store rfl rfl rfl rfl rfl rfl rfl rfl ?_
  refine PR.nO [some ⟨.mx [sL r3.1.pages], 58, 0⟩, some ⟨.mx [iA (0 : Int), iA (0 : Int)], 62, 0⟩, some ⟨.mx [sL r7.2.b, iA r7.2.p], 115, 0⟩, none, some ⟨.mx [sL r3.1.pages], 58, 0⟩, some ⟨.mx [iA r5.1.page, iA r5.1.slot], 62, 0⟩] rfl ?_
  refine PR.store rfl rfl rfl rfl rfl rfl rfl rfl ?_
  refine PR.nO [some ⟨.mx [sL r3.1.pages], 58, 0⟩, some ⟨.mx [iA r5.1.page, iA r5.1.slot], 62, 0⟩, some ⟨.mx [sL r7.2.b, iA r7.2.p], 115, 0⟩, none, some ⟨.mx [sL r3.1.pages], 58, 0⟩, some ⟨.mx [iA r5.1.page, iA r5.1.slot], 62, 0⟩] rfl ?_
  refine PR.op rfl (Rd.asnT rfl) ?_
  refine PR.nil ?_
  refine PT.done ?_
  refine PL.nil ?_
  refine thA_n ?_
  refine PC.ret ?_
  obtain rfl := some_in hh0
  exact FinA.mk (r := .tup [.agg [sL ((r3.1, r5.1, r7.1).1.pages)], .agg [iA ((r3.1, r5.1, r7.1).2.1.page), iA ((r3.1, r5.1, r7.1).2.1.slot)], sA ((r3.1, r5.1, r7.1).2.2)]) (bl := []) [] (.inl rfl) rfl (rl := [.cell 2 58, .cell 3 62, .tmp 4]) (.cellN rfl rfl rfl rfl (.cellN rfl rfl rfl rfl (.tmp .nil))) rfl rfl rfl (.tupL ⟨.aggL ⟨.t _, trivial⟩, .aggL ⟨.t _, .t _, trivial⟩, .t _, trivial⟩) trivial ⟨rfl, rfl⟩

end V
end Go.Proofs.Ytoljdhdfijnjiaa
