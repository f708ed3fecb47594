/- Pages that are drawn. No condition. -/
import Derived.Test.YtoljdhdfijnjiaaPgAa
namespace Go.Proofs.Ytoljdhdfijnjiaa
namespace V
open Enc (enc)
set_option linter.unusedVariables false
set_option linter.unusedSimpArgs false
set_option maxHeartbeats 4000000
set_option maxRecDepth 100000
open Go.RowKit
attribute [local irreducible] thA inA FinA eL

def m_S_someData (N : Nat) (p_r : S_reader) : Option (ByteArray × S_reader) :=
  (m_S_reader_of N p_r ([ByteArray.empty, (ByteArray.mk #[97]), (ByteArray.mk #[114, 101, 99, 111, 114, 100]), (ByteArray.mk #[97, 32, 108, 111, 110, 103, 101, 114, 32, 114, 101, 99, 111, 114, 100]), (ByteArray.mk #[115, 111, 109, 101, 32, 114, 101, 99, 111, 114, 100, 32, 116, 104, 97, 116, 32, 105, 115, 32, 108, 111, 110, 103, 101, 114, 32, 116, 104, 97, 110, 32, 109, 111, 115, 116, 32, 111, 102, 32, 116, 104, 101, 32, 111, 116, 104, 101, 114, 115]), (ByteArray.mk #[48, 49, 50, 51, 52, 53, 54, 55, 56, 57, 48, 49, 50, 51, 52, 53, 54, 55, 56, 57, 48, 49, 50, 51, 52, 53, 54, 55, 56, 57, 48, 49, 50, 51, 52, 53, 54, 55, 56, 57]), (ByteArray.mk #[120, 121])])).bind fun r1 =>
  some (r1.1, r1.2)
theorem w_S_someData (N : Nat) (p_r : S_reader) (r : ByteArray × S_reader) (hh0 : m_S_someData N p_r = some r) : FnX Try.prog 66 [⟨.mx [sL p_r.b, iA p_r.p], 115, 0⟩] [.op 0 0] (RE (sA r.1) [⟨.mx [sL r.2.b, iA r.2.p], 115, 0⟩]) := by
  unfold m_S_someData at hh0
  refine FnX.mk Try.func66 rfl rfl ?_
  intro s hs
  refine PC.seq ?_
  refine PC.region ?_
  refine PL.op rfl (Rd.asnT rfl) ?_
  refine PL.nil ?_
  refine thA_n ?_
  refine PC.seq ?_
  obtain ⟨r1, h_2, hh0⟩ := bind_some hh0
  refine PC.region ?_
  refine PL.op rfl (Rd.moveP rfl) ?_
  refine PL.er rfl (Er.strs [ByteArray.empty, (ByteArray.mk #[97]), (ByteArray.mk #[114, 101, 99, 111, 114, 100]), (ByteArray.mk #[97, 32, 108, 111, 110, 103, 101, 114, 32, 114, 101, 99, 111, 114, 100]), (ByteArray.mk #[115, 111, 109, 101, 32, 114, 101, 99, 111, 114, 100, 32, 116, 104, 97, 116, 32, 105, 115, 32, 108, 111, 110, 103, 101, 114, 32, 116, 104, 97, 110, 32, 109, 111, 115, 116, 32, 111, 102, 32, 116, 104, 101, 32, 111, 116, 104, 101, 114, 115]), (ByteArray.mk #[48, 49, 50, 51, 52, 53, 54, 55, 56, 57, 48, 49, 50, 51, 52, 53, 54, 55, 56, 57, 48, 49, 50, 51, 52, 53, 54, 55, 56, 57, 48, 49, 50, 51, 52, 53, 54, 55, 56, 57]), (ByteArray.mk #[120, 121])] rfl rfl (by decide) rfl) ?_
  refine PL.callM false [0] (w_S_reader_of N p_r ([ByteArray.empty, (ByteArray.mk #[97]), (ByteArray.mk #[114, 101, 99, 111, 114, 100]), (ByteArray.mk #[97, 32, 108, 111, 110, 103, 101, 114, 32, 114, 101, 99, 111, 114, 100]), (ByteArray.mk #[115, 111, 109, 101, 32, 114, 101, 99, 111, 114, 100, 32, 116, 104, 97, 116, 32, 105, 115, 32, 108, 111, 110, 103, 101, 114, 32, 116, 104, 97, 110, 32, 109, 111, 115, 116, 32, 111, 102, 32, 116, 104, 101, 32, 111, 116, 104, 101, 114, 115]), (ByteArray.mk #[48, 49, 50, 51, 52, 53, 54, 55, 56, 57, 48, 49, 50, 51, 52, 53, 54, 55, 56, 57, 48, 49, 50, 51, 52, 53, 54, 55, 56, 57, 48, 49, 50, 51, 52, 53, 54, 55, 56, 57]), (ByteArray.mk #[120, 121])]) r1 h_2) rfl Try.call96 rfl ⟨.op rfl, .t _, trivial⟩ rfl ⟨⟨_, rfl, rfl, rfl, .mx ⟨.t _, .t _, trivial⟩⟩, trivial⟩ (fun h => by cases h) ?_
  refine PL.nm (sA r1.1) [some ⟨.mx [sL r1.2.b, iA r1.2.p], 115, 0⟩] rfl rfl ?_
  refine PL.op rfl (Rd.asnT rfl) ?_
  refine PL.nil ?_
  refine thA_n ?_
  refine PC.ret ?_
  obtain rfl := some_in hh0
  exact FinA.mk (r := sA ((r1.1, r1.2).1)) (bl := [⟨.mx [sL ((r1.1, r1.2).2.b), iA ((r1.1, r1.2).2.p)], 115, 0⟩]) [some 0] (.inl rfl) rfl (rl := [.tmp 2]) (.tmp .nil) rfl rfl rfl (.t _) ⟨⟨_, rfl, rfl, rfl, .mx ⟨.t _, .t _, trivial⟩⟩, trivial⟩ ⟨rfl, rfl⟩

def m_S_randomPage_k2 (N : Nat) (v42 : (List UInt8)) (v43 : Int) (v44 : (List I_Slot)) : Option (I_Page × S_reader) :=
  some ((I_Page.mk v44), (S_reader.mk v42 v43))
def m_S_randomPage_b2 (N : Nat) (next27 : Int) (v28 : (List UInt8)) (v29 : Int) (v30 : (List I_Slot)) : Option ((Int × (List UInt8) × Int × (List I_Slot)) ⊕ ((List UInt8) × Int × (List I_Slot))) :=
  cond (decide ((0 : Int) < next27))
    (cond (decide ((0 : Int) < (v30.length : Int)))
      ((m_S_reader_pick N (S_reader.mk v28 v29) (v30.length : Int)).bind fun r52 =>
      (m_S_ClearSlot N (I_Page.mk v30) r52.1).bind fun r54 =>
      cond r54.2
        ((chk (next27 - (1 : Int))).bind fun n57 =>
        some (.inl (n57, r52.2.b, r52.2.p, r54.1.slots)))
        ((chk (next27 - (1 : Int))).bind fun n59 =>
        some (.inl (n59, r52.2.b, r52.2.p, v30))))
      (some (.inr (v28, v29, v30))))
    (some (.inr (v28, v29, v30)))
def m_S_randomPage_k1 (N : Nat) (v17 : (List UInt8)) (v18 : Int) (v19 : (List I_Slot)) : Option (I_Page × S_reader) :=
  (m_S_reader_pick N (S_reader.mk v17 v18) (3 : Int)).bind fun r25 =>
  (loopM (β := (List UInt8) × Int × (List I_Slot)) (fun s : Int × (List UInt8) × Int × (List I_Slot) => m_S_randomPage_b2 N s.1 s.2.1 s.2.2.1 s.2.2.2) N (r25.1, r25.2.b, r25.2.p, v19)).bind fun e =>
  m_S_randomPage_k2 N e.1 e.2.1 e.2.2
def m_S_randomPage_b1 (N : Nat) (next3 : Int) (v4 : (List UInt8)) (v5 : Int) (v6 : (List I_Slot)) : Option ((Int × (List UInt8) × Int × (List I_Slot)) ⊕ ((List UInt8) × Int × (List I_Slot))) :=
  cond (decide ((0 : Int) < next3))
    ((m_S_someData N (S_reader.mk v4 v5)).bind fun r62 =>
    (m_S_PutSlot N (I_Page.mk v6) r62.1).bind fun r64 =>
    cond r64.2.2
      ((chk (next3 - (1 : Int))).bind fun n67 =>
      some (.inl (n67, r62.2.b, r62.2.p, r64.1.slots)))
      ((chk (next3 - (1 : Int))).bind fun n69 =>
      some (.inl (n69, r62.2.b, r62.2.p, v6))))
    (some (.inr (v4, v5, v6)))
def m_S_randomPage (N : Nat) (p_r : S_reader) : Option (I_Page × S_reader) :=
  (m_S_reader_one N p_r [(2 : Int), (3 : Int), (4 : Int), (1 : Int), (0 : Int), (8 : Int), (6 : Int)]).bind fun r1 =>
  (loopM (β := (List UInt8) × Int × (List I_Slot)) (fun s : Int × (List UInt8) × Int × (List I_Slot) => m_S_randomPage_b1 N s.1 s.2.1 s.2.2.1 s.2.2.2) N (r1.1, r1.2.b, r1.2.p, ([] : List I_Slot))).bind fun e =>
  m_S_randomPage_k1 N e.1 e.2.1 e.2.2
theorem w_S_randomPage (N : Nat) (p_r : S_reader) (r : I_Page × S_reader) (hh0 : m_S_randomPage N p_r = some r) : FnX Try.prog 93 [⟨.mx [sL p_r.b, iA p_r.p], 115, 0⟩] [.op 0 0] (RE (.agg [.os 1 0 r.1.slots.length]) [⟨.mx [sL r.2.b, iA r.2.p], 115, 0⟩, ⟨.tr (eL r.1.slots), 35, 2⟩]) := by
  unfold m_S_randomPage at hh0
  refine FnX.mk Try.func93 rfl rfl ?_
  intro s hs
  refine PC.seq ?_
  refine PC.region ?_
  refine PL.ef rfl (Ef.alloc rfl rfl) ?_
  refine PL.nm (.op 1 0) [some ⟨.mx [sL p_r.b, iA p_r.p], 115, 0⟩, some ⟨.mx [.t (.v (.slice none 0 0))], 25, 0⟩] rfl rfl ?_
  refine PL.nil ?_
  refine thA_n ?_
  refine PC.seq ?_
  refine PC.region ?_
  refine PL.op rfl (Rd.build rfl rfl rfl rfl) ?_
  refine PL.ef rfl (Ef.alloc rfl rfl) ?_
  refine PL.nm (.op 2 0) [some ⟨.mx [sL p_r.b, iA p_r.p], 115, 0⟩, some ⟨.mx [.t (.v (.slice none 0 0))], 25, 0⟩, some ⟨.mx [.t (.v (.slice none 0 0))], 25, 0⟩] rfl rfl ?_
  refine PL.store rfl rfl rfl rfl rfl rfl rfl ?_
  refine PL.nil ?_
  refine thA_n ?_
  refine PC.seq ?_
  refine PC.seq ?_
  obtain ⟨r1, h_2, hh0⟩ := bind_some hh0
  refine PC.region ?_
  refine PL.op rfl (Rd.moveP rfl) ?_
  refine PL.er rfl (Er.ints [(2 : Int), (3 : Int), (4 : Int), (1 : Int), (0 : Int), (8 : Int), (6 : Int)] rfl rfl (by decide) rfl) ?_
  refine PL.callM false [0] (w_S_reader_one N p_r [(2 : Int), (3 : Int), (4 : Int), (1 : Int), (0 : Int), (8 : Int), (6 : Int)] r1 h_2) rfl Try.call97 rfl ⟨.op rfl, .t _, trivial⟩ rfl ⟨⟨_, rfl, rfl, rfl, .mx ⟨.t _, .t _, trivial⟩⟩, trivial⟩ (fun h => by cases h) ?_
  refine PL.nm (iA r1.1) [some ⟨.mx [sL r1.2.b, iA r1.2.p], 115, 0⟩, some ⟨.mx [.t (.v (.slice none 0 0))], 25, 0⟩, some ⟨.mx [.t (.v (.slice none 0 0))], 25, 0⟩] rfl rfl ?_
  refine PL.op rfl (Rd.asnT rfl) ?_
  refine PL.nil ?_
  refine thA_n ?_
  obtain ⟨o20, h_21, hh0⟩ := bind_some hh0
  refine PC.cutE hs (fun x : (List UInt8) × Int × (List I_Slot) => [(0, .op 0 0), (2, .op 1 0), (3, .op 2 0)]) (fun x => [⟨.mx [sL x.1, iA x.2.1], 115, 0⟩, ⟨.mx [.t (.v (.slice none 0 0))], 25, 0⟩, ⟨.mx [.os 3 0 x.2.2.length], 25, 0⟩, ⟨.tr (eL x.2.2), 35, 2⟩]) (fun x => m_S_randomPage_k1 N x.1 x.2.1 x.2.2 = some r) ?_ ?_
  · refine PC.block ?_
    refine PC.loop hs (fun x : Nat × (Int × (List UInt8) × Int × (List I_Slot)) => [(0, .op 0 0), (2, .op 1 0), (3, .op 2 0), (4, iA x.2.1)]) (fun x => [⟨.mx [sL x.2.2.1, iA x.2.2.2.1], 115, 0⟩, ⟨.mx [.t (.v (.slice none 0 0))], 25, 0⟩, ⟨.mx [.os 3 0 x.2.2.2.2.length], 25, 0⟩, ⟨.tr (eL x.2.2.2.2), 35, 2⟩]) (fun x => loopM (β := (List UInt8) × Int × (List I_Slot)) (fun s : Int × (List UInt8) × Int × (List I_Slot) => m_S_randomPage_b1 N s.1 s.2.1 s.2.2.1 s.2.2.2) x.1 x.2 = some o20) (fun x => x.1) (N, (r1.1, r1.2.b, r1.2.p, ([] : List I_Slot))) [some 0, some 1, some 2, none] ⟨rfl, rfl, ⟨⟨_, rfl, rfl, rfl, .mx ⟨.t _, .t _, trivial⟩⟩, ⟨_, rfl, rfl, rfl, .mx ⟨.t _, trivial⟩⟩, ⟨_, rfl, rfl, rfl, .mx ⟨.osn rfl, trivial⟩⟩, ow_nil _, trivial⟩, ⟨.op rfl, .op rfl, .op rfl, .t _, trivial⟩⟩ h_21 ?_
    rintro ⟨f22_, next3, v4, v5, v6⟩ h_24
    obtain ⟨f22, y23, rfl, hh1, kk1⟩ := loopM_some h_24
    replace hh1 : m_S_randomPage_b1 N next3 v4 v5 v6 = some y23 := hh1
    unfold m_S_randomPage_b1 at hh1
    refine PC.seq ?_
    refine PC.seq ?_
    refine PC.region ?_
    refine PL.op rfl (Rd.moveT rfl) ?_
    refine PL.op rfl (Rd.gtr rfl rfl) ?_
    refine PL.nil ?_
    refine thA_n ?_
    rcases cond_some hh1 with ⟨h_61, hh1⟩ | ⟨h_61, hh1⟩
    rotate_left
    · refine PC.cond_false rfl h_61 ?_
      refine PC.exit ?_
      refine thA_e ?_
      refine thA_e ?_
      refine inA_eq rfl ?_
      refine thA_n ?_
      obtain rfl := some_in hh1
      obtain rfl : ((v4, v5, v6) : (List UInt8) × Int × (List I_Slot)) = o20 := kk1
      exact ⟨(v4, v5, v6), hh0, [some 0, some 1, some 2, some 3], ⟨rfl, rfl, ⟨⟨_, rfl, rfl, rfl, .mx ⟨.t _, .t _, trivial⟩⟩, ⟨_, rfl, rfl, rfl, .mx ⟨.t _, trivial⟩⟩, ⟨_, rfl, rfl, rfl, .mx ⟨.os rfl, trivial⟩⟩, ⟨_, rfl, rfl, rfl, .tr _⟩, trivial⟩, ⟨.op rfl, .op rfl, .op rfl, trivial⟩⟩⟩
    refine PC.cond_true rfl h_61 ?_
    refine PC.skip ?_
    refine thA_n ?_
    refine PC.seq ?_
    refine PC.block ?_
    obtain ⟨r62, h_63, hh1⟩ := bind_some hh1
    obtain ⟨r64, h_65, hh1⟩ := bind_some hh1
    refine PC.cut hs (fun _ : Unit => [(0, .op 0 0), (2, .op 1 0), (3, .op 2 0), (4, iA next3), (5, .op 4 0), (7, bA r64.2.2)]) (fun _ => [⟨.mx [sL r62.2.b, iA r62.2.p], 115, 0⟩, ⟨.mx [.t (.v (.slice none 0 0))], 25, 0⟩, ⟨.mx [.os 3 0 v6.length], 25, 0⟩, ⟨.tr (eL v6), 35, 2⟩, ⟨.mx [.os 5 0 r64.1.slots.length], 25, 0⟩, ⟨.tr (eL r64.1.slots), 35, 2⟩]) (fun _ => True) ?_ ?_
    · refine PC.any (id := 5) 12 (.seg [0, 1] (.fork (.seg [2] (.fork (.seg [3, 4, 5, 6, 7, 8, 9, 10, 11] .done) (.seg [8, 3, 4, 5, 6, 7, 9, 10, 11] .done))) (.seg [8, 2, 3, 4, 5, 6, 7, 9, 10, 11] .done))) [0] rfl (by kernel_rfl) rfl ?_
      refine PT.seg ?_
      refine PR.op rfl (Rd.loadBox rfl rfl rfl) ?_
      refine PR.op rfl (Rd.moveP rfl) ?_
      refine PR.nil ?_
      refine PT.fork ?_ ?_
      rotate_left
      · refine PT.seg ?_
        refine PR.efX rfl rfl (Ef.alloc rfl rfl) ?_
        refine PR.nm (.op 4 0) [some ⟨.mx [sL v4, iA v5], 115, 0⟩, some ⟨.mx [.t (.v (.slice none 0 0))], 25, 0⟩, some ⟨.mx [.os 3 0 v6.length], 25, 0⟩, some ⟨.tr (eL v6), 35, 2⟩, some ⟨.mx [.t (.v (.slice none 0 0))], 25, 0⟩] rfl rfl ?_
        refine PR.callM false [0] (w_S_someData N (S_reader.mk v4 v5) r62 h_63) rfl Try.call66 rfl ⟨.op rfl, trivial⟩ rfl ⟨⟨_, rfl, rfl, rfl, .mx ⟨.t _, .t _, trivial⟩⟩, trivial⟩ (fun h => by cases h) rfl ?_
        refine PR.nm (sA r62.1) [some ⟨.mx [sL r62.2.b, iA r62.2.p], 115, 0⟩, some ⟨.mx [.t (.v (.slice none 0 0))], 25, 0⟩, some ⟨.mx [.os 3 0 v6.length], 25, 0⟩, some ⟨.tr (eL v6), 35, 2⟩, some ⟨.mx [.t (.v (.slice none 0 0))], 25, 0⟩] rfl rfl ?_
        refine PR.callM true [] (w_S_PutSlot N (I_Page.mk v6) r62.1 r64 h_65) rfl Try.call24 rfl ⟨.aggL ⟨.own rfl (by first | decide | exact List.not_mem_nil) rfl rfl, trivial⟩, .t _, trivial⟩ rfl trivial (fun _ => ⟨⟨⟨trivial, trivial⟩, trivial, trivial, trivial⟩, (flat_cons flat_ow flat_nil)⟩) rfl ?_
        refine PR.nm (.tup [.agg [.os 5 0 r64.1.slots.length], iA r64.2.1, bA r64.2.2]) [some ⟨.mx [sL r62.2.b, iA r62.2.p], 115, 0⟩, some ⟨.mx [.t (.v (.slice none 0 0))], 25, 0⟩, some ⟨.mx [.os 3 0 v6.length], 25, 0⟩, some ⟨.tr (eL v6), 35, 2⟩, some ⟨.mx [.t (.v (.slice none 0 0))], 25, 0⟩, some ⟨.tr (eL r64.1.slots), 35, 2⟩] rfl rfl ?_
        refine PR.op rfl (Rd.moveU rfl) ?_
        refine PR.op rfl (Rd.extract rfl rfl) ?_
        refine PR.op rfl (Rd.extract rfl rfl) ?_
        refine PR.op rfl (Rd.extract rfl rfl) ?_
        refine PR.store rfl rfl rfl rfl rfl rfl rfl rfl ?_
        refine PR.nO [some ⟨.mx [sL r62.2.b, iA r62.2.p], 115, 0⟩, some ⟨.mx [.t (.v (.slice none 0 0))], 25, 0⟩, some ⟨.mx [.os 3 0 v6.length], 25, 0⟩, some ⟨.tr (eL v6), 35, 2⟩, some ⟨.mx [.os 5 0 r64.1.slots.length], 25, 0⟩, some ⟨.tr (eL r64.1.slots), 35, 2⟩] rfl ?_
        refine PR.op rfl (Rd.asnT rfl) ?_
        refine PR.op rfl (Rd.asnT rfl) ?_
        refine PR.nil ?_
        refine PT.done ?_
        refine PL.nil ?_
        refine thA_n ?_
        exact ⟨(), trivial, [some 0, some 1, some 2, some 3, some 4, some 5], ⟨rfl, rfl, ⟨⟨_, rfl, rfl, rfl, .mx ⟨.t _, .t _, trivial⟩⟩, ⟨_, rfl, rfl, rfl, .mx ⟨.t _, trivial⟩⟩, ⟨_, rfl, rfl, rfl, .mx ⟨.os rfl, trivial⟩⟩, ⟨_, rfl, rfl, rfl, .tr _⟩, ⟨_, rfl, rfl, rfl, .mx ⟨.os rfl, trivial⟩⟩, ⟨_, rfl, rfl, rfl, .tr _⟩, trivial⟩, ⟨.op rfl, .op rfl, .op rfl, .t _, .op rfl, .t _, trivial⟩⟩⟩
      refine PT.seg ?_
      refine PR.callM false [0] (w_S_someData N (S_reader.mk v4 v5) r62 h_63) rfl Try.call66 rfl ⟨.op rfl, trivial⟩ rfl ⟨⟨_, rfl, rfl, rfl, .mx ⟨.t _, .t _, trivial⟩⟩, trivial⟩ (fun h => by cases h) rfl ?_
      refine PR.nm (sA r62.1) [some ⟨.mx [sL r62.2.b, iA r62.2.p], 115, 0⟩, some ⟨.mx [.t (.v (.slice none 0 0))], 25, 0⟩, some ⟨.mx [.os 3 0 v6.length], 25, 0⟩, some ⟨.tr (eL v6), 35, 2⟩] rfl rfl ?_
      refine PR.nil ?_
      refine PT.fork ?_ ?_
      · refine PT.seg ?_
        refine PR.callM true [] (w_S_PutSlot N (I_Page.mk v6) r62.1 r64 h_65) rfl Try.call24 rfl ⟨.aggL ⟨.own rfl (by first | decide | exact List.not_mem_nil) rfl rfl, trivial⟩, .t _, trivial⟩ rfl trivial (fun _ => ⟨⟨⟨trivial, trivial⟩, trivial, trivial, trivial⟩, (flat_cons flat_ow flat_nil)⟩) rfl ?_
        refine PR.nm (.tup [.agg [.os 4 0 r64.1.slots.length], iA r64.2.1, bA r64.2.2]) [some ⟨.mx [sL r62.2.b, iA r62.2.p], 115, 0⟩, some ⟨.mx [.t (.v (.slice none 0 0))], 25, 0⟩, some ⟨.mx [.os 3 0 v6.length], 25, 0⟩, some ⟨.tr (eL v6), 35, 2⟩, some ⟨.tr (eL r64.1.slots), 35, 2⟩] rfl rfl ?_
        refine PR.op rfl (Rd.moveU rfl) ?_
        refine PR.op rfl (Rd.extract rfl rfl) ?_
        refine PR.op rfl (Rd.extract rfl rfl) ?_
        refine PR.op rfl (Rd.extract rfl rfl) ?_
        refine PR.efX rfl rfl (Ef.alloc rfl rfl) ?_
        refine PR.nm (.op 5 0) [some ⟨.mx [sL r62.2.b, iA r62.2.p], 115, 0⟩, some ⟨.mx [.t (.v (.slice none 0 0))], 25, 0⟩, some ⟨.mx [.os 3 0 v6.length], 25, 0⟩, some ⟨.tr (eL v6), 35, 2⟩, some ⟨.tr (eL r64.1.slots), 35, 2⟩, some ⟨.mx [.t (.v (.slice none 0 0))], 25, 0⟩] rfl rfl ?_
        refine PR.store rfl rfl rfl rfl rfl rfl rfl rfl ?_
        refine PR.nO [some ⟨.mx [sL r62.2.b, iA r62.2.p], 115, 0⟩, some ⟨.mx [.t (.v (.slice none 0 0))], 25, 0⟩, some ⟨.mx [.os 3 0 v6.length], 25, 0⟩, some ⟨.tr (eL v6), 35, 2⟩, some ⟨.tr (eL r64.1.slots), 35, 2⟩, some ⟨.mx [.os 4 0 r64.1.slots.length], 25, 0⟩] rfl ?_
        refine PR.op rfl (Rd.asnT rfl) ?_
        refine PR.op rfl (Rd.asnT rfl) ?_
        refine PR.nil ?_
        refine PT.done ?_
        refine PL.nil ?_
        refine thA_n ?_
        exact ⟨(), trivial, [some 0, some 1, some 2, some 3, some 5, some 4], ⟨rfl, rfl, ⟨⟨_, rfl, rfl, rfl, .mx ⟨.t _, .t _, trivial⟩⟩, ⟨_, rfl, rfl, rfl, .mx ⟨.t _, trivial⟩⟩, ⟨_, rfl, rfl, rfl, .mx ⟨.os rfl, trivial⟩⟩, ⟨_, rfl, rfl, rfl, .tr _⟩, ⟨_, rfl, rfl, rfl, .mx ⟨.os rfl, trivial⟩⟩, ⟨_, rfl, rfl, rfl, .tr _⟩, trivial⟩, ⟨.op rfl, .op rfl, .op rfl, .t _, .op rfl, .t _, trivial⟩⟩⟩
      refine PT.seg ?_
      refine PR.efX rfl rfl (Ef.alloc rfl rfl) ?_
      refine PR.nm (.op 4 0) [some ⟨.mx [sL r62.2.b, iA r62.2.p], 115, 0⟩, some ⟨.mx [.t (.v (.slice none 0 0))], 25, 0⟩, some ⟨.mx [.os 3 0 v6.length], 25, 0⟩, some ⟨.tr (eL v6), 35, 2⟩, some ⟨.mx [.t (.v (.slice none 0 0))], 25, 0⟩] rfl rfl ?_
      refine PR.callM true [] (w_S_PutSlot N (I_Page.mk v6) r62.1 r64 h_65) rfl Try.call24 rfl ⟨.aggL ⟨.own rfl (by first | decide | exact List.not_mem_nil) rfl rfl, trivial⟩, .t _, trivial⟩ rfl trivial (fun _ => ⟨⟨⟨trivial, trivial⟩, trivial, trivial, trivial⟩, (flat_cons flat_ow flat_nil)⟩) rfl ?_
      refine PR.nm (.tup [.agg [.os 5 0 r64.1.slots.length], iA r64.2.1, bA r64.2.2]) [some ⟨.mx [sL r62.2.b, iA r62.2.p], 115, 0⟩, some ⟨.mx [.t (.v (.slice none 0 0))], 25, 0⟩, some ⟨.mx [.os 3 0 v6.length], 25, 0⟩, some ⟨.tr (eL v6), 35, 2⟩, some ⟨.mx [.t (.v (.slice none 0 0))], 25, 0⟩, some ⟨.tr (eL r64.1.slots), 35, 2⟩] rfl rfl ?_
      refine PR.op rfl (Rd.moveU rfl) ?_
      refine PR.op rfl (Rd.extract rfl rfl) ?_
      refine PR.op rfl (Rd.extract rfl rfl) ?_
      refine PR.op rfl (Rd.extract rfl rfl) ?_
      refine PR.store rfl rfl rfl rfl rfl rfl rfl rfl ?_
      refine PR.nO [some ⟨.mx [sL r62.2.b, iA r62.2.p], 115, 0⟩, some ⟨.mx [.t (.v (.slice none 0 0))], 25, 0⟩, some ⟨.mx [.os 3 0 v6.length], 25, 0⟩, some ⟨.tr (eL v6), 35, 2⟩, some ⟨.mx [.os 5 0 r64.1.slots.length], 25, 0⟩, some ⟨.tr (eL r64.1.slots), 35, 2⟩] rfl ?_
      refine PR.op rfl (Rd.asnT rfl) ?_
      refine PR.op rfl (Rd.asnT rfl) ?_
      refine PR.nil ?_
      refine PT.done ?_
      refine PL.nil ?_
      refine thA_n ?_
      exact ⟨(), trivial, [some 0, some 1, some 2, some 3, some 4, some 5], ⟨rfl, rfl, ⟨⟨_, rfl, rfl, rfl, .mx ⟨.t _, .t _, trivial⟩⟩, ⟨_, rfl, rfl, rfl, .mx ⟨.t _, trivial⟩⟩, ⟨_, rfl, rfl, rfl, .mx ⟨.os rfl, trivial⟩⟩, ⟨_, rfl, rfl, rfl, .tr _⟩, ⟨_, rfl, rfl, rfl, .mx ⟨.os rfl, trivial⟩⟩, ⟨_, rfl, rfl, rfl, .tr _⟩, trivial⟩, ⟨.op rfl, .op rfl, .op rfl, .t _, .op rfl, .t _, trivial⟩⟩⟩
    rintro ⟨⟩ -
    refine PC.seq ?_
    refine PC.region ?_
    refine PL.op rfl (Rd.moveT rfl) ?_
    refine PL.nil ?_
    refine thA_n ?_
    rcases cond_some hh1 with ⟨h_66, hh1⟩ | ⟨h_66, hh1⟩
    rotate_left
    · refine PC.cond_false rfl h_66 ?_
      refine PC.skip ?_
      refine inA_n ?_
      refine thA_n ?_
      obtain ⟨n69, h_70, hh1⟩ := bind_some hh1
      refine PC.region ?_
      refine PL.op rfl (Rd.moveT rfl) ?_
      refine PL.op rfl (Rd.subM rfl rfl h_70) ?_
      refine PL.op rfl (Rd.asnT rfl) ?_
      refine PL.nil ?_
      obtain rfl := some_in hh1
      refine thA_n ?_
      exact ⟨(f22, (n69, r62.2.b, r62.2.p, v6)), Nat.lt_succ_self _, kk1, [some 0, some 1, some 2, some 3], ⟨rfl, rfl, ⟨⟨_, rfl, rfl, rfl, .mx ⟨.t _, .t _, trivial⟩⟩, ⟨_, rfl, rfl, rfl, .mx ⟨.t _, trivial⟩⟩, ⟨_, rfl, rfl, rfl, .mx ⟨.os rfl, trivial⟩⟩, ⟨_, rfl, rfl, rfl, .tr _⟩, trivial⟩, ⟨.op rfl, .op rfl, .op rfl, .t _, trivial⟩⟩⟩
    refine PC.cond_true rfl h_66 ?_
    refine PC.region ?_
    refine PL.op rfl (Rd.loadBox rfl rfl rfl) ?_
    refine PL.store rfl rfl rfl rfl rfl rfl rfl ?_
    refine PL.nO [some ⟨.mx [sL r62.2.b, iA r62.2.p], 115, 0⟩, some ⟨.mx [.t (.v (.slice none 0 0))], 25, 0⟩, some ⟨.mx [.os 5 0 r64.1.slots.length], 25, 0⟩, some ⟨.tr (eL v6), 35, 2⟩, some ⟨.mx [.os 5 0 r64.1.slots.length], 25, 0⟩, some ⟨.tr (eL r64.1.slots), 35, 2⟩] rfl ?_
    refine PL.nil ?_
    refine inA_n ?_
    refine thA_n ?_
    obtain ⟨n67, h_68, hh1⟩ := bind_some hh1
    refine PC.region ?_
    refine PL.op rfl (Rd.moveT rfl) ?_
    refine PL.op rfl (Rd.subM rfl rfl h_68) ?_
    refine PL.op rfl (Rd.asnT rfl) ?_
    refine PL.nil ?_
    obtain rfl := some_in hh1
    refine thA_n ?_
    exact ⟨(f22, (n67, r62.2.b, r62.2.p, r64.1.slots)), Nat.lt_succ_self _, kk1, [some 0, some 1, some 2, some 5], ⟨rfl, rfl, ⟨⟨_, rfl, rfl, rfl, .mx ⟨.t _, .t _, trivial⟩⟩, ⟨_, rfl, rfl, rfl, .mx ⟨.t _, trivial⟩⟩, ⟨_, rfl, rfl, rfl, .mx ⟨.os rfl, trivial⟩⟩, ⟨_, rfl, rfl, rfl, .tr _⟩, trivial⟩, ⟨.op rfl, .op rfl, .op rfl, .t _, trivial⟩⟩⟩
  clear hh0
  rintro ⟨v17, v18, v19⟩ hh0
  replace hh0 : m_S_randomPage_k1 N v17 v18 v19 = some r := hh0
  unfold m_S_randomPage_k1 at hh0
  refine thA_n ?_
  refine PC.seq ?_
  refine PC.seq ?_
  obtain ⟨r25, h_26, hh0⟩ := bind_some hh0
  refine PC.region ?_
  refine PL.op rfl (Rd.moveP rfl) ?_
  refine PL.callM false [0] (w_S_reader_pick N (S_reader.mk v17 v18) (3 : Int) r25 h_26) rfl Try.call94 rfl ⟨.op rfl, .t _, trivial⟩ rfl ⟨⟨_, rfl, rfl, rfl, .mx ⟨.t _, .t _, trivial⟩⟩, trivial⟩ (fun h => by cases h) ?_
  refine PL.nm (iA r25.1) [some ⟨.mx [sL r25.2.b, iA r25.2.p], 115, 0⟩, some ⟨.mx [.t (.v (.slice none 0 0))], 25, 0⟩, some ⟨.mx [.os 3 0 v19.length], 25, 0⟩, some ⟨.tr (eL v19), 35, 2⟩] rfl rfl ?_
  refine PL.op rfl (Rd.asnT rfl) ?_
  refine PL.nil ?_
  refine thA_n ?_
  obtain ⟨o45, h_46, hh0⟩ := bind_some hh0
  refine PC.cutE hs (fun x : (List UInt8) × Int × (List I_Slot) => [(2, .op 1 0), (3, .op 2 0)]) (fun x => [⟨.mx [sL x.1, iA x.2.1], 115, 0⟩, ⟨.mx [.t (.v (.slice none 0 0))], 25, 0⟩, ⟨.mx [.os 3 0 x.2.2.length], 25, 0⟩, ⟨.tr (eL x.2.2), 35, 2⟩]) (fun x => m_S_randomPage_k2 N x.1 x.2.1 x.2.2 = some r) ?_ ?_
  · refine PC.block ?_
    refine PC.loop hs (fun x : Nat × (Int × (List UInt8) × Int × (List I_Slot)) => [(0, .op 0 0), (2, .op 1 0), (3, .op 2 0), (8, iA x.2.1)]) (fun x => [⟨.mx [sL x.2.2.1, iA x.2.2.2.1], 115, 0⟩, ⟨.mx [.t (.v (.slice none 0 0))], 25, 0⟩, ⟨.mx [.os 3 0 x.2.2.2.2.length], 25, 0⟩, ⟨.tr (eL x.2.2.2.2), 35, 2⟩]) (fun x => loopM (β := (List UInt8) × Int × (List I_Slot)) (fun s : Int × (List UInt8) × Int × (List I_Slot) => m_S_randomPage_b2 N s.1 s.2.1 s.2.2.1 s.2.2.2) x.1 x.2 = some o45) (fun x => x.1) (N, (r25.1, r25.2.b, r25.2.p, v19)) [some 0, some 1, some 2, some 3] ⟨rfl, rfl, ⟨⟨_, rfl, rfl, rfl, .mx ⟨.t _, .t _, trivial⟩⟩, ⟨_, rfl, rfl, rfl, .mx ⟨.t _, trivial⟩⟩, ⟨_, rfl, rfl, rfl, .mx ⟨.os rfl, trivial⟩⟩, ⟨_, rfl, rfl, rfl, .tr _⟩, trivial⟩, ⟨.op rfl, .op rfl, .op rfl, .t _, trivial⟩⟩ h_46 ?_
    rintro ⟨f47_, next27, v28, v29, v30⟩ h_49
    obtain ⟨f47, y48, rfl, hh1, kk1⟩ := loopM_some h_49
    replace hh1 : m_S_randomPage_b2 N next27 v28 v29 v30 = some y48 := hh1
    unfold m_S_randomPage_b2 at hh1
    refine PC.seq ?_
    refine PC.seq ?_
    rcases cond_some hh1 with ⟨h_50, hh1⟩ | ⟨h_50, hh1⟩
    rotate_left
    · refine PC.region ?_
      refine PL.op rfl (Rd.moveT rfl) ?_
      refine PL.op rfl (Rd.gtr rfl rfl) ?_
      refine PL.op rfl (Rd.moveT rfl) ?_
      refine PL.guard_off rfl rfl h_50 ?_
      refine PL.guard_off rfl rfl h_50 ?_
      refine PL.guard_off rfl rfl h_50 ?_
      refine PL.guard_off rfl rfl h_50 ?_
      refine PL.op rfl (Rd.pick_f rfl h_50) ?_
      refine PL.nil ?_
      refine thA_n ?_
      refine PC.cond_false rfl rfl ?_
      refine PC.exit ?_
      refine thA_e ?_
      refine thA_e ?_
      refine inA_eq rfl ?_
      refine thA_n ?_
      obtain rfl := some_in hh1
      obtain rfl : ((v28, v29, v30) : (List UInt8) × Int × (List I_Slot)) = o45 := kk1
      exact ⟨(v28, v29, v30), hh0, [some 0, some 1, some 2, some 3], ⟨rfl, rfl, ⟨⟨_, rfl, rfl, rfl, .mx ⟨.t _, .t _, trivial⟩⟩, ⟨_, rfl, rfl, rfl, .mx ⟨.t _, trivial⟩⟩, ⟨_, rfl, rfl, rfl, .mx ⟨.os rfl, trivial⟩⟩, ⟨_, rfl, rfl, rfl, .tr _⟩, trivial⟩, ⟨.op rfl, .op rfl, trivial⟩⟩⟩
    refine PC.region ?_
    refine PL.op rfl (Rd.moveT rfl) ?_
    refine PL.op rfl (Rd.gtr rfl rfl) ?_
    refine PL.op rfl (Rd.moveT rfl) ?_
    refine PL.guard_on rfl h_50 ?_
    refine PL.op rfl (Rd.fieldO rfl rfl) ?_
    refine PL.guard_on rfl h_50 ?_
    refine PL.op rfl (Rd.loadO rfl rfl rfl) ?_
    refine PL.guard_on rfl h_50 ?_
    refine PL.op rfl (Rd.lenO rfl rfl) ?_
    refine PL.guard_on rfl h_50 ?_
    refine PL.op rfl (Rd.gtr rfl rfl) ?_
    refine PL.op rfl (Rd.pick_t rfl h_50) ?_
    refine PL.nil ?_
    refine thA_n ?_
    rcases cond_some hh1 with ⟨h_51, hh1⟩ | ⟨h_51, hh1⟩
    rotate_left
    · refine PC.cond_false rfl h_51 ?_
      refine PC.exit ?_
      refine thA_e ?_
      refine thA_e ?_
      refine inA_eq rfl ?_
      refine thA_n ?_
      obtain rfl := some_in hh1
      obtain rfl : ((v28, v29, v30) : (List UInt8) × Int × (List I_Slot)) = o45 := kk1
      exact ⟨(v28, v29, v30), hh0, [some 0, some 1, some 2, some 3], ⟨rfl, rfl, ⟨⟨_, rfl, rfl, rfl, .mx ⟨.t _, .t _, trivial⟩⟩, ⟨_, rfl, rfl, rfl, .mx ⟨.t _, trivial⟩⟩, ⟨_, rfl, rfl, rfl, .mx ⟨.os rfl, trivial⟩⟩, ⟨_, rfl, rfl, rfl, .tr _⟩, trivial⟩, ⟨.op rfl, .op rfl, trivial⟩⟩⟩
    refine PC.cond_true rfl h_51 ?_
    refine PC.skip ?_
    refine thA_n ?_
    refine PC.seq ?_
    refine PC.block ?_
    obtain ⟨r52, h_53, hh1⟩ := bind_some hh1
    obtain ⟨r54, h_55, hh1⟩ := bind_some hh1
    refine PC.cut hs (fun _ : Unit => [(0, .op 0 0), (2, .op 1 0), (3, .op 2 0), (8, iA next27), (9, .op 4 0), (10, bA r54.2), (34, .op 2 0), (35, .os 3 0 v30.length), (36, iA (v30.length : Int)), (37, bA (decide ((0 : Int) < (v30.length : Int))))]) (fun _ => [⟨.mx [sL r52.2.b, iA r52.2.p], 115, 0⟩, ⟨.mx [.t (.v (.slice none 0 0))], 25, 0⟩, ⟨.mx [.os 3 0 v30.length], 25, 0⟩, ⟨.tr (eL v30), 35, 2⟩, ⟨.mx [.os 5 0 r54.1.slots.length], 25, 0⟩, ⟨.tr (eL r54.1.slots), 35, 2⟩]) (fun _ => True) ?_ ?_
    · refine PC.any (id := 11) 13 (.seg [0, 1, 2, 3, 4] (.fork (.seg [5] (.fork (.seg [6, 7, 8, 9, 10, 11, 12] .done) (.seg [10, 6, 7, 8, 9, 11, 12] .done))) (.seg [10, 5, 6, 7, 8, 9, 11, 12] .done))) [0] rfl (by kernel_rfl) rfl ?_
      refine PT.seg ?_
      refine PR.op rfl (Rd.loadBox rfl rfl rfl) ?_
      refine PR.op rfl (Rd.moveP rfl) ?_
      refine PR.op rfl (Rd.fieldO rfl rfl) ?_
      refine PR.op rfl (Rd.loadO rfl rfl rfl) ?_
      refine PR.op rfl (Rd.lenO rfl rfl) ?_
      refine PR.nil ?_
      refine PT.fork ?_ ?_
      rotate_left
      · refine PT.seg ?_
        refine PR.efX rfl rfl (Ef.alloc rfl rfl) ?_
        refine PR.nm (.op 4 0) [some ⟨.mx [sL v28, iA v29], 115, 0⟩, some ⟨.mx [.t (.v (.slice none 0 0))], 25, 0⟩, some ⟨.mx [.os 3 0 v30.length], 25, 0⟩, some ⟨.tr (eL v30), 35, 2⟩, some ⟨.mx [.t (.v (.slice none 0 0))], 25, 0⟩] rfl rfl ?_
        refine PR.callM false [0] (w_S_reader_pick N (S_reader.mk v28 v29) (v30.length : Int) r52 h_53) rfl Try.call94 rfl ⟨.op rfl, .t _, trivial⟩ rfl ⟨⟨_, rfl, rfl, rfl, .mx ⟨.t _, .t _, trivial⟩⟩, trivial⟩ (fun h => by cases h) rfl ?_
        refine PR.nm (iA r52.1) [some ⟨.mx [sL r52.2.b, iA r52.2.p], 115, 0⟩, some ⟨.mx [.t (.v (.slice none 0 0))], 25, 0⟩, some ⟨.mx [.os 3 0 v30.length], 25, 0⟩, some ⟨.tr (eL v30), 35, 2⟩, some ⟨.mx [.t (.v (.slice none 0 0))], 25, 0⟩] rfl rfl ?_
        refine PR.callM true [] (w_S_ClearSlot N (I_Page.mk v30) r52.1 r54 h_55) rfl Try.call33 rfl ⟨.aggL ⟨.own rfl (by first | decide | exact List.not_mem_nil) rfl rfl, trivial⟩, .t _, trivial⟩ rfl trivial (fun _ => ⟨⟨⟨trivial, trivial⟩, trivial, trivial⟩, (flat_cons flat_ow flat_nil)⟩) rfl ?_
        refine PR.nm (.tup [.agg [.os 5 0 r54.1.slots.length], bA r54.2]) [some ⟨.mx [sL r52.2.b, iA r52.2.p], 115, 0⟩, some ⟨.mx [.t (.v (.slice none 0 0))], 25, 0⟩, some ⟨.mx [.os 3 0 v30.length], 25, 0⟩, some ⟨.tr (eL v30), 35, 2⟩, some ⟨.mx [.t (.v (.slice none 0 0))], 25, 0⟩, some ⟨.tr (eL r54.1.slots), 35, 2⟩] rfl rfl ?_
        refine PR.op rfl (Rd.moveU rfl) ?_
        refine PR.op rfl (Rd.extract rfl rfl) ?_
        refine PR.op rfl (Rd.extract rfl rfl) ?_
        refine PR.store rfl rfl rfl rfl rfl rfl rfl rfl ?_
        refine PR.nO [some ⟨.mx [sL r52.2.b, iA r52.2.p], 115, 0⟩, some ⟨.mx [.t (.v (.slice none 0 0))], 25, 0⟩, some ⟨.mx [.os 3 0 v30.length], 25, 0⟩, some ⟨.tr (eL v30), 35, 2⟩, some ⟨.mx [.os 5 0 r54.1.slots.length], 25, 0⟩, some ⟨.tr (eL r54.1.slots), 35, 2⟩] rfl ?_
        refine PR.op rfl (Rd.asnT rfl) ?_
        refine PR.nil ?_
        refine PT.done ?_
        refine PL.nil ?_
        refine thA_n ?_
        exact ⟨(), trivial, [some 0, some 1, some 2, some 3, some 4, some 5], ⟨rfl, rfl, ⟨⟨_, rfl, rfl, rfl, .mx ⟨.t _, .t _, trivial⟩⟩, ⟨_, rfl, rfl, rfl, .mx ⟨.t _, trivial⟩⟩, ⟨_, rfl, rfl, rfl, .mx ⟨.os rfl, trivial⟩⟩, ⟨_, rfl, rfl, rfl, .tr _⟩, ⟨_, rfl, rfl, rfl, .mx ⟨.os rfl, trivial⟩⟩, ⟨_, rfl, rfl, rfl, .tr _⟩, trivial⟩, ⟨.op rfl, .op rfl, .op rfl, .t _, .op rfl, .t _, .op rfl, .os rfl, .t _, .t _, trivial⟩⟩⟩
      refine PT.seg ?_
      refine PR.callM false [0] (w_S_reader_pick N (S_reader.mk v28 v29) (v30.length : Int) r52 h_53) rfl Try.call94 rfl ⟨.op rfl, .t _, trivial⟩ rfl ⟨⟨_, rfl, rfl, rfl, .mx ⟨.t _, .t _, trivial⟩⟩, trivial⟩ (fun h => by cases h) rfl ?_
      refine PR.nm (iA r52.1) [some ⟨.mx [sL r52.2.b, iA r52.2.p], 115, 0⟩, some ⟨.mx [.t (.v (.slice none 0 0))], 25, 0⟩, some ⟨.mx [.os 3 0 v30.length], 25, 0⟩, some ⟨.tr (eL v30), 35, 2⟩] rfl rfl ?_
      refine PR.nil ?_
      refine PT.fork ?_ ?_
      · refine PT.seg ?_
        refine PR.callM true [] (w_S_ClearSlot N (I_Page.mk v30) r52.1 r54 h_55) rfl Try.call33 rfl ⟨.aggL ⟨.own rfl (by first | decide | exact List.not_mem_nil) rfl rfl, trivial⟩, .t _, trivial⟩ rfl trivial (fun _ => ⟨⟨⟨trivial, trivial⟩, trivial, trivial⟩, (flat_cons flat_ow flat_nil)⟩) rfl ?_
        refine PR.nm (.tup [.agg [.os 4 0 r54.1.slots.length], bA r54.2]) [some ⟨.mx [sL r52.2.b, iA r52.2.p], 115, 0⟩, some ⟨.mx [.t (.v (.slice none 0 0))], 25, 0⟩, some ⟨.mx [.os 3 0 v30.length], 25, 0⟩, some ⟨.tr (eL v30), 35, 2⟩, some ⟨.tr (eL r54.1.slots), 35, 2⟩] rfl rfl ?_
        refine PR.op rfl (Rd.moveU rfl) ?_
        refine PR.op rfl (Rd.extract rfl rfl) ?_
        refine PR.op rfl (Rd.extract rfl rfl) ?_
        refine PR.efX rfl rfl (Ef.alloc rfl rfl) ?_
        refine PR.nm (.op 5 0) [some ⟨.mx [sL r52.2.b, iA r52.2.p], 115, 0⟩, some ⟨.mx [.t (.v (.slice none 0 0))], 25, 0⟩, some ⟨.mx [.os 3 0 v30.length], 25, 0⟩, some ⟨.tr (eL v30), 35, 2⟩, some ⟨.tr (eL r54.1.slots), 35, 2⟩, some ⟨.mx [.t (.v (.slice none 0 0))], 25, 0⟩] rfl rfl ?_
        refine PR.store rfl rfl rfl rfl rfl rfl rfl rfl ?_
        refine PR.nO [some ⟨.mx [sL r52.2.b, iA r52.2.p], 115, 0⟩, some ⟨.mx [.t (.v (.slice none 0 0))], 25, 0⟩, some ⟨.mx [.os 3 0 v30.length], 25, 0⟩, some ⟨.tr (eL v30), 35, 2⟩, some ⟨.tr (eL r54.1.slots), 35, 2⟩, some ⟨.mx [.os 4 0 r54.1.slots.length], 25, 0⟩] rfl ?_
        refine PR.op rfl (Rd.asnT rfl) ?_
        refine PR.nil ?_
        refine PT.done ?_
        refine PL.nil ?_
        refine thA_n ?_
        exact ⟨(), trivial, [some 0, some 1, some 2, some 3, some 5, some 4], ⟨rfl, rfl, ⟨⟨_, rfl, rfl, rfl, .mx ⟨.t _, .t _, trivial⟩⟩, ⟨_, rfl, rfl, rfl, .mx ⟨.t _, trivial⟩⟩, ⟨_, rfl, rfl, rfl, .mx ⟨.os rfl, trivial⟩⟩, ⟨_, rfl, rfl, rfl, .tr _⟩, ⟨_, rfl, rfl, rfl, .mx ⟨.os rfl, trivial⟩⟩, ⟨_, rfl, rfl, rfl, .tr _⟩, trivial⟩, ⟨.op rfl, .op rfl, .op rfl, .t _, .op rfl, .t _, .op rfl, .os rfl, .t _, .t _, trivial⟩⟩⟩
      refine PT.seg ?_
      refine PR.efX rfl rfl (Ef.alloc rfl rfl) ?_
      refine PR.nm (.op 4 0) [some ⟨.mx [sL r52.2.b, iA r52.2.p], 115, 0⟩, some ⟨.mx [.t (.v (.slice none 0 0))], 25, 0⟩, some ⟨.mx [.os 3 0 v30.length], 25, 0⟩, some ⟨.tr (eL v30), 35, 2⟩, some ⟨.mx [.t (.v (.slice none 0 0))], 25, 0⟩] rfl rfl ?_
      refine PR.callM true [] (w_S_ClearSlot N (I_Page.mk v30) r52.1 r54 h_55) rfl Try.call33 rfl ⟨.aggL ⟨.own rfl (by first | decide | exact List.not_mem_nil) rfl rfl, trivial⟩, .t _, trivial⟩ rfl trivial (fun _ => ⟨⟨⟨trivial, trivial⟩, trivial, trivial⟩, (flat_cons flat_ow flat_nil)⟩) rfl ?_
      refine PR.nm (.tup [.agg [.os 5 0 r54.1.slots.length], bA r54.2]) [some ⟨.mx [sL r52.2.b, iA r52.2.p], 115, 0⟩, some ⟨.mx [.t (.v (.slice none 0 0))], 25, 0⟩, some ⟨.mx [.os 3 0 v30.length], 25, 0⟩, some ⟨.tr (eL v30), 35, 2⟩, some ⟨.mx [.t (.v (.slice none 0 0))], 25, 0⟩, some ⟨.tr (eL r54.1.slots), 35, 2⟩] rfl rfl ?_
      refine PR.op rfl (Rd.moveU rfl) ?_
      refine PR.op rfl (Rd.extract rfl rfl) ?_
      refine PR.op rfl (Rd.extract rfl rfl) ?_
      refine PR.store rfl rfl rfl rfl rfl rfl rfl rfl ?_
      refine PR.nO [some ⟨.mx [sL r52.2.b, iA r52.2.p], 115, 0⟩, some ⟨.mx [.t (.v (.slice none 0 0))], 25, 0⟩, some ⟨.mx [.os 3 0 v30.length], 25, 0⟩, some ⟨.tr (eL v30), 35, 2⟩, some ⟨.mx [.os 5 0 r54.1.slots.length], 25, 0⟩, some ⟨.tr (eL r54.1.slots), 35, 2⟩] rfl ?_
      refine PR.op rfl (Rd.asnT rfl) ?_
      refine PR.nil ?_
      refine PT.done ?_
      refine PL.nil ?_
      refine thA_n ?_
      exact ⟨(), trivial, [some 0, some 1, some 2, some 3, some 4, some 5], ⟨rfl, rfl, ⟨⟨_, rfl, rfl, rfl, .mx ⟨.t _, .t _, trivial⟩⟩, ⟨_, rfl, rfl, rfl, .mx ⟨.t _, trivial⟩⟩, ⟨_, rfl, rfl, rfl, .mx ⟨.os rfl, trivial⟩⟩, ⟨_, rfl, rfl, rfl, .tr _⟩, ⟨_, rfl, rfl, rfl, .mx ⟨.os rfl, trivial⟩⟩, ⟨_, rfl, rfl, rfl, .tr _⟩, trivial⟩, ⟨.op rfl, .op rfl, .op rfl, .t _, .op rfl, .t _, .op rfl, .os rfl, .t _, .t _, trivial⟩⟩⟩
    rintro ⟨⟩ -
    refine PC.seq ?_
    refine PC.region ?_
    refine PL.op rfl (Rd.moveT rfl) ?_
    refine PL.nil ?_
    refine thA_n ?_
    rcases cond_some hh1 with ⟨h_56, hh1⟩ | ⟨h_56, hh1⟩
    rotate_left
    · refine PC.cond_false rfl h_56 ?_
      refine PC.skip ?_
      refine inA_n ?_
      refine thA_n ?_
      obtain ⟨n59, h_60, hh1⟩ := bind_some hh1
      refine PC.region ?_
      refine PL.op rfl (Rd.moveT rfl) ?_
      refine PL.op rfl (Rd.subM rfl rfl h_60) ?_
      refine PL.op rfl (Rd.asnT rfl) ?_
      refine PL.nil ?_
      obtain rfl := some_in hh1
      refine thA_n ?_
      exact ⟨(f47, (n59, r52.2.b, r52.2.p, v30)), Nat.lt_succ_self _, kk1, [some 0, some 1, some 2, some 3], ⟨rfl, rfl, ⟨⟨_, rfl, rfl, rfl, .mx ⟨.t _, .t _, trivial⟩⟩, ⟨_, rfl, rfl, rfl, .mx ⟨.t _, trivial⟩⟩, ⟨_, rfl, rfl, rfl, .mx ⟨.os rfl, trivial⟩⟩, ⟨_, rfl, rfl, rfl, .tr _⟩, trivial⟩, ⟨.op rfl, .op rfl, .op rfl, .t _, trivial⟩⟩⟩
    refine PC.cond_true rfl h_56 ?_
    refine PC.region ?_
    refine PL.op rfl (Rd.loadBox rfl rfl rfl) ?_
    refine PL.store rfl rfl rfl rfl rfl rfl rfl ?_
    refine PL.nO [some ⟨.mx [sL r52.2.b, iA r52.2.p], 115, 0⟩, some ⟨.mx [.t (.v (.slice none 0 0))], 25, 0⟩, some ⟨.mx [.os 5 0 r54.1.slots.length], 25, 0⟩, some ⟨.tr (eL v30), 35, 2⟩, some ⟨.mx [.os 5 0 r54.1.slots.length], 25, 0⟩, some ⟨.tr (eL r54.1.slots), 35, 2⟩] rfl ?_
    refine PL.nil ?_
    refine inA_n ?_
    refine thA_n ?_
    obtain ⟨n57, h_58, hh1⟩ := bind_some hh1
    refine PC.region ?_
    refine PL.op rfl (Rd.moveT rfl) ?_
    refine PL.op rfl (Rd.subM rfl rfl h_58) ?_
    refine PL.op rfl (Rd.asnT rfl) ?_
    refine PL.nil ?_
    obtain rfl := some_in hh1
    refine thA_n ?_
    exact ⟨(f47, (n57, r52.2.b, r52.2.p, r54.1.slots)), Nat.lt_succ_self _, kk1, [some 0, some 1, some 2, some 5], ⟨rfl, rfl, ⟨⟨_, rfl, rfl, rfl, .mx ⟨.t _, .t _, trivial⟩⟩, ⟨_, rfl, rfl, rfl, .mx ⟨.t _, trivial⟩⟩, ⟨_, rfl, rfl, rfl, .mx ⟨.os rfl, trivial⟩⟩, ⟨_, rfl, rfl, rfl, .tr _⟩, trivial⟩, ⟨.op rfl, .op rfl, .op rfl, .t _, trivial⟩⟩⟩
  clear hh0
  rintro ⟨v42, v43, v44⟩ hh0
  replace hh0 : m_S_randomPage_k2 N v42 v43 v44 = some r := hh0
  unfold m_S_randomPage_k2 at hh0
  refine thA_n ?_
  refine PC.seq ?_
  refine PC.region ?_
  refine PL.op rfl (Rd.loadBox rfl rfl rfl) ?_
  refine PL.store rfl rfl rfl rfl rfl rfl rfl ?_
  refine PL.nO [some ⟨.mx [sL v42, iA v43], 115, 0⟩, some ⟨.mx [.os 3 0 v44.length], 25, 0⟩, some ⟨.mx [.os 3 0 v44.length], 25, 0⟩, some ⟨.tr (eL v44), 35, 2⟩] rfl ?_
  refine PL.nil ?_
  refine thA_n ?_
  refine PC.ret ?_
  obtain rfl := some_in hh0
  exact FinA.mk (r := .agg [.os 1 0 ((((I_Page.mk v44), (S_reader.mk v42 v43)).1.slots).length)]) (bl := [⟨.mx [sL (((I_Page.mk v44), (S_reader.mk v42 v43)).2.b), iA (((I_Page.mk v44), (S_reader.mk v42 v43)).2.p)], 115, 0⟩, ⟨.tr (eL (((I_Page.mk v44), (S_reader.mk v42 v43)).1.slots)), 35, 2⟩]) [some 0, some 3] (.inl rfl) rfl (rl := [.cell 2 25]) (.cellN rfl rfl rfl rfl .nil) rfl rfl rfl (.aggL ⟨.os rfl, trivial⟩) ⟨⟨_, rfl, rfl, rfl, .mx ⟨.t _, .t _, trivial⟩⟩, ⟨_, rfl, rfl, rfl, .tr _⟩, trivial⟩ ⟨rfl, rfl⟩

def m_S_anyPage_k1 (N : Nat) (r3 : (Int × S_reader)) (v19 : (List I_Slot)) : Option (I_Page × S_reader) :=
  some ((I_Page.mk v19), r3.2)
def m_S_anyPage_b1 (N : Nat) (i12 : Int) (v13 : (List I_Slot)) : Option ((Int × (List I_Slot)) ⊕ (List I_Slot)) :=
  cond (decide (i12 < (9 : Int)))
    ((appM 24 v13 [(I_Slot.mk true ByteArray.empty)]).bind fun xs26 =>
    (chk (i12 + (1 : Int))).bind fun n28 =>
    some (.inl (n28, xs26)))
    (some (.inr v13))
def m_S_anyPage (N : Nat) (p_r : S_reader) : Option (I_Page × S_reader) :=
  (m_S_randomPage N p_r).bind fun r1 =>
  (m_S_reader_pick N r1.2 (20 : Int)).bind fun r3 =>
  cond (decide (r3.1 = (0 : Int)))
    ((appM 24 r1.1.slots [(I_Slot.mk false ByteArray.empty)]).bind fun xs6 =>
    some ((I_Page.mk xs6), r3.2))
    (cond (decide (r3.1 = (1 : Int)))
      ((appM 24 ([(I_Slot.mk false (ByteArray.mk #[120]))]) r1.1.slots).bind fun xs9 =>
      some ((I_Page.mk xs9), r3.2))
      (cond (decide (r3.1 = (2 : Int)))
        ((loopM (β := (List I_Slot)) (fun s : Int × (List I_Slot) => m_S_anyPage_b1 N s.1 s.2) N ((0 : Int), r1.1.slots)).bind fun e =>
        m_S_anyPage_k1 N r3 e)
        (some (r1.1, r3.2))))
theorem w_S_anyPage (N : Nat) (p_r : S_reader) (r : I_Page × S_reader) (hh0 : m_S_anyPage N p_r = some r) : FnX Try.prog 58 [⟨.mx [sL p_r.b, iA p_r.p], 115, 0⟩] [.op 0 0] (RE (.agg [.os 1 0 r.1.slots.length]) [⟨.mx [sL r.2.b, iA r.2.p], 115, 0⟩, ⟨.tr (eL r.1.slots), 35, 2⟩]) := by
  unfold m_S_anyPage at hh0
  refine FnX.mk Try.func58 rfl rfl ?_
  intro s hs
  refine PC.seq ?_
  refine PC.region ?_
  refine PL.ef rfl (Ef.alloc rfl rfl) ?_
  refine PL.nm (.op 1 0) [some ⟨.mx [sL p_r.b, iA p_r.p], 115, 0⟩, some ⟨.mx [.t (.v (.slice none 0 0))], 25, 0⟩] rfl rfl ?_
  refine PL.nil ?_
  refine thA_n ?_
  refine PC.seq ?_
  obtain ⟨r1, h_2, hh0⟩ := bind_some hh0
  refine PC.region ?_
  refine PL.op rfl (Rd.moveP rfl) ?_
  refine PL.callM false [0] (w_S_randomPage N p_r r1 h_2) rfl Try.call93 rfl ⟨.op rfl, trivial⟩ rfl ⟨⟨_, rfl, rfl, rfl, .mx ⟨.t _, .t _, trivial⟩⟩, trivial⟩ (fun h => by cases h) ?_
  refine PL.nm (.agg [.os 2 0 r1.1.slots.length]) [some ⟨.mx [sL r1.2.b, iA r1.2.p], 115, 0⟩, some ⟨.mx [.t (.v (.slice none 0 0))], 25, 0⟩, some ⟨.tr (eL r1.1.slots), 35, 2⟩] rfl rfl ?_
  refine PL.ef rfl (Ef.alloc rfl rfl) ?_
  refine PL.nm (.op 3 0) [some ⟨.mx [sL r1.2.b, iA r1.2.p], 115, 0⟩, some ⟨.mx [.t (.v (.slice none 0 0))], 25, 0⟩, some ⟨.tr (eL r1.1.slots), 35, 2⟩, some ⟨.mx [.t (.v (.slice none 0 0))], 25, 0⟩] rfl rfl ?_
  refine PL.store rfl rfl rfl rfl rfl rfl rfl ?_
  refine PL.nO [some ⟨.mx [sL r1.2.b, iA r1.2.p], 115, 0⟩, some ⟨.mx [.t (.v (.slice none 0 0))], 25, 0⟩, some ⟨.tr (eL r1.1.slots), 35, 2⟩, some ⟨.mx [.os 2 0 r1.1.slots.length], 25, 0⟩] rfl ?_
  refine PL.nil ?_
  refine thA_n ?_
  refine PC.seq ?_
  refine PC.seq ?_
  obtain ⟨r3, h_4, hh0⟩ := bind_some hh0
  refine PC.region ?_
  refine PL.op rfl (Rd.moveP rfl) ?_
  refine PL.callM false [0] (w_S_reader_pick N r1.2 (20 : Int) r3 h_4) rfl Try.call94 rfl ⟨.op rfl, .t _, trivial⟩ rfl ⟨⟨_, rfl, rfl, rfl, .mx ⟨.t _, .t _, trivial⟩⟩, trivial⟩ (fun h => by cases h) ?_
  refine PL.nm (iA r3.1) [some ⟨.mx [sL r3.2.b, iA r3.2.p], 115, 0⟩, some ⟨.mx [.t (.v (.slice none 0 0))], 25, 0⟩, some ⟨.tr (eL r1.1.slots), 35, 2⟩, some ⟨.mx [.os 2 0 r1.1.slots.length], 25, 0⟩] rfl rfl ?_
  refine PL.nil ?_
  refine thA_n ?_
  refine PC.block ?_
  refine PC.seq ?_
  refine PC.region ?_
  refine PL.op rfl (Rd.eql rfl rfl) ?_
  refine PL.op rfl (Rd.asnT rfl) ?_
  refine PL.nil ?_
  refine thA_n ?_
  rcases cond_some hh0 with ⟨h_5, hh0⟩ | ⟨h_5, hh0⟩
  · refine PC.cond_true rfl h_5 ?_
    obtain ⟨xs6, h_7, hh0⟩ := bind_some hh0
    refine PC.region ?_
    refine PL.op rfl (Rd.fieldO rfl rfl) ?_
    refine PL.op rfl (Rd.loadO rfl rfl rfl) ?_
    refine PL.op rfl (Rd.build rfl rfl rfl rfl) ?_
    refine PL.ef rfl (Ef.litM (α := I_Slot) [(I_Slot.mk false ByteArray.empty)] [_] rfl rfl (by decide) rfl rfl rfl rfl) ?_
    refine PL.nm (.os 4 0 1) [some ⟨.mx [sL r3.2.b, iA r3.2.p], 115, 0⟩, some ⟨.mx [.t (.v (.slice none 0 0))], 25, 0⟩, some ⟨.tr (eL r1.1.slots), 35, 2⟩, some ⟨.mx [.os 2 0 r1.1.slots.length], 25, 0⟩, some ⟨.tr (eL [(I_Slot.mk false ByteArray.empty)]), 35, 2⟩] rfl rfl ?_
    refine PL.apM hs rfl rfl rfl rfl (SrcA.ownE rfl rfl rfl) rfl rfl rfl rfl h_7 ?_
    refine PL.nm (.os 5 0 xs6.length) [some ⟨.mx [sL r3.2.b, iA r3.2.p], 115, 0⟩, some ⟨.mx [.t (.v (.slice none 0 0))], 25, 0⟩, none, some ⟨.mx [.os 2 0 r1.1.slots.length], 25, 0⟩, some ⟨.tr (eL [(I_Slot.mk false ByteArray.empty)]), 35, 2⟩, some ⟨.tr (eL xs6), 35, 2⟩] rfl rfl ?_
    refine PL.op rfl (Rd.fieldO rfl rfl) ?_
    refine PL.store rfl rfl rfl rfl rfl rfl rfl ?_
    refine PL.nO [some ⟨.mx [sL r3.2.b, iA r3.2.p], 115, 0⟩, some ⟨.mx [.t (.v (.slice none 0 0))], 25, 0⟩, none, some ⟨.mx [.os 5 0 xs6.length], 25, 0⟩, some ⟨.tr (eL [(I_Slot.mk false ByteArray.empty)]), 35, 2⟩, some ⟨.tr (eL xs6), 35, 2⟩] rfl ?_
    refine PL.nil ?_
    refine inA_n ?_
    refine thA_n ?_
    refine PC.seq ?_
    refine PC.region ?_
    refine PL.op rfl (Rd.loadBox rfl rfl rfl) ?_
    refine PL.store rfl rfl rfl rfl rfl rfl rfl ?_
    refine PL.nO [some ⟨.mx [sL r3.2.b, iA r3.2.p], 115, 0⟩, some ⟨.mx [.os 5 0 xs6.length], 25, 0⟩, none, some ⟨.mx [.os 5 0 xs6.length], 25, 0⟩, some ⟨.tr (eL [(I_Slot.mk false ByteArray.empty)]), 35, 2⟩, some ⟨.tr (eL xs6), 35, 2⟩] rfl ?_
    refine PL.nil ?_
    refine thA_n ?_
    refine PC.ret ?_
    obtain rfl := some_in hh0
    exact FinA.mk (r := .agg [.os 1 0 ((((I_Page.mk xs6), r3.2).1.slots).length)]) (bl := [⟨.mx [sL (((I_Page.mk xs6), r3.2).2.b), iA (((I_Page.mk xs6), r3.2).2.p)], 115, 0⟩, ⟨.tr (eL (((I_Page.mk xs6), r3.2).1.slots)), 35, 2⟩]) [some 0, some 5] (.inl rfl) rfl (rl := [.cell 2 25]) (.cellN rfl rfl rfl rfl .nil) rfl rfl rfl (.aggL ⟨.os rfl, trivial⟩) ⟨⟨_, rfl, rfl, rfl, .mx ⟨.t _, .t _, trivial⟩⟩, ⟨_, rfl, rfl, rfl, .tr _⟩, trivial⟩ ⟨rfl, rfl⟩
  refine PC.cond_false rfl h_5 ?_
  refine PC.seq ?_
  refine PC.region ?_
  refine PL.op rfl (Rd.eql rfl rfl) ?_
  refine PL.op rfl (Rd.asnT rfl) ?_
  refine PL.nil ?_
  refine thA_n ?_
  rcases cond_some hh0 with ⟨h_8, hh0⟩ | ⟨h_8, hh0⟩
  · refine PC.cond_true rfl h_8 ?_
    obtain ⟨xs9, h_10, hh0⟩ := bind_some hh0
    refine PC.region ?_
    refine PL.op rfl (Rd.build rfl rfl rfl rfl) ?_
    refine PL.ef rfl (Ef.litM (α := I_Slot) [(I_Slot.mk false (ByteArray.mk #[120]))] [_] rfl rfl (by decide) rfl rfl rfl rfl) ?_
    refine PL.nm (.os 4 0 1) [some ⟨.mx [sL r3.2.b, iA r3.2.p], 115, 0⟩, some ⟨.mx [.t (.v (.slice none 0 0))], 25, 0⟩, some ⟨.tr (eL r1.1.slots), 35, 2⟩, some ⟨.mx [.os 2 0 r1.1.slots.length], 25, 0⟩, some ⟨.tr (eL ([(I_Slot.mk false (ByteArray.mk #[120]))])), 35, 2⟩] rfl rfl ?_
    refine PL.op rfl (Rd.fieldO rfl rfl) ?_
    refine PL.op rfl (Rd.loadO rfl rfl rfl) ?_
    refine PL.apM hs rfl rfl rfl rfl (SrcA.ownE rfl rfl rfl) rfl rfl rfl rfl h_10 ?_
    refine PL.nm (.os 5 0 xs9.length) [some ⟨.mx [sL r3.2.b, iA r3.2.p], 115, 0⟩, some ⟨.mx [.t (.v (.slice none 0 0))], 25, 0⟩, some ⟨.tr (eL r1.1.slots), 35, 2⟩, some ⟨.mx [.os 2 0 r1.1.slots.length], 25, 0⟩, none, some ⟨.tr (eL xs9), 35, 2⟩] rfl rfl ?_
    refine PL.op rfl (Rd.fieldO rfl rfl) ?_
    refine PL.store rfl rfl rfl rfl rfl rfl rfl ?_
    refine PL.nO [some ⟨.mx [sL r3.2.b, iA r3.2.p], 115, 0⟩, some ⟨.mx [.t (.v (.slice none 0 0))], 25, 0⟩, some ⟨.tr (eL r1.1.slots), 35, 2⟩, some ⟨.mx [.os 5 0 xs9.length], 25, 0⟩, none, some ⟨.tr (eL xs9), 35, 2⟩] rfl ?_
    refine PL.nil ?_
    refine inA_n ?_
    refine thA_n ?_
    refine PC.seq ?_
    refine PC.region ?_
    refine PL.op rfl (Rd.loadBox rfl rfl rfl) ?_
    refine PL.store rfl rfl rfl rfl rfl rfl rfl ?_
    refine PL.nO [some ⟨.mx [sL r3.2.b, iA r3.2.p], 115, 0⟩, some ⟨.mx [.os 5 0 xs9.length], 25, 0⟩, some ⟨.tr (eL r1.1.slots), 35, 2⟩, some ⟨.mx [.os 5 0 xs9.length], 25, 0⟩, none, some ⟨.tr (eL xs9), 35, 2⟩] rfl ?_
    refine PL.nil ?_
    refine thA_n ?_
    refine PC.ret ?_
    obtain rfl := some_in hh0
    exact FinA.mk (r := .agg [.os 1 0 ((((I_Page.mk xs9), r3.2).1.slots).length)]) (bl := [⟨.mx [sL (((I_Page.mk xs9), r3.2).2.b), iA (((I_Page.mk xs9), r3.2).2.p)], 115, 0⟩, ⟨.tr (eL (((I_Page.mk xs9), r3.2).1.slots)), 35, 2⟩]) [some 0, some 5] (.inl rfl) rfl (rl := [.cell 2 25]) (.cellN rfl rfl rfl rfl .nil) rfl rfl rfl (.aggL ⟨.os rfl, trivial⟩) ⟨⟨_, rfl, rfl, rfl, .mx ⟨.t _, .t _, trivial⟩⟩, ⟨_, rfl, rfl, rfl, .tr _⟩, trivial⟩ ⟨rfl, rfl⟩
  refine PC.cond_false rfl h_8 ?_
  refine PC.seq ?_
  refine PC.region ?_
  refine PL.op rfl (Rd.eql rfl rfl) ?_
  refine PL.op rfl (Rd.asnT rfl) ?_
  refine PL.nil ?_
  refine thA_n ?_
  rcases cond_some hh0 with ⟨h_11, hh0⟩ | ⟨h_11, hh0⟩
  rotate_left
  · refine PC.cond_false rfl h_11 ?_
    refine PC.skip ?_
    refine inA_n ?_
    refine thA_n ?_
    refine PC.seq ?_
    refine PC.region ?_
    refine PL.op rfl (Rd.loadBox rfl rfl rfl) ?_
    refine PL.store rfl rfl rfl rfl rfl rfl rfl ?_
    refine PL.nO [some ⟨.mx [sL r3.2.b, iA r3.2.p], 115, 0⟩, some ⟨.mx [.os 2 0 r1.1.slots.length], 25, 0⟩, some ⟨.tr (eL r1.1.slots), 35, 2⟩, some ⟨.mx [.os 2 0 r1.1.slots.length], 25, 0⟩] rfl ?_
    refine PL.nil ?_
    refine thA_n ?_
    refine PC.ret ?_
    obtain rfl := some_in hh0
    exact FinA.mk (r := .agg [.os 1 0 (((r1.1, r3.2).1.slots).length)]) (bl := [⟨.mx [sL ((r1.1, r3.2).2.b), iA ((r1.1, r3.2).2.p)], 115, 0⟩, ⟨.tr (eL ((r1.1, r3.2).1.slots)), 35, 2⟩]) [some 0, some 2] (.inl rfl) rfl (rl := [.cell 2 25]) (.cellN rfl rfl rfl rfl .nil) rfl rfl rfl (.aggL ⟨.os rfl, trivial⟩) ⟨⟨_, rfl, rfl, rfl, .mx ⟨.t _, .t _, trivial⟩⟩, ⟨_, rfl, rfl, rfl, .tr _⟩, trivial⟩ ⟨rfl, rfl⟩
  refine PC.cond_true rfl h_11 ?_
  refine PC.seq ?_
  refine PC.region ?_
  refine PL.op rfl (Rd.asnT rfl) ?_
  refine PL.nil ?_
  refine thA_n ?_
  obtain ⟨o20, h_21, hh0⟩ := bind_some hh0
  refine PC.cutE hs (fun x : (List I_Slot) => [(2, .op 1 0), (3, .op 2 0)]) (fun x => [⟨.mx [sL r3.2.b, iA r3.2.p], 115, 0⟩, ⟨.mx [.t (.v (.slice none 0 0))], 25, 0⟩, ⟨.mx [.os 3 0 x.length], 25, 0⟩, ⟨.tr (eL x), 35, 2⟩]) (fun x => m_S_anyPage_k1 N r3 x = some r) ?_ ?_
  · refine PC.block ?_
    refine PC.loop hs (fun x : Nat × (Int × (List I_Slot)) => [(2, .op 1 0), (3, .op 2 0), (4, iA x.2.1)]) (fun x => [⟨.mx [sL r3.2.b, iA r3.2.p], 115, 0⟩, ⟨.mx [.t (.v (.slice none 0 0))], 25, 0⟩, ⟨.mx [.os 3 0 x.2.2.length], 25, 0⟩, ⟨.tr (eL x.2.2), 35, 2⟩]) (fun x => loopM (β := (List I_Slot)) (fun s : Int × (List I_Slot) => m_S_anyPage_b1 N s.1 s.2) x.1 x.2 = some o20) (fun x => x.1) (N, ((0 : Int), r1.1.slots)) [some 0, some 1, some 3, some 2] ⟨rfl, rfl, ⟨⟨_, rfl, rfl, rfl, .mx ⟨.t _, .t _, trivial⟩⟩, ⟨_, rfl, rfl, rfl, .mx ⟨.t _, trivial⟩⟩, ⟨_, rfl, rfl, rfl, .mx ⟨.os rfl, trivial⟩⟩, ⟨_, rfl, rfl, rfl, .tr _⟩, trivial⟩, ⟨.op rfl, .op rfl, .t _, trivial⟩⟩ h_21 ?_
    rintro ⟨f22_, i12, v13⟩ h_24
    obtain ⟨f22, y23, rfl, hh1, kk1⟩ := loopM_some h_24
    replace hh1 : m_S_anyPage_b1 N i12 v13 = some y23 := hh1
    unfold m_S_anyPage_b1 at hh1
    refine PC.seq ?_
    refine PC.seq ?_
    refine PC.region ?_
    refine PL.op rfl (Rd.moveT rfl) ?_
    refine PL.op rfl (Rd.lss rfl rfl) ?_
    refine PL.nil ?_
    refine thA_n ?_
    rcases cond_some hh1 with ⟨h_25, hh1⟩ | ⟨h_25, hh1⟩
    rotate_left
    · refine PC.cond_false rfl h_25 ?_
      refine PC.exit ?_
      refine thA_e ?_
      refine thA_e ?_
      refine inA_eq rfl ?_
      refine thA_n ?_
      obtain rfl := some_in hh1
      obtain rfl : (v13 : (List I_Slot)) = o20 := kk1
      exact ⟨v13, hh0, [some 0, some 1, some 2, some 3], ⟨rfl, rfl, ⟨⟨_, rfl, rfl, rfl, .mx ⟨.t _, .t _, trivial⟩⟩, ⟨_, rfl, rfl, rfl, .mx ⟨.t _, trivial⟩⟩, ⟨_, rfl, rfl, rfl, .mx ⟨.os rfl, trivial⟩⟩, ⟨_, rfl, rfl, rfl, .tr _⟩, trivial⟩, ⟨.op rfl, .op rfl, trivial⟩⟩⟩
    refine PC.cond_true rfl h_25 ?_
    refine PC.skip ?_
    refine thA_n ?_
    refine PC.seq ?_
    refine PC.block ?_
    obtain ⟨xs26, h_27, hh1⟩ := bind_some hh1
    refine PC.region ?_
    refine PL.op rfl (Rd.fieldO rfl rfl) ?_
    refine PL.op rfl (Rd.loadO rfl rfl rfl) ?_
    refine PL.op rfl (Rd.build rfl rfl rfl rfl) ?_
    refine PL.ef rfl (Ef.litM (α := I_Slot) [(I_Slot.mk true ByteArray.empty)] [_] rfl rfl (by decide) rfl rfl rfl rfl) ?_
    refine PL.nm (.os 4 0 1) [some ⟨.mx [sL r3.2.b, iA r3.2.p], 115, 0⟩, some ⟨.mx [.t (.v (.slice none 0 0))], 25, 0⟩, some ⟨.mx [.os 3 0 v13.length], 25, 0⟩, some ⟨.tr (eL v13), 35, 2⟩, some ⟨.tr (eL [(I_Slot.mk true ByteArray.empty)]), 35, 2⟩] rfl rfl ?_
    refine PL.apM hs rfl rfl rfl rfl (SrcA.ownE rfl rfl rfl) rfl rfl rfl rfl h_27 ?_
    refine PL.nm (.os 5 0 xs26.length) [some ⟨.mx [sL r3.2.b, iA r3.2.p], 115, 0⟩, some ⟨.mx [.t (.v (.slice none 0 0))], 25, 0⟩, some ⟨.mx [.os 3 0 v13.length], 25, 0⟩, none, some ⟨.tr (eL [(I_Slot.mk true ByteArray.empty)]), 35, 2⟩, some ⟨.tr (eL xs26), 35, 2⟩] rfl rfl ?_
    refine PL.op rfl (Rd.fieldO rfl rfl) ?_
    refine PL.store rfl rfl rfl rfl rfl rfl rfl ?_
    refine PL.nO [some ⟨.mx [sL r3.2.b, iA r3.2.p], 115, 0⟩, some ⟨.mx [.t (.v (.slice none 0 0))], 25, 0⟩, some ⟨.mx [.os 5 0 xs26.length], 25, 0⟩, none, some ⟨.tr (eL [(I_Slot.mk true ByteArray.empty)]), 35, 2⟩, some ⟨.tr (eL xs26), 35, 2⟩] rfl ?_
    refine PL.nil ?_
    refine inA_n ?_
    refine thA_n ?_
    obtain ⟨n28, h_29, hh1⟩ := bind_some hh1
    refine PC.region ?_
    refine PL.op rfl (Rd.moveT rfl) ?_
    refine PL.op rfl (Rd.addM rfl rfl h_29) ?_
    refine PL.op rfl (Rd.asnT rfl) ?_
    refine PL.nil ?_
    obtain rfl := some_in hh1
    refine thA_n ?_
    exact ⟨(f22, (n28, xs26)), Nat.lt_succ_self _, kk1, [some 0, some 1, some 2, some 5], ⟨rfl, rfl, ⟨⟨_, rfl, rfl, rfl, .mx ⟨.t _, .t _, trivial⟩⟩, ⟨_, rfl, rfl, rfl, .mx ⟨.t _, trivial⟩⟩, ⟨_, rfl, rfl, rfl, .mx ⟨.os rfl, trivial⟩⟩, ⟨_, rfl, rfl, rfl, .tr _⟩, trivial⟩, ⟨.op rfl, .op rfl, .t _, trivial⟩⟩⟩
  clear hh0
  rintro v19 hh0
  replace hh0 : m_S_anyPage_k1 N r3 v19 = some r := hh0
  unfold m_S_anyPage_k1 at hh0
  refine inA_n ?_
  refine thA_n ?_
  refine PC.seq ?_
  refine PC.region ?_
  refine PL.op rfl (Rd.loadBox rfl rfl rfl) ?_
  refine PL.store rfl rfl rfl rfl rfl rfl rfl ?_
  refine PL.nO [some ⟨.mx [sL r3.2.b, iA r3.2.p], 115, 0⟩, some ⟨.mx [.os 3 0 v19.length], 25, 0⟩, some ⟨.mx [.os 3 0 v19.length], 25, 0⟩, some ⟨.tr (eL v19), 35, 2⟩] rfl ?_
  refine PL.nil ?_
  refine thA_n ?_
  refine PC.ret ?_
  obtain rfl := some_in hh0
  exact FinA.mk (r := .agg [.os 1 0 ((((I_Page.mk v19), r3.2).1.slots).length)]) (bl := [⟨.mx [sL (((I_Page.mk v19), r3.2).2.b), iA (((I_Page.mk v19), r3.2).2.p)], 115, 0⟩, ⟨.tr (eL (((I_Page.mk v19), r3.2).1.slots)), 35, 2⟩]) [some 0, some 3] (.inl rfl) rfl (rl := [.cell 2 25]) (.cellN rfl rfl rfl rfl .nil) rfl rfl rfl (.aggL ⟨.os rfl, trivial⟩) ⟨⟨_, rfl, rfl, rfl, .mx ⟨.t _, .t _, trivial⟩⟩, ⟨_, rfl, rfl, rfl, .tr _⟩, trivial⟩ ⟨rfl, rfl⟩

def m_S_DrawPageFree (N : Nat) (p_code : (List UInt8)) : Option (I_Page) :=
  (m_S_newReader N p_code).bind fun r1 =>
  (m_S_anyPage N r1).bind fun r3 =>
  some r3.1
theorem w_S_DrawPageFree (N : Nat) (p_code : (List UInt8)) (r : I_Page) (hh0 : m_S_DrawPageFree N p_code = some r) : FnX Try.prog 19 [] [sL p_code] (RE (.agg [.os 0 0 r.slots.length]) [⟨.tr (eL r.slots), 35, 2⟩]) := by
  unfold m_S_DrawPageFree at hh0
  refine FnX.mk Try.func19 rfl rfl ?_
  intro s hs
  refine PC.seq ?_
  refine PC.region ?_
  refine PL.ef rfl (Ef.alloc rfl rfl) ?_
  refine PL.nm (.op 0 0) [some ⟨.mx [.t (.v (.slice none 0 0))], 25, 0⟩] rfl rfl ?_
  refine PL.nil ?_
  refine thA_n ?_
  refine PC.seq ?_
  obtain ⟨r1, h_2, hh0⟩ := bind_some hh0
  obtain ⟨r3, h_4, hh0⟩ := bind_some hh0
  refine PC.region ?_
  refine PL.op rfl (Rd.moveT rfl) ?_
  refine PL.callM false [] (w_S_newReader N p_code r1 h_2) rfl Try.call59 rfl ⟨.t _, trivial⟩ rfl trivial (fun h => by cases h) ?_
  refine PL.nm (.op 1 0) [some ⟨.mx [.t (.v (.slice none 0 0))], 25, 0⟩, some ⟨.mx [sL r1.b, iA r1.p], 115, 0⟩] rfl rfl ?_
  refine PL.callM false [1] (w_S_anyPage N r1 r3 h_4) rfl Try.call58 rfl ⟨.op rfl, trivial⟩ rfl ⟨⟨_, rfl, rfl, rfl, .mx ⟨.t _, .t _, trivial⟩⟩, trivial⟩ (fun h => by cases h) ?_
  refine PL.nm (.agg [.os 2 0 r3.1.slots.length]) [some ⟨.mx [.t (.v (.slice none 0 0))], 25, 0⟩, some ⟨.mx [sL r3.2.b, iA r3.2.p], 115, 0⟩, some ⟨.tr (eL r3.1.slots), 35, 2⟩] rfl rfl ?_
  refine PL.store rfl rfl rfl rfl rfl rfl rfl ?_
  refine PL.nO [some ⟨.mx [.os 2 0 r3.1.slots.length], 25, 0⟩, some ⟨.mx [sL r3.2.b, iA r3.2.p], 115, 0⟩, some ⟨.tr (eL r3.1.slots), 35, 2⟩] rfl ?_
  refine PL.nil ?_
  refine thA_n ?_
  refine PC.ret ?_
  obtain rfl := some_in hh0
  exact FinA.mk (r := .agg [.os 0 0 r3.1.slots.length]) (bl := [⟨.tr (eL r3.1.slots), 35, 2⟩]) [some 2] (.inl rfl) rfl (rl := [.cell 2 25]) (.cellN rfl rfl rfl rfl .nil) rfl rfl rfl (.aggL ⟨.os rfl, trivial⟩) ⟨⟨_, rfl, rfl, rfl, .tr _⟩, trivial⟩ ⟨rfl, rfl⟩

def m_S_DrawPutSlot (N : Nat) (p_code : (List UInt8)) : Option (I_Page × ByteArray) :=
  (m_S_newReader N p_code).bind fun r1 =>
  (m_S_anyPage N r1).bind fun r3 =>
  (m_S_someData N r3.2).bind fun r5 =>
  some (r3.1, r5.1)
theorem w_S_DrawPutSlot (N : Nat) (p_code : (List UInt8)) (r : I_Page × ByteArray) (hh0 : m_S_DrawPutSlot N p_code = some r) : FnX Try.prog 23 [] [sL p_code] (RE (.tup [.agg [.os 0 0 r.1.slots.length], sA r.2]) [⟨.tr (eL r.1.slots), 35, 2⟩]) := by
  unfold m_S_DrawPutSlot at hh0
  refine FnX.mk Try.func23 rfl rfl ?_
  intro s hs
  refine PC.seq ?_
  refine PC.region ?_
  refine PL.ef rfl (Ef.alloc rfl rfl) ?_
  refine PL.nm (.op 0 0) [some ⟨.mx [.t (.v (.slice none 0 0))], 25, 0⟩] rfl rfl ?_
  refine PL.op rfl (Rd.asnT rfl) ?_
  refine PL.nil ?_
  refine thA_n ?_
  refine PC.seq ?_
  obtain ⟨r1, h_2, hh0⟩ := bind_some hh0
  refine PC.region ?_
  refine PL.op rfl (Rd.moveT rfl) ?_
  refine PL.callM false [] (w_S_newReader N p_code r1 h_2) rfl Try.call59 rfl ⟨.t _, trivial⟩ rfl trivial (fun h => by cases h) ?_
  refine PL.nm (.op 1 0) [some ⟨.mx [.t (.v (.slice none 0 0))], 25, 0⟩, some ⟨.mx [sL r1.b, iA r1.p], 115, 0⟩] rfl rfl ?_
  refine PL.op rfl (Rd.asnP rfl) ?_
  refine PL.nil ?_
  refine thA_n ?_
  refine PC.seq ?_
  obtain ⟨r3, h_4, hh0⟩ := bind_some hh0
  refine PC.region ?_
  refine PL.op rfl (Rd.moveP rfl) ?_
  refine PL.callM false [1] (w_S_anyPage N r1 r3 h_4) rfl Try.call58 rfl ⟨.op rfl, trivial⟩ rfl ⟨⟨_, rfl, rfl, rfl, .mx ⟨.t _, .t _, trivial⟩⟩, trivial⟩ (fun h => by cases h) ?_
  refine PL.nm (.agg [.os 2 0 r3.1.slots.length]) [some ⟨.mx [.t (.v (.slice none 0 0))], 25, 0⟩, some ⟨.mx [sL r3.2.b, iA r3.2.p], 115, 0⟩, some ⟨.tr (eL r3.1.slots), 35, 2⟩] rfl rfl ?_
  refine PL.ef rfl (Ef.alloc rfl rfl) ?_
  refine PL.nm (.op 3 0) [some ⟨.mx [.t (.v (.slice none 0 0))], 25, 0⟩, some ⟨.mx [sL r3.2.b, iA r3.2.p], 115, 0⟩, some ⟨.tr (eL r3.1.slots), 35, 2⟩, some ⟨.mx [.t (.v (.slice none 0 0))], 25, 0⟩] rfl rfl ?_
  refine PL.store rfl rfl rfl rfl rfl rfl rfl ?_
  refine PL.nO [some ⟨.mx [.t (.v (.slice none 0 0))], 25, 0⟩, some ⟨.mx [sL r3.2.b, iA r3.2.p], 115, 0⟩, some ⟨.tr (eL r3.1.slots), 35, 2⟩, some ⟨.mx [.os 2 0 r3.1.slots.length], 25, 0⟩] rfl ?_
  refine PL.nil ?_
  refine thA_n ?_
  refine PC.seq ?_
  obtain ⟨r5, h_6, hh0⟩ := bind_some hh0
  refine PC.any (id := 3) 3 (.seg [0, 1, 2] .done) [1] rfl (by kernel_rfl) rfl ?_
  refine PT.seg ?_
  refine PR.op rfl (Rd.loadBox rfl rfl rfl) ?_
  refine PR.op rfl (Rd.moveP rfl) ?_
  refine PR.callM false [1] (w_S_someData N r3.2 r5 h_6) rfl Try.call66 rfl ⟨.op rfl, trivial⟩ rfl ⟨⟨_, rfl, rfl, rfl, .mx ⟨.t _, .t _, trivial⟩⟩, trivial⟩ (fun h => by cases h) rfl ?_
  refine PR.nm (sA r5.1) [some ⟨.mx [.t (.v (.slice none 0 0))], 25, 0⟩, some ⟨.mx [sL r5.2.b, iA r5.2.p], 115, 0⟩, some ⟨.tr (eL r3.1.slots), 35, 2⟩, some ⟨.mx [.os 2 0 r3.1.slots.length], 25, 0⟩] rfl rfl ?_
  refine PR.nil ?_
  refine PT.done ?_
  refine PL.store rfl rfl rfl rfl rfl rfl rfl ?_
  refine PL.nO [some ⟨.mx [.os 2 0 r3.1.slots.length], 25, 0⟩, some ⟨.mx [sL r5.2.b, iA r5.2.p], 115, 0⟩, some ⟨.tr (eL r3.1.slots), 35, 2⟩, some ⟨.mx [.os 2 0 r3.1.slots.length], 25, 0⟩] rfl ?_
  refine PL.op rfl (Rd.asnT rfl) ?_
  refine PL.nil ?_
  refine thA_n ?_
  refine PC.ret ?_
  obtain rfl := some_in hh0
  exact FinA.mk (r := .tup [.agg [.os 0 0 (((r3.1, r5.1).1.slots).length)], sA ((r3.1, r5.1).2)]) (bl := [⟨.tr (eL ((r3.1, r5.1).1.slots)), 35, 2⟩]) [some 2] (.inl rfl) rfl (rl := [.cell 2 25, .tmp 3]) (.cellN rfl rfl rfl rfl (.tmp .nil)) rfl rfl rfl (.tupL ⟨.aggL ⟨.os rfl, trivial⟩, .t _, trivial⟩) ⟨⟨_, rfl, rfl, rfl, .tr _⟩, trivial⟩ ⟨rfl, rfl⟩

def m_S_someSlot (N : Nat) (p_r : S_reader) : Option (Int × S_reader) :=
  (m_S_reader_one N p_r [(0 : Int), (1 : Int), (2 : Int), (0 : Int), (1 : Int), (3 : Int), (7 : Int), (8 : Int), (-1 : Int)]).bind fun r1 =>
  some (r1.1, r1.2)
theorem w_S_someSlot (N : Nat) (p_r : S_reader) (r : Int × S_reader) (hh0 : m_S_someSlot N p_r = some r) : FnX Try.prog 69 [⟨.mx [sL p_r.b, iA p_r.p], 115, 0⟩] [.op 0 0] (RE (iA r.1) [⟨.mx [sL r.2.b, iA r.2.p], 115, 0⟩]) := by
  unfold m_S_someSlot at hh0
  refine FnX.mk Try.func69 rfl rfl ?_
  intro s hs
  refine PC.seq ?_
  refine PC.region ?_
  refine PL.op rfl (Rd.asnT rfl) ?_
  refine PL.nil ?_
  refine thA_n ?_
  refine PC.seq ?_
  obtain ⟨r1, h_2, hh0⟩ := bind_some hh0
  refine PC.region ?_
  refine PL.op rfl (Rd.moveP rfl) ?_
  refine PL.er rfl (Er.ints [(0 : Int), (1 : Int), (2 : Int), (0 : Int), (1 : Int), (3 : Int), (7 : Int), (8 : Int), (-1 : Int)] rfl rfl (by decide) rfl) ?_
  refine PL.callM false [0] (w_S_reader_one N p_r [(0 : Int), (1 : Int), (2 : Int), (0 : Int), (1 : Int), (3 : Int), (7 : Int), (8 : Int), (-1 : Int)] r1 h_2) rfl Try.call97 rfl ⟨.op rfl, .t _, trivial⟩ rfl ⟨⟨_, rfl, rfl, rfl, .mx ⟨.t _, .t _, trivial⟩⟩, trivial⟩ (fun h => by cases h) ?_
  refine PL.nm (iA r1.1) [some ⟨.mx [sL r1.2.b, iA r1.2.p], 115, 0⟩] rfl rfl ?_
  refine PL.op rfl (Rd.asnT rfl) ?_
  refine PL.nil ?_
  refine thA_n ?_
  refine PC.ret ?_
  obtain rfl := some_in hh0
  exact FinA.mk (r := iA ((r1.1, r1.2).1)) (bl := [⟨.mx [sL ((r1.1, r1.2).2.b), iA ((r1.1, r1.2).2.p)], 115, 0⟩]) [some 0] (.inl rfl) rfl (rl := [.tmp 2]) (.tmp .nil) rfl rfl rfl (.t _) ⟨⟨_, rfl, rfl, rfl, .mx ⟨.t _, .t _, trivial⟩⟩, trivial⟩ ⟨rfl, rfl⟩

def m_S_DrawSetSlot (N : Nat) (p_code : (List UInt8)) : Option (I_Page × Int × ByteArray) :=
  (m_S_newReader N p_code).bind fun r1 =>
  (m_S_anyPage N r1).bind fun r3 =>
  (m_S_someSlot N r3.2).bind fun r5 =>
  (m_S_someData N r5.2).bind fun r7 =>
  some (r3.1, r5.1, r7.1)
theorem w_S_DrawSetSlot (N : Nat) (p_code : (List UInt8)) (r : I_Page × Int × ByteArray) (hh0 : m_S_DrawSetSlot N p_code = some r) : FnX Try.prog 28 [] [sL p_code] (RE (.tup [.agg [.os 0 0 r.1.slots.length], iA r.2.1, sA r.2.2]) [⟨.tr (eL r.1.slots), 35, 2⟩]) := by
  unfold m_S_DrawSetSlot at hh0
  refine FnX.mk Try.func28 rfl rfl ?_
  intro s hs
  refine PC.seq ?_
  refine PC.region ?_
  refine PL.ef rfl (Ef.alloc rfl rfl) ?_
  refine PL.nm (.op 0 0) [some ⟨.mx [.t (.v (.slice none 0 0))], 25, 0⟩] rfl rfl ?_
  refine PL.op rfl (Rd.asnT rfl) ?_
  refine PL.op rfl (Rd.asnT rfl) ?_
  refine PL.nil ?_
  refine thA_n ?_
  refine PC.seq ?_
  obtain ⟨r1, h_2, hh0⟩ := bind_some hh0
  refine PC.region ?_
  refine PL.op rfl (Rd.moveT rfl) ?_
  refine PL.callM false [] (w_S_newReader N p_code r1 h_2) rfl Try.call59 rfl ⟨.t _, trivial⟩ rfl trivial (fun h => by cases h) ?_
  refine PL.nm (.op 1 0) [some ⟨.mx [.t (.v (.slice none 0 0))], 25, 0⟩, some ⟨.mx [sL r1.b, iA r1.p], 115, 0⟩] rfl rfl ?_
  refine PL.op rfl (Rd.asnP rfl) ?_
  refine PL.nil ?_
  refine thA_n ?_
  refine PC.seq ?_
  obtain ⟨r3, h_4, hh0⟩ := bind_some hh0
  refine PC.region ?_
  refine PL.op rfl (Rd.moveP rfl) ?_
  refine PL.callM false [1] (w_S_anyPage N r1 r3 h_4) rfl Try.call58 rfl ⟨.op rfl, trivial⟩ rfl ⟨⟨_, rfl, rfl, rfl, .mx ⟨.t _, .t _, trivial⟩⟩, trivial⟩ (fun h => by cases h) ?_
  refine PL.nm (.agg [.os 2 0 r3.1.slots.length]) [some ⟨.mx [.t (.v (.slice none 0 0))], 25, 0⟩, some ⟨.mx [sL r3.2.b, iA r3.2.p], 115, 0⟩, some ⟨.tr (eL r3.1.slots), 35, 2⟩] rfl rfl ?_
  refine PL.ef rfl (Ef.alloc rfl rfl) ?_
  refine PL.nm (.op 3 0) [some ⟨.mx [.t (.v (.slice none 0 0))], 25, 0⟩, some ⟨.mx [sL r3.2.b, iA r3.2.p], 115, 0⟩, some ⟨.tr (eL r3.1.slots), 35, 2⟩, some ⟨.mx [.t (.v (.slice none 0 0))], 25, 0⟩] rfl rfl ?_
  refine PL.store rfl rfl rfl rfl rfl rfl rfl ?_
  refine PL.nO [some ⟨.mx [.t (.v (.slice none 0 0))], 25, 0⟩, some ⟨.mx [sL r3.2.b, iA r3.2.p], 115, 0⟩, some ⟨.tr (eL r3.1.slots), 35, 2⟩, some ⟨.mx [.os 2 0 r3.1.slots.length], 25, 0⟩] rfl ?_
  refine PL.nil ?_
  refine thA_n ?_
  refine PC.seq ?_
  obtain ⟨r5, h_6, hh0⟩ := bind_some hh0
  refine PC.region ?_
  refine PL.op rfl (Rd.moveP rfl) ?_
  refine PL.callM false [1] (w_S_someSlot N r3.2 r5 h_6) rfl Try.call69 rfl ⟨.op rfl, trivial⟩ rfl ⟨⟨_, rfl, rfl, rfl, .mx ⟨.t _, .t _, trivial⟩⟩, trivial⟩ (fun h => by cases h) ?_
  refine PL.nm (iA r5.1) [some ⟨.mx [.t (.v (.slice none 0 0))], 25, 0⟩, some ⟨.mx [sL r5.2.b, iA r5.2.p], 115, 0⟩, some ⟨.tr (eL r3.1.slots), 35, 2⟩, some ⟨.mx [.os 2 0 r3.1.slots.length], 25, 0⟩] rfl rfl ?_
  refine PL.op rfl (Rd.asnT rfl) ?_
  refine PL.nil ?_
  refine thA_n ?_
  refine PC.seq ?_
  obtain ⟨r7, h_8, hh0⟩ := bind_some hh0
  refine PC.any (id := 4) 7 (.seg [0, 1, 2, 3, 4, 5, 6] .done) [0, 1] rfl (by kernel_rfl) rfl ?_
  refine PT.seg ?_
  refine PR.op rfl (Rd.loadBox rfl rfl rfl) ?_
  refine PR.op rfl (Rd.moveT rfl) ?_
  refine PR.op rfl (Rd.moveP rfl) ?_
  refine PR.callM false [1] (w_S_someData N r5.2 r7 h_8) rfl Try.call66 rfl ⟨.op rfl, trivial⟩ rfl ⟨⟨_, rfl, rfl, rfl, .mx ⟨.t _, .t _, trivial⟩⟩, trivial⟩ (fun h => by cases h) rfl ?_
  refine PR.nm (sA r7.1) [some ⟨.mx [.t (.v (.slice none 0 0))], 25, 0⟩, some ⟨.mx [sL r7.2.b, iA r7.2.p], 115, 0⟩, some ⟨.tr (eL r3.1.slots), 35, 2⟩, some ⟨.mx [.os 2 0 r3.1.slots.length], 25, 0⟩] rfl rfl ?_
  refine PR.store rfl rfl rfl rfl rfl rfl rfl rfl ?_
  refine PR.nO [some ⟨.mx [.os 2 0 r3.1.slots.length], 25, 0⟩, some ⟨.mx [sL r7.2.b, iA r7.2.p], 115, 0⟩, some ⟨.tr (eL r3.1.slots), 35, 2⟩, some ⟨.mx [.os 2 0 r3.1.slots.length], 25, 0⟩] rfl ?_
  refine PR.op rfl (Rd.asnT rfl) ?_
  refine PR.op rfl (Rd.asnT rfl) ?_
  refine PR.nil ?_
  refine PT.done ?_
  refine PL.nil ?_
  refine thA_n ?_
  refine PC.ret ?_
  obtain rfl := some_in hh0
  exact FinA.mk (r := .tup [.agg [.os 0 0 (((r3.1, r5.1, r7.1).1.slots).length)], iA ((r3.1, r5.1, r7.1).2.1), sA ((r3.1, r5.1, r7.1).2.2)]) (bl := [⟨.tr (eL ((r3.1, r5.1, r7.1).1.slots)), 35, 2⟩]) [some 2] (.inl rfl) rfl (rl := [.cell 2 25, .tmp 3, .tmp 4]) (.cellN rfl rfl rfl rfl (.tmp (.tmp .nil))) rfl rfl rfl (.tupL ⟨.aggL ⟨.os rfl, trivial⟩, .t _, .t _, trivial⟩) ⟨⟨_, rfl, rfl, rfl, .tr _⟩, trivial⟩ ⟨rfl, rfl⟩

def m_S_DrawGetSlot (N : Nat) (p_code : (List UInt8)) : Option (I_Page × Int) :=
  (m_S_newReader N p_code).bind fun r1 =>
  (m_S_anyPage N r1).bind fun r3 =>
  (m_S_someSlot N r3.2).bind fun r5 =>
  some (r3.1, r5.1)
theorem w_S_DrawGetSlot (N : Nat) (p_code : (List UInt8)) (r : I_Page × Int) (hh0 : m_S_DrawGetSlot N p_code = some r) : FnX Try.prog 71 [] [sL p_code] (RE (.tup [.agg [.os 0 0 r.1.slots.length], iA r.2]) [⟨.tr (eL r.1.slots), 35, 2⟩]) := by
  unfold m_S_DrawGetSlot at hh0
  refine FnX.mk Try.func71 rfl rfl ?_
  intro s hs
  refine PC.seq ?_
  refine PC.region ?_
  refine PL.ef rfl (Ef.alloc rfl rfl) ?_
  refine PL.nm (.op 0 0) [some ⟨.mx [.t (.v (.slice none 0 0))], 25, 0⟩] rfl rfl ?_
  refine PL.op rfl (Rd.asnT rfl) ?_
  refine PL.nil ?_
  refine thA_n ?_
  refine PC.seq ?_
  obtain ⟨r1, h_2, hh0⟩ := bind_some hh0
  refine PC.region ?_
  refine PL.op rfl (Rd.moveT rfl) ?_
  refine PL.callM false [] (w_S_newReader N p_code r1 h_2) rfl Try.call59 rfl ⟨.t _, trivial⟩ rfl trivial (fun h => by cases h) ?_
  refine PL.nm (.op 1 0) [some ⟨.mx [.t (.v (.slice none 0 0))], 25, 0⟩, some ⟨.mx [sL r1.b, iA r1.p], 115, 0⟩] rfl rfl ?_
  refine PL.op rfl (Rd.asnP rfl) ?_
  refine PL.nil ?_
  refine thA_n ?_
  refine PC.seq ?_
  obtain ⟨r3, h_4, hh0⟩ := bind_some hh0
  refine PC.region ?_
  refine PL.op rfl (Rd.moveP rfl) ?_
  refine PL.callM false [1] (w_S_anyPage N r1 r3 h_4) rfl Try.call58 rfl ⟨.op rfl, trivial⟩ rfl ⟨⟨_, rfl, rfl, rfl, .mx ⟨.t _, .t _, trivial⟩⟩, trivial⟩ (fun h => by cases h) ?_
  refine PL.nm (.agg [.os 2 0 r3.1.slots.length]) [some ⟨.mx [.t (.v (.slice none 0 0))], 25, 0⟩, some ⟨.mx [sL r3.2.b, iA r3.2.p], 115, 0⟩, some ⟨.tr (eL r3.1.slots), 35, 2⟩] rfl rfl ?_
  refine PL.ef rfl (Ef.alloc rfl rfl) ?_
  refine PL.nm (.op 3 0) [some ⟨.mx [.t (.v (.slice none 0 0))], 25, 0⟩, some ⟨.mx [sL r3.2.b, iA r3.2.p], 115, 0⟩, some ⟨.tr (eL r3.1.slots), 35, 2⟩, some ⟨.mx [.t (.v (.slice none 0 0))], 25, 0⟩] rfl rfl ?_
  refine PL.store rfl rfl rfl rfl rfl rfl rfl ?_
  refine PL.nO [some ⟨.mx [.t (.v (.slice none 0 0))], 25, 0⟩, some ⟨.mx [sL r3.2.b, iA r3.2.p], 115, 0⟩, some ⟨.tr (eL r3.1.slots), 35, 2⟩, some ⟨.mx [.os 2 0 r3.1.slots.length], 25, 0⟩] rfl ?_
  refine PL.nil ?_
  refine thA_n ?_
  refine PC.seq ?_
  obtain ⟨r5, h_6, hh0⟩ := bind_some hh0
  refine PC.any (id := 3) 3 (.seg [0, 1, 2] .done) [1] rfl (by kernel_rfl) rfl ?_
  refine PT.seg ?_
  refine PR.op rfl (Rd.loadBox rfl rfl rfl) ?_
  refine PR.op rfl (Rd.moveP rfl) ?_
  refine PR.callM false [1] (w_S_someSlot N r3.2 r5 h_6) rfl Try.call69 rfl ⟨.op rfl, trivial⟩ rfl ⟨⟨_, rfl, rfl, rfl, .mx ⟨.t _, .t _, trivial⟩⟩, trivial⟩ (fun h => by cases h) rfl ?_
  refine PR.nm (iA r5.1) [some ⟨.mx [.t (.v (.slice none 0 0))], 25, 0⟩, some ⟨.mx [sL r5.2.b, iA r5.2.p], 115, 0⟩, some ⟨.tr (eL r3.1.slots), 35, 2⟩, some ⟨.mx [.os 2 0 r3.1.slots.length], 25, 0⟩] rfl rfl ?_
  refine PR.nil ?_
  refine PT.done ?_
  refine PL.store rfl rfl rfl rfl rfl rfl rfl ?_
  refine PL.nO [some ⟨.mx [.os 2 0 r3.1.slots.length], 25, 0⟩, some ⟨.mx [sL r5.2.b, iA r5.2.p], 115, 0⟩, some ⟨.tr (eL r3.1.slots), 35, 2⟩, some ⟨.mx [.os 2 0 r3.1.slots.length], 25, 0⟩] rfl ?_
  refine PL.op rfl (Rd.asnT rfl) ?_
  refine PL.nil ?_
  refine thA_n ?_
  refine PC.ret ?_
  obtain rfl := some_in hh0
  exact FinA.mk (r := .tup [.agg [.os 0 0 (((r3.1, r5.1).1.slots).length)], iA ((r3.1, r5.1).2)]) (bl := [⟨.tr (eL ((r3.1, r5.1).1.slots)), 35, 2⟩]) [some 2] (.inl rfl) rfl (rl := [.cell 2 25, .tmp 3]) (.cellN rfl rfl rfl rfl (.tmp .nil)) rfl rfl rfl (.tupL ⟨.aggL ⟨.os rfl, trivial⟩, .t _, trivial⟩) ⟨⟨_, rfl, rfl, rfl, .tr _⟩, trivial⟩ ⟨rfl, rfl⟩

def m_S_DrawClearSlot (N : Nat) (p_code : (List UInt8)) : Option (I_Page × Int) :=
  (m_S_DrawGetSlot N p_code).bind fun r1 =>
  some (r1.1, r1.2)
theorem w_S_DrawClearSlot (N : Nat) (p_code : (List UInt8)) (r : I_Page × Int) (hh0 : m_S_DrawClearSlot N p_code = some r) : FnX Try.prog 31 [] [sL p_code] (RE (.tup [.agg [.os 0 0 r.1.slots.length], iA r.2]) [⟨.tr (eL r.1.slots), 35, 2⟩]) := by
  unfold m_S_DrawClearSlot at hh0
  refine FnX.mk Try.func31 rfl rfl ?_
  intro s hs
  refine PC.seq ?_
  refine PC.region ?_
  refine PL.ef rfl (Ef.alloc rfl rfl) ?_
  refine PL.nm (.op 0 0) [some ⟨.mx [.t (.v (.slice none 0 0))], 25, 0⟩] rfl rfl ?_
  refine PL.op rfl (Rd.asnT rfl) ?_
  refine PL.nil ?_
  refine thA_n ?_
  refine PC.seq ?_
  obtain ⟨r1, h_2, hh0⟩ := bind_some hh0
  refine PC.region ?_
  refine PL.op rfl (Rd.moveT rfl) ?_
  refine PL.callM false [] (w_S_DrawGetSlot N p_code r1 h_2) rfl Try.call71 rfl ⟨.t _, trivial⟩ rfl trivial (fun h => by cases h) ?_
  refine PL.nm (.tup [.agg [.os 1 0 r1.1.slots.length], iA r1.2]) [some ⟨.mx [.t (.v (.slice none 0 0))], 25, 0⟩, some ⟨.tr (eL r1.1.slots), 35, 2⟩] rfl rfl ?_
  refine PL.op rfl (Rd.extract rfl rfl) ?_
  refine PL.op rfl (Rd.extract rfl rfl) ?_
  refine PL.store rfl rfl rfl rfl rfl rfl rfl ?_
  refine PL.nO [some ⟨.mx [.os 1 0 r1.1.slots.length], 25, 0⟩, some ⟨.tr (eL r1.1.slots), 35, 2⟩] rfl ?_
  refine PL.op rfl (Rd.asnT rfl) ?_
  refine PL.nil ?_
  refine thA_n ?_
  refine PC.ret ?_
  obtain rfl := some_in hh0
  exact FinA.mk (r := .tup [.agg [.os 0 0 (((r1.1, r1.2).1.slots).length)], iA ((r1.1, r1.2).2)]) (bl := [⟨.tr (eL ((r1.1, r1.2).1.slots)), 35, 2⟩]) [some 1] (.inl rfl) rfl (rl := [.cell 2 25, .tmp 3]) (.cellN rfl rfl rfl rfl (.tmp .nil)) rfl rfl rfl (.tupL ⟨.aggL ⟨.os rfl, trivial⟩, .t _, trivial⟩) ⟨⟨_, rfl, rfl, rfl, .tr _⟩, trivial⟩ ⟨rfl, rfl⟩

end V
end Go.Proofs.Ytoljdhdfijnjiaa
