/- Space that is drawn. No condition. -/
import Derived.Test.YtambkpacecjheaaSpBa
namespace Go.Proofs.Ytambkpacecjheaa
namespace V
open Enc (enc)
set_option linter.unusedVariables false
set_option linter.unusedSimpArgs false
set_option maxHeartbeats 4000000
set_option maxRecDepth 100000
open Go.RowKit
attribute [local irreducible] thA inA FinA eL

def m_S_reader_spoil (N : Nat) (p_r : S_reader) (p_list : (List Int)) (p_n : Int) : Option ((List Int) × S_reader) :=
  (m_S_copyInts N p_list).bind fun r1 =>
  (m_S_reader_pick N p_r (20 : Int)).bind fun r3 =>
  cond (decide (r3.1 = (0 : Int)))
    ((appM 8 r1 [p_n]).bind fun xs6 =>
    some (xs6, r3.2))
    (cond (decide (r3.1 = (1 : Int)))
      (cond (decide ((0 : Int) < (r1.length : Int)))
        ((V.subM r1 (1 : Int) (r1.length : Int)).bind fun xs10 =>
        some (xs10, r3.2))
        (some (r1, r3.2)))
      (cond (decide (r3.1 = (2 : Int)))
        (cond (decide ((0 : Int) < (r1.length : Int)))
          ((m_S_reader_pick N r3.2 (r1.length : Int)).bind fun r14 =>
          (m_S_reader_one N r14.2 [(-1 : Int), p_n, (0 : Int), (1 : Int)]).bind fun r16 =>
          (ixI r1 r14.1).bind fun x18 =>
          some ((r1.set r14.1.toNat r16.1), r16.2))
          (some (r1, r3.2)))
        (some (r1, r3.2))))
theorem w_S_reader_spoil (N : Nat) (p_r : S_reader) (p_list : (List Int)) (p_n : Int) (r : (List Int) × S_reader) (hh0 : m_S_reader_spoil N p_r p_list p_n = some r) : FnX Try.prog 66 [⟨.mx [sL p_r.b, iA p_r.p], 79, 0⟩] [.op 0 0, sL p_list, iA p_n] (RE (sL r.1) [⟨.mx [sL r.2.b, iA r.2.p], 79, 0⟩]) := by
  unfold m_S_reader_spoil at hh0
  refine FnX.mk Try.func66 rfl rfl ?_
  intro s hs
  refine PC.seq ?_
  refine PC.region ?_
  refine PL.op rfl (Rd.asnT rfl) ?_
  refine PL.nil ?_
  refine thA_n ?_
  refine PC.seq ?_
  obtain ⟨r1, h_2, hh0⟩ := bind_some hh0
  refine PC.region ?_
  refine PL.op rfl (Rd.moveT rfl) ?_
  refine PL.callM false [] (w_S_copyInts N p_list r1 h_2) rfl Try.call55 rfl ⟨.t _, trivial⟩ rfl trivial (fun h => by cases h) ?_
  refine PL.nm (.os 1 0 r1.length) [some ⟨.mx [sL p_r.b, iA p_r.p], 79, 0⟩, some ⟨.tr (eL r1), 3, 1⟩] rfl rfl ?_
  refine PL.op rfl (Rd.asnO rfl) ?_
  refine PL.nil ?_
  refine thA_n ?_
  refine PC.seq ?_
  refine PC.seq ?_
  obtain ⟨r3, h_4, hh0⟩ := bind_some hh0
  refine PC.region ?_
  refine PL.op rfl (Rd.moveP rfl) ?_
  refine PL.callM false [0] (w_S_reader_pick N p_r (20 : Int) r3 h_4) rfl Try.call65 rfl ⟨.op rfl, .t _, trivial⟩ rfl ⟨⟨_, rfl, rfl, rfl, .mx ⟨.t _, .t _, trivial⟩⟩, trivial⟩ (fun h => by cases h) ?_
  refine PL.nm (iA r3.1) [some ⟨.mx [sL r3.2.b, iA r3.2.p], 79, 0⟩, some ⟨.tr (eL r1), 3, 1⟩] rfl rfl ?_
  refine PL.nil ?_
  refine thA_n ?_
  refine PC.block ?_
  refine PC.seq ?_
  refine PC.region ?_
  refine PL.op rfl (Rd.eql rfl rfl) ?_
  refine PL.op rfl (Rd.asnT rfl) ?_
  refine PL.nil ?_
  refine thA_n ?_
  rcases cond_some hh0 with ⟨h_5, hh0⟩ | ⟨h_5, hh0⟩
  · refine PC.cond_true rfl h_5 ?_
    obtain ⟨xs6, h_7, hh0⟩ := bind_some hh0
    refine PC.region ?_
    refine PL.op rfl (Rd.moveO rfl) ?_
    refine PL.op rfl (Rd.moveT rfl) ?_
    refine PL.ef rfl (Ef.litM (α := Int) [p_n] [_] rfl rfl (by decide) rfl rfl rfl rfl) ?_
    refine PL.nm (.os 2 0 1) [some ⟨.mx [sL r3.2.b, iA r3.2.p], 79, 0⟩, some ⟨.tr (eL r1), 3, 1⟩, some ⟨.tr (eL [p_n]), 3, 1⟩] rfl rfl ?_
    refine PL.apM hs rfl rfl rfl rfl (SrcA.ownE rfl rfl rfl) rfl rfl rfl rfl h_7 ?_
    refine PL.nm (.os 3 0 xs6.length) [some ⟨.mx [sL r3.2.b, iA r3.2.p], 79, 0⟩, none, some ⟨.tr (eL [p_n]), 3, 1⟩, some ⟨.tr (eL xs6), 3, 1⟩] rfl rfl ?_
    refine PL.op rfl (Rd.asnO rfl) ?_
    refine PL.nil ?_
    refine inA_n ?_
    refine thA_n ?_
    refine PC.seq ?_
    refine PC.region ?_
    refine PL.op rfl (Rd.moveO rfl) ?_
    refine PL.op rfl (Rd.asnO rfl) ?_
    refine PL.nil ?_
    refine thA_n ?_
    refine PC.ret ?_
    obtain rfl := some_in hh0
    exact FinA.mk (r := sL ((xs6, r3.2).1)) (bl := [⟨.mx [sL ((xs6, r3.2).2.b), iA ((xs6, r3.2).2.p)], 79, 0⟩]) [some 0] (.inl rfl) rfl (rl := [.tmp 6]) (.tmp .nil) rfl rfl rfl (.own rfl (by first | decide | exact List.not_mem_nil) rfl rfl) ⟨⟨_, rfl, rfl, rfl, .mx ⟨.t _, .t _, trivial⟩⟩, trivial⟩ ⟨rfl, rfl⟩
  refine PC.cond_false rfl h_5 ?_
  refine PC.seq ?_
  refine PC.region ?_
  refine PL.op rfl (Rd.eql rfl rfl) ?_
  refine PL.op rfl (Rd.asnT rfl) ?_
  refine PL.nil ?_
  refine thA_n ?_
  rcases cond_some hh0 with ⟨h_8, hh0⟩ | ⟨h_8, hh0⟩
  · refine PC.cond_true rfl h_8 ?_
    refine PC.seq ?_
    refine PC.region ?_
    refine PL.op rfl (Rd.moveO rfl) ?_
    refine PL.op rfl (Rd.lenO rfl rfl) ?_
    refine PL.op rfl (Rd.gtr rfl rfl) ?_
    refine PL.nil ?_
    refine thA_n ?_
    rcases cond_some hh0 with ⟨h_9, hh0⟩ | ⟨h_9, hh0⟩
    rotate_left
    · refine PC.cond_false rfl h_9 ?_
      refine PC.skip ?_
      refine inA_n ?_
      refine thA_n ?_
      refine PC.seq ?_
      refine PC.region ?_
      refine PL.op rfl (Rd.moveO rfl) ?_
      refine PL.op rfl (Rd.asnO rfl) ?_
      refine PL.nil ?_
      refine thA_n ?_
      refine PC.ret ?_
      obtain rfl := some_in hh0
      exact FinA.mk (r := sL ((r1, r3.2).1)) (bl := [⟨.mx [sL ((r1, r3.2).2.b), iA ((r1, r3.2).2.p)], 79, 0⟩]) [some 0] (.inl rfl) rfl (rl := [.tmp 6]) (.tmp .nil) rfl rfl rfl (.own rfl (by first | decide | exact List.not_mem_nil) rfl rfl) ⟨⟨_, rfl, rfl, rfl, .mx ⟨.t _, .t _, trivial⟩⟩, trivial⟩ ⟨rfl, rfl⟩
    refine PC.cond_true rfl h_9 ?_
    obtain ⟨xs10, h_11, hh0⟩ := bind_some hh0
    refine PC.region ?_
    refine PL.op rfl (Rd.moveO rfl) ?_
    refine PL.frz hs 1 2 [(9, sL r1), (7, sL r1), (20, sL r1), (23, sL r1)] [some ⟨.mx [sL r3.2.b, iA r3.2.p], 79, 0⟩, none] rfl rfl ⟨(.own rfl (by decide) rfl rfl), (.own rfl (by decide) rfl rfl), (.own rfl (by decide) rfl rfl), (.own rfl (by decide) rfl rfl), trivial⟩ ⟨⟨rfl, .inl rfl⟩, trivial⟩ ?_
    refine PL.op rfl (Rd.subTML rfl rfl h_11) ?_
    refine PL.nm (sL xs10) [some ⟨.mx [sL r3.2.b, iA r3.2.p], 79, 0⟩, none] rfl rfl ?_
    refine PL.op rfl (Rd.asnT rfl) ?_
    refine PL.nil ?_
    refine inA_n ?_
    refine thA_n ?_
    refine PC.seq ?_
    refine PC.region ?_
    refine PL.op rfl (Rd.moveT rfl) ?_
    refine PL.op rfl (Rd.asnT rfl) ?_
    refine PL.nil ?_
    refine thA_n ?_
    refine PC.ret ?_
    obtain rfl := some_in hh0
    exact FinA.mk (r := sL ((xs10, r3.2).1)) (bl := [⟨.mx [sL ((xs10, r3.2).2.b), iA ((xs10, r3.2).2.p)], 79, 0⟩]) [some 0] (.inl rfl) rfl (rl := [.tmp 6]) (.tmp .nil) rfl rfl rfl (.t _) ⟨⟨_, rfl, rfl, rfl, .mx ⟨.t _, .t _, trivial⟩⟩, trivial⟩ ⟨rfl, rfl⟩
  refine PC.cond_false rfl h_8 ?_
  refine PC.seq ?_
  refine PC.region ?_
  refine PL.op rfl (Rd.eql rfl rfl) ?_
  refine PL.op rfl (Rd.asnT rfl) ?_
  refine PL.nil ?_
  refine thA_n ?_
  rcases cond_some hh0 with ⟨h_12, hh0⟩ | ⟨h_12, hh0⟩
  rotate_left
  · refine PC.cond_false rfl h_12 ?_
    refine PC.skip ?_
    refine inA_n ?_
    refine thA_n ?_
    refine PC.seq ?_
    refine PC.region ?_
    refine PL.op rfl (Rd.moveO rfl) ?_
    refine PL.op rfl (Rd.asnO rfl) ?_
    refine PL.nil ?_
    refine thA_n ?_
    refine PC.ret ?_
    obtain rfl := some_in hh0
    exact FinA.mk (r := sL ((r1, r3.2).1)) (bl := [⟨.mx [sL ((r1, r3.2).2.b), iA ((r1, r3.2).2.p)], 79, 0⟩]) [some 0] (.inl rfl) rfl (rl := [.tmp 6]) (.tmp .nil) rfl rfl rfl (.own rfl (by first | decide | exact List.not_mem_nil) rfl rfl) ⟨⟨_, rfl, rfl, rfl, .mx ⟨.t _, .t _, trivial⟩⟩, trivial⟩ ⟨rfl, rfl⟩
  refine PC.cond_true rfl h_12 ?_
  refine PC.seq ?_
  refine PC.region ?_
  refine PL.op rfl (Rd.moveO rfl) ?_
  refine PL.op rfl (Rd.lenO rfl rfl) ?_
  refine PL.op rfl (Rd.gtr rfl rfl) ?_
  refine PL.nil ?_
  refine thA_n ?_
  rcases cond_some hh0 with ⟨h_13, hh0⟩ | ⟨h_13, hh0⟩
  rotate_left
  · refine PC.cond_false rfl h_13 ?_
    refine PC.skip ?_
    refine inA_n ?_
    refine thA_n ?_
    refine PC.seq ?_
    refine PC.region ?_
    refine PL.op rfl (Rd.moveO rfl) ?_
    refine PL.op rfl (Rd.asnO rfl) ?_
    refine PL.nil ?_
    refine thA_n ?_
    refine PC.ret ?_
    obtain rfl := some_in hh0
    exact FinA.mk (r := sL ((r1, r3.2).1)) (bl := [⟨.mx [sL ((r1, r3.2).2.b), iA ((r1, r3.2).2.p)], 79, 0⟩]) [some 0] (.inl rfl) rfl (rl := [.tmp 6]) (.tmp .nil) rfl rfl rfl (.own rfl (by first | decide | exact List.not_mem_nil) rfl rfl) ⟨⟨_, rfl, rfl, rfl, .mx ⟨.t _, .t _, trivial⟩⟩, trivial⟩ ⟨rfl, rfl⟩
  refine PC.cond_true rfl h_13 ?_
  obtain ⟨r14, h_15, hh0⟩ := bind_some hh0
  obtain ⟨r16, h_17, hh0⟩ := bind_some hh0
  obtain ⟨x18, h_19, hh0⟩ := bind_some hh0
  refine PC.region ?_
  refine PL.op rfl (Rd.moveO rfl) ?_
  refine PL.op rfl (Rd.moveP rfl) ?_
  refine PL.op rfl (Rd.moveO rfl) ?_
  refine PL.op rfl (Rd.lenO rfl rfl) ?_
  refine PL.callM false [0] (w_S_reader_pick N r3.2 (r1.length : Int) r14 h_15) rfl Try.call65 rfl ⟨.op rfl, .t _, trivial⟩ rfl ⟨⟨_, rfl, rfl, rfl, .mx ⟨.t _, .t _, trivial⟩⟩, trivial⟩ (fun h => by cases h) ?_
  refine PL.nm (iA r14.1) [some ⟨.mx [sL r14.2.b, iA r14.2.p], 79, 0⟩, some ⟨.tr (eL r1), 3, 1⟩] rfl rfl ?_
  refine PL.op rfl (Rd.moveP rfl) ?_
  refine PL.op rfl (Rd.moveT rfl) ?_
  refine PL.ef rfl (Ef.litM (α := Int) [(-1 : Int), p_n, (0 : Int), (1 : Int)] [_, _, _, _] rfl rfl (by decide) rfl rfl rfl rfl) ?_
  refine PL.nm (.os 2 0 4) [some ⟨.mx [sL r14.2.b, iA r14.2.p], 79, 0⟩, some ⟨.tr (eL r1), 3, 1⟩, some ⟨.tr (eL [(-1 : Int), p_n, (0 : Int), (1 : Int)]), 3, 1⟩] rfl rfl ?_
  refine PL.frz hs 2 3 [(37, sL [(-1 : Int), p_n, (0 : Int), (1 : Int)])] [some ⟨.mx [sL r14.2.b, iA r14.2.p], 79, 0⟩, some ⟨.tr (eL r1), 3, 1⟩, none] rfl rfl ⟨(.own rfl (by decide) rfl rfl), trivial⟩ ⟨⟨rfl, .inl rfl⟩, ⟨rfl, .inl rfl⟩, trivial⟩ ?_
  refine PL.callM false [0] (w_S_reader_one N r14.2 [(-1 : Int), p_n, (0 : Int), (1 : Int)] r16 h_17) rfl Try.call57 rfl ⟨.op rfl, .t _, trivial⟩ rfl ⟨⟨_, rfl, rfl, rfl, .mx ⟨.t _, .t _, trivial⟩⟩, trivial⟩ (fun h => by cases h) ?_
  refine PL.nm (iA r16.1) [some ⟨.mx [sL r16.2.b, iA r16.2.p], 79, 0⟩, some ⟨.tr (eL r1), 3, 1⟩, none] rfl rfl ?_
  refine PL.op rfl (Rd.ixOM rfl rfl rfl (ixI_lt h_19)) ?_
  refine PL.stRM r16.1 rfl rfl rfl rfl rfl h_19 rfl ?_
  refine PL.nO [some ⟨.mx [sL r16.2.b, iA r16.2.p], 79, 0⟩, some ⟨.tr (eL (r1.set r14.1.toNat r16.1)), 3, 1⟩, none] rfl ?_
  refine PL.nil ?_
  refine inA_n ?_
  refine thA_n ?_
  refine PC.seq ?_
  refine PC.region ?_
  refine PL.op rfl (Rd.moveO rfl) ?_
  refine PL.op rfl (Rd.asnO rfl) ?_
  refine PL.nil ?_
  refine thA_n ?_
  refine PC.ret ?_
  obtain rfl := some_in hh0
  exact FinA.mk (r := sL (((r1.set r14.1.toNat r16.1), r16.2).1)) (bl := [⟨.mx [sL (((r1.set r14.1.toNat r16.1), r16.2).2.b), iA (((r1.set r14.1.toNat r16.1), r16.2).2.p)], 79, 0⟩]) [some 0] (.inl rfl) rfl (rl := [.tmp 6]) (.tmp .nil) rfl rfl rfl (.own rfl (by first | decide | exact List.not_mem_nil) (by simp only [List.length_set]) rfl) ⟨⟨_, rfl, rfl, rfl, .mx ⟨.t _, .t _, trivial⟩⟩, trivial⟩ ⟨rfl, rfl⟩

def m_S_anySpace_k1 (N : Nat) (v71 : (List UInt8)) (v72 : Int) (v73 : Int) (v74 : (List Int)) (v75 : (List I_Hold)) : Option (I_Space × S_reader) :=
  (m_S_reader_pick N (S_reader.mk v71 v72) (20 : Int)).bind fun r81 =>
  cond (decide (r81.1 = (0 : Int)))
    ((m_S_reader_one N r81.2 [(-1 : Int), (17 : Int), (0 : Int)]).bind fun r84 =>
    some ((I_Space.mk r84.1 v74 v75), r84.2))
    (cond (decide (r81.1 = (1 : Int)))
      ((appM 8 v74 [(0 : Int)]).bind fun xs87 =>
      (m_S_reader_spoil N r81.2 xs87 (16 : Int)).bind fun r89 =>
      some ((I_Space.mk v73 r89.1 v75), r89.2))
      (cond (decide (r81.1 = (2 : Int)))
        ((m_S_reader_one N r81.2 [(0 : Int), (1 : Int), (16 : Int)]).bind fun r92 =>
        (m_S_reader_one N r92.2 [(0 : Int), (9999 : Int), (10000 : Int)]).bind fun r94 =>
        (appM 16 v75 [(I_Hold.mk r92.1 r94.1)]).bind fun xs96 =>
        some ((I_Space.mk v73 v74 xs96), r94.2))
        (some ((I_Space.mk v73 v74 v75), r81.2))))
def m_S_anySpace_b1 (N : Nat) (n3 : Int) (used4 : Int) (v5 : (List UInt8)) (v6 : Int) (v7 : Int) (v8 : (List Int)) (v9 : (List I_Hold)) : Option ((Int × Int × (List UInt8) × Int × Int × (List Int) × (List I_Hold)) ⊕ ((List UInt8) × Int × Int × (List Int) × (List I_Hold))) :=
  cond (decide ((0 : Int) < used4))
    ((m_S_PagesInUse N (I_Space.mk v7 v8 v9)).bind fun r99 =>
    cond (decide ((0 : Int) < (r99.length : Int)))
      ((m_S_reader_pick N (S_reader.mk v5 v6) (3 : Int)).bind fun r102 =>
      cond (decide (r102.1 = (0 : Int)))
        ((m_S_reader_pick N r102.2 (4 : Int)).bind fun r105 =>
        (chk (n3 + r105.1)).bind fun n107 =>
        (m_S_reader_pick N r105.2 (r99.length : Int)).bind fun r109 =>
        (ixI r99 r109.1).bind fun x111 =>
        (m_S_HoldPage N (I_Space.mk v7 v8 v9) x111 n107).bind fun r113 =>
        (chk (used4 - (1 : Int))).bind fun n115 =>
        some (.inl (n107, n115, r109.2.b, r109.2.p, r113.1.pages, r113.1.free, r113.1.held)))
        ((m_S_reader_pick N r102.2 (5 : Int)).bind fun r119 =>
        cond (decide (r119.1 = (0 : Int)))
          ((m_S_reader_pick N r119.2 (3 : Int)).bind fun r122 =>
          (chk (n3 - r122.1)).bind fun n124 =>
          (m_S_ReleasePages N (I_Space.mk v7 v8 v9) n124).bind fun r126 =>
          (chk (used4 - (1 : Int))).bind fun n128 =>
          some (.inl (n3, n128, r122.2.b, r122.2.p, r126.pages, r126.free, r126.held)))
          ((m_S_TakePage N (I_Space.mk v7 v8 v9)).bind fun r132 =>
          cond r132.2.2
            ((chk (used4 - (1 : Int))).bind fun n135 =>
            some (.inl (n3, n135, r119.2.b, r119.2.p, r132.1.pages, r132.1.free, r132.1.held)))
            ((chk (used4 - (1 : Int))).bind fun n137 =>
            some (.inl (n3, n137, r119.2.b, r119.2.p, v7, v8, v9))))))
      ((m_S_reader_pick N (S_reader.mk v5 v6) (5 : Int)).bind fun r139 =>
      cond (decide (r139.1 = (0 : Int)))
        ((m_S_reader_pick N r139.2 (3 : Int)).bind fun r142 =>
        (chk (n3 - r142.1)).bind fun n144 =>
        (m_S_ReleasePages N (I_Space.mk v7 v8 v9) n144).bind fun r146 =>
        (chk (used4 - (1 : Int))).bind fun n148 =>
        some (.inl (n3, n148, r142.2.b, r142.2.p, r146.pages, r146.free, r146.held)))
        ((m_S_TakePage N (I_Space.mk v7 v8 v9)).bind fun r152 =>
        cond r152.2.2
          ((chk (used4 - (1 : Int))).bind fun n155 =>
          some (.inl (n3, n155, r139.2.b, r139.2.p, r152.1.pages, r152.1.free, r152.1.held)))
          ((chk (used4 - (1 : Int))).bind fun n157 =>
          some (.inl (n3, n157, r139.2.b, r139.2.p, v7, v8, v9))))))
    (some (.inr (v5, v6, v7, v8, v9)))
def m_S_anySpace (N : Nat) (p_r : S_reader) : Option (I_Space × S_reader) :=
  (m_S_reader_one N p_r [(6 : Int), (10 : Int), (4 : Int), (16 : Int), (0 : Int), (24 : Int)]).bind fun r1 =>
  (loopM (β := (List UInt8) × Int × Int × (List Int) × (List I_Hold)) (fun s : Int × Int × (List UInt8) × Int × Int × (List Int) × (List I_Hold) => m_S_anySpace_b1 N s.1 s.2.1 s.2.2.1 s.2.2.2.1 s.2.2.2.2.1 s.2.2.2.2.2.1 s.2.2.2.2.2.2) N ((0 : Int), r1.1, r1.2.b, r1.2.p, (0 : Int), ([] : List Int), ([] : List I_Hold))).bind fun e =>
  m_S_anySpace_k1 N e.1 e.2.1 e.2.2.1 e.2.2.2.1 e.2.2.2.2
theorem w_S_anySpace (N : Nat) (p_r : S_reader) (r : I_Space × S_reader) (hh0 : m_S_anySpace N p_r = some r) : FnX Try.prog 50 [⟨.mx [sL p_r.b, iA p_r.p], 79, 0⟩] [.op 0 0] (RE (.agg [iA r.1.pages, sL r.1.free, .os 1 0 r.1.held.length]) [⟨.mx [sL r.2.b, iA r.2.p], 79, 0⟩, ⟨.tr (eL r.1.held), 42, 2⟩]) := by
  unfold m_S_anySpace at hh0
  refine FnX.mk Try.func50 rfl rfl ?_
  intro s hs
  refine PC.seq ?_
  refine PC.region ?_
  refine PL.ef rfl (Ef.alloc rfl rfl) ?_
  refine PL.nm (.op 1 0) [some ⟨.mx [sL p_r.b, iA p_r.p], 79, 0⟩, some ⟨.mx [iA (0 : Int), .t (.v (.slice none 0 0)), .t (.v (.slice none 0 0))], 30, 0⟩] rfl rfl ?_
  refine PL.nil ?_
  refine thA_n ?_
  refine PC.seq ?_
  refine PC.region ?_
  refine PL.op rfl (Rd.build rfl rfl rfl rfl) ?_
  refine PL.ef rfl (Ef.alloc rfl rfl) ?_
  refine PL.nm (.op 2 0) [some ⟨.mx [sL p_r.b, iA p_r.p], 79, 0⟩, some ⟨.mx [iA (0 : Int), .t (.v (.slice none 0 0)), .t (.v (.slice none 0 0))], 30, 0⟩, some ⟨.mx [iA (0 : Int), .t (.v (.slice none 0 0)), .t (.v (.slice none 0 0))], 30, 0⟩] rfl rfl ?_
  refine PL.store rfl rfl rfl rfl rfl rfl rfl ?_
  refine PL.nil ?_
  refine thA_n ?_
  refine PC.seq ?_
  refine PC.region ?_
  refine PL.op rfl (Rd.asnT rfl) ?_
  refine PL.nil ?_
  refine thA_n ?_
  refine PC.seq ?_
  refine PC.seq ?_
  obtain ⟨r1, h_2, hh0⟩ := bind_some hh0
  refine PC.region ?_
  refine PL.op rfl (Rd.moveP rfl) ?_
  refine PL.er rfl (Er.ints [(6 : Int), (10 : Int), (4 : Int), (16 : Int), (0 : Int), (24 : Int)] rfl rfl (by decide) rfl) ?_
  refine PL.callM false [0] (w_S_reader_one N p_r [(6 : Int), (10 : Int), (4 : Int), (16 : Int), (0 : Int), (24 : Int)] r1 h_2) rfl Try.call57 rfl ⟨.op rfl, .t _, trivial⟩ rfl ⟨⟨_, rfl, rfl, rfl, .mx ⟨.t _, .t _, trivial⟩⟩, trivial⟩ (fun h => by cases h) ?_
  refine PL.nm (iA r1.1) [some ⟨.mx [sL r1.2.b, iA r1.2.p], 79, 0⟩, some ⟨.mx [iA (0 : Int), .t (.v (.slice none 0 0)), .t (.v (.slice none 0 0))], 30, 0⟩, some ⟨.mx [iA (0 : Int), .t (.v (.slice none 0 0)), .t (.v (.slice none 0 0))], 30, 0⟩] rfl rfl ?_
  refine PL.op rfl (Rd.asnT rfl) ?_
  refine PL.nil ?_
  refine thA_n ?_
  obtain ⟨o76, h_77, hh0⟩ := bind_some hh0
  refine PC.cutE hs (fun x : (List UInt8) × Int × Int × (List Int) × (List I_Hold) => [(0, .op 0 0), (2, .op 1 0), (3, .op 2 0)]) (fun x => [⟨.mx [sL x.1, iA x.2.1], 79, 0⟩, ⟨.mx [iA (0 : Int), .t (.v (.slice none 0 0)), .t (.v (.slice none 0 0))], 30, 0⟩, ⟨.mx [iA x.2.2.1, .os 3 0 x.2.2.2.1.length, .os 4 0 x.2.2.2.2.length], 30, 0⟩, ⟨.tr (eL x.2.2.2.1), 3, 1⟩, ⟨.tr (eL x.2.2.2.2), 42, 2⟩]) (fun x => m_S_anySpace_k1 N x.1 x.2.1 x.2.2.1 x.2.2.2.1 x.2.2.2.2 = some r) ?_ ?_
  · refine PC.block ?_
    refine PC.loop hs (fun x : Nat × (Int × Int × (List UInt8) × Int × Int × (List Int) × (List I_Hold)) => [(0, .op 0 0), (2, .op 1 0), (3, .op 2 0), (4, iA x.2.1), (5, iA x.2.2.1)]) (fun x => [⟨.mx [sL x.2.2.2.1, iA x.2.2.2.2.1], 79, 0⟩, ⟨.mx [iA (0 : Int), .t (.v (.slice none 0 0)), .t (.v (.slice none 0 0))], 30, 0⟩, ⟨.mx [iA x.2.2.2.2.2.1, .os 3 0 x.2.2.2.2.2.2.1.length, .os 4 0 x.2.2.2.2.2.2.2.length], 30, 0⟩, ⟨.tr (eL x.2.2.2.2.2.2.1), 3, 1⟩, ⟨.tr (eL x.2.2.2.2.2.2.2), 42, 2⟩]) (fun x => loopM (β := (List UInt8) × Int × Int × (List Int) × (List I_Hold)) (fun s : Int × Int × (List UInt8) × Int × Int × (List Int) × (List I_Hold) => m_S_anySpace_b1 N s.1 s.2.1 s.2.2.1 s.2.2.2.1 s.2.2.2.2.1 s.2.2.2.2.2.1 s.2.2.2.2.2.2) x.1 x.2 = some o76) (fun x => x.1) (N, ((0 : Int), r1.1, r1.2.b, r1.2.p, (0 : Int), ([] : List Int), ([] : List I_Hold))) [some 0, some 1, some 2, none, none] ⟨rfl, rfl, ⟨⟨_, rfl, rfl, rfl, .mx ⟨.t _, .t _, trivial⟩⟩, ⟨_, rfl, rfl, rfl, .mx ⟨.t _, .t _, .t _, trivial⟩⟩, ⟨_, rfl, rfl, rfl, .mx ⟨.t _, .osn rfl, .osn rfl, trivial⟩⟩, ow_nil _, ow_nil _, trivial⟩, ⟨.op rfl, .op rfl, .op rfl, .t _, .t _, trivial⟩⟩ h_77 ?_
    rintro ⟨f78_, n3, used4, v5, v6, v7, v8, v9⟩ h_80
    obtain ⟨f78, y79, rfl, hh1, kk1⟩ := loopM_some h_80
    replace hh1 : m_S_anySpace_b1 N n3 used4 v5 v6 v7 v8 v9 = some y79 := hh1
    unfold m_S_anySpace_b1 at hh1
    refine PC.seq ?_
    refine PC.seq ?_
    refine PC.region ?_
    refine PL.op rfl (Rd.moveT rfl) ?_
    refine PL.op rfl (Rd.gtr rfl rfl) ?_
    refine PL.nil ?_
    refine thA_n ?_
    rcases cond_some hh1 with ⟨h_98, hh1⟩ | ⟨h_98, hh1⟩
    rotate_left
    · refine PC.cond_false rfl h_98 ?_
      refine PC.exit ?_
      refine thA_e ?_
      refine thA_e ?_
      refine inA_eq rfl ?_
      refine thA_n ?_
      obtain rfl := some_in hh1
      obtain rfl : ((v5, v6, v7, v8, v9) : (List UInt8) × Int × Int × (List Int) × (List I_Hold)) = o76 := kk1
      exact ⟨(v5, v6, v7, v8, v9), hh0, [some 0, some 1, some 2, some 3, some 4], ⟨rfl, rfl, ⟨⟨_, rfl, rfl, rfl, .mx ⟨.t _, .t _, trivial⟩⟩, ⟨_, rfl, rfl, rfl, .mx ⟨.t _, .t _, .t _, trivial⟩⟩, ⟨_, rfl, rfl, rfl, .mx ⟨.t _, .os rfl, .os rfl, trivial⟩⟩, ⟨_, rfl, rfl, rfl, .tr _⟩, ⟨_, rfl, rfl, rfl, .tr _⟩, trivial⟩, ⟨.op rfl, .op rfl, .op rfl, trivial⟩⟩⟩
    refine PC.cond_true rfl h_98 ?_
    refine PC.skip ?_
    refine thA_n ?_
    refine PC.seq ?_
    refine PC.block ?_
    refine PC.seq ?_
    obtain ⟨r99, h_100, hh1⟩ := bind_some hh1
    refine PC.region ?_
    refine PL.op rfl (Rd.loadBox rfl rfl rfl) ?_
    refine PL.callM true [] (w_S_PagesInUse N (I_Space.mk v7 v8 v9) r99 h_100) rfl Try.call19 rfl ⟨.aggL ⟨.t _, .own rfl (by first | decide | exact List.not_mem_nil) rfl rfl, .own rfl (by first | decide | exact List.not_mem_nil) rfl rfl, trivial⟩, trivial⟩ rfl trivial (fun _ => ⟨trivial, (flat_cons flat_ow flat_nil)⟩) ?_
    refine PL.nm (.os 5 0 r99.length) [some ⟨.mx [sL v5, iA v6], 79, 0⟩, some ⟨.mx [iA (0 : Int), .t (.v (.slice none 0 0)), .t (.v (.slice none 0 0))], 30, 0⟩, some ⟨.mx [iA v7, .os 3 0 v8.length, .os 4 0 v9.length], 30, 0⟩, some ⟨.tr (eL v8), 3, 1⟩, some ⟨.tr (eL v9), 42, 2⟩, some ⟨.tr (eL r99), 3, 1⟩] rfl rfl ?_
    refine PL.op rfl (Rd.asnO rfl) ?_
    refine PL.nil ?_
    refine thA_n ?_
    refine PC.block ?_
    refine PC.seq ?_
    rcases cond_some hh1 with ⟨h_101, hh1⟩ | ⟨h_101, hh1⟩
    rotate_left
    · refine PC.region ?_
      refine PL.op rfl (Rd.moveO rfl) ?_
      refine PL.op rfl (Rd.lenO rfl rfl) ?_
      refine PL.op rfl (Rd.gtr rfl rfl) ?_
      refine PL.op rfl (Rd.moveT rfl) ?_
      refine PL.guard_off rfl rfl h_101 ?_
      refine PL.guard_off rfl rfl h_101 ?_
      refine PL.guard_off rfl rfl h_101 ?_
      refine PL.op rfl (Rd.pick_f rfl h_101) ?_
      refine PL.op rfl (Rd.asnT rfl) ?_
      refine PL.nil ?_
      refine thA_n ?_
      refine PC.cond_false rfl rfl ?_
      refine PC.seq ?_
      obtain ⟨r139, h_140, hh1⟩ := bind_some hh1
      refine PC.region ?_
      refine PL.op rfl (Rd.moveP rfl) ?_
      refine PL.callM false [0] (w_S_reader_pick N (S_reader.mk v5 v6) (5 : Int) r139 h_140) rfl Try.call65 rfl ⟨.op rfl, .t _, trivial⟩ rfl ⟨⟨_, rfl, rfl, rfl, .mx ⟨.t _, .t _, trivial⟩⟩, trivial⟩ (fun h => by cases h) ?_
      refine PL.nm (iA r139.1) [some ⟨.mx [sL r139.2.b, iA r139.2.p], 79, 0⟩, some ⟨.mx [iA (0 : Int), .t (.v (.slice none 0 0)), .t (.v (.slice none 0 0))], 30, 0⟩, some ⟨.mx [iA v7, .os 3 0 v8.length, .os 4 0 v9.length], 30, 0⟩, some ⟨.tr (eL v8), 3, 1⟩, some ⟨.tr (eL v9), 42, 2⟩, some ⟨.tr (eL r99), 3, 1⟩] rfl rfl ?_
      refine PL.op rfl (Rd.eql rfl rfl) ?_
      refine PL.op rfl (Rd.asnT rfl) ?_
      refine PL.nil ?_
      refine thA_n ?_
      rcases cond_some hh1 with ⟨h_141, hh1⟩ | ⟨h_141, hh1⟩
      rotate_left
      · refine PC.cond_false rfl h_141 ?_
        refine PC.seq ?_
        obtain ⟨r152, h_153, hh1⟩ := bind_some hh1
        refine PC.region ?_
        refine PL.op rfl (Rd.loadBox rfl rfl rfl) ?_
        refine PL.callM true [] (w_S_TakePage N (I_Space.mk v7 v8 v9) r152 h_153) rfl Try.call32 rfl ⟨.aggL ⟨.t _, .own rfl (by first | decide | exact List.not_mem_nil) rfl rfl, .own rfl (by first | decide | exact List.not_mem_nil) rfl rfl, trivial⟩, trivial⟩ rfl trivial (fun _ => ⟨⟨⟨trivial, trivial, trivial, trivial⟩, trivial, trivial, trivial⟩, (flat_cons flat_ow (flat_cons flat_ow flat_nil))⟩) ?_
        refine PL.nm (.tup [.agg [iA r152.1.pages, .os 6 0 r152.1.free.length, .os 7 0 r152.1.held.length], iA r152.2.1, bA r152.2.2]) [some ⟨.mx [sL r139.2.b, iA r139.2.p], 79, 0⟩, some ⟨.mx [iA (0 : Int), .t (.v (.slice none 0 0)), .t (.v (.slice none 0 0))], 30, 0⟩, some ⟨.mx [iA v7, .os 3 0 v8.length, .os 4 0 v9.length], 30, 0⟩, some ⟨.tr (eL v8), 3, 1⟩, some ⟨.tr (eL v9), 42, 2⟩, some ⟨.tr (eL r99), 3, 1⟩, some ⟨.tr (eL r152.1.free), 3, 1⟩, some ⟨.tr (eL r152.1.held), 42, 2⟩] rfl rfl ?_
        refine PL.op rfl (Rd.moveU rfl) ?_
        refine PL.op rfl (Rd.extract rfl rfl) ?_
        refine PL.op rfl (Rd.extract rfl rfl) ?_
        refine PL.op rfl (Rd.extract rfl rfl) ?_
        refine PL.ef rfl (Ef.alloc rfl rfl) ?_
        refine PL.nm (.op 8 0) [some ⟨.mx [sL r139.2.b, iA r139.2.p], 79, 0⟩, some ⟨.mx [iA (0 : Int), .t (.v (.slice none 0 0)), .t (.v (.slice none 0 0))], 30, 0⟩, some ⟨.mx [iA v7, .os 3 0 v8.length, .os 4 0 v9.length], 30, 0⟩, some ⟨.tr (eL v8), 3, 1⟩, some ⟨.tr (eL v9), 42, 2⟩, some ⟨.tr (eL r99), 3, 1⟩, some ⟨.tr (eL r152.1.free), 3, 1⟩, some ⟨.tr (eL r152.1.held), 42, 2⟩, some ⟨.mx [iA (0 : Int), .t (.v (.slice none 0 0)), .t (.v (.slice none 0 0))], 30, 0⟩] rfl rfl ?_
        refine PL.store rfl rfl rfl rfl rfl rfl rfl ?_
        refine PL.nO [some ⟨.mx [sL r139.2.b, iA r139.2.p], 79, 0⟩, some ⟨.mx [iA (0 : Int), .t (.v (.slice none 0 0)), .t (.v (.slice none 0 0))], 30, 0⟩, some ⟨.mx [iA v7, .os 3 0 v8.length, .os 4 0 v9.length], 30, 0⟩, some ⟨.tr (eL v8), 3, 1⟩, some ⟨.tr (eL v9), 42, 2⟩, some ⟨.tr (eL r99), 3, 1⟩, some ⟨.tr (eL r152.1.free), 3, 1⟩, some ⟨.tr (eL r152.1.held), 42, 2⟩, some ⟨.mx [iA r152.1.pages, .os 6 0 r152.1.free.length, .os 7 0 r152.1.held.length], 30, 0⟩] rfl ?_
        refine PL.op rfl (Rd.asnT rfl) ?_
        refine PL.op rfl (Rd.asnT rfl) ?_
        refine PL.nil ?_
        refine thA_n ?_
        refine PC.seq ?_
        refine PC.region ?_
        refine PL.op rfl (Rd.moveT rfl) ?_
        refine PL.nil ?_
        refine thA_n ?_
        rcases cond_some hh1 with ⟨h_154, hh1⟩ | ⟨h_154, hh1⟩
        rotate_left
        · refine PC.cond_false rfl h_154 ?_
          refine PC.skip ?_
          refine inA_n ?_
          refine inA_n ?_
          refine thA_n ?_
          obtain ⟨n157, h_158, hh1⟩ := bind_some hh1
          refine PC.region ?_
          refine PL.op rfl (Rd.moveT rfl) ?_
          refine PL.op rfl (Rd.subM rfl rfl h_158) ?_
          refine PL.op rfl (Rd.asnT rfl) ?_
          refine PL.nil ?_
          obtain rfl := some_in hh1
          refine thA_n ?_
          exact ⟨(f78, (n3, n157, r139.2.b, r139.2.p, v7, v8, v9)), Nat.lt_succ_self _, kk1, [some 0, some 1, some 2, some 3, some 4], ⟨rfl, rfl, ⟨⟨_, rfl, rfl, rfl, .mx ⟨.t _, .t _, trivial⟩⟩, ⟨_, rfl, rfl, rfl, .mx ⟨.t _, .t _, .t _, trivial⟩⟩, ⟨_, rfl, rfl, rfl, .mx ⟨.t _, .os rfl, .os rfl, trivial⟩⟩, ⟨_, rfl, rfl, rfl, .tr _⟩, ⟨_, rfl, rfl, rfl, .tr _⟩, trivial⟩, ⟨.op rfl, .op rfl, .op rfl, .t _, .t _, trivial⟩⟩⟩
        refine PC.cond_true rfl h_154 ?_
        refine PC.region ?_
        refine PL.op rfl (Rd.loadBox rfl rfl rfl) ?_
        refine PL.store rfl rfl rfl rfl rfl rfl rfl ?_
        refine PL.nO [some ⟨.mx [sL r139.2.b, iA r139.2.p], 79, 0⟩, some ⟨.mx [iA (0 : Int), .t (.v (.slice none 0 0)), .t (.v (.slice none 0 0))], 30, 0⟩, some ⟨.mx [iA r152.1.pages, .os 6 0 r152.1.free.length, .os 7 0 r152.1.held.length], 30, 0⟩, some ⟨.tr (eL v8), 3, 1⟩, some ⟨.tr (eL v9), 42, 2⟩, some ⟨.tr (eL r99), 3, 1⟩, some ⟨.tr (eL r152.1.free), 3, 1⟩, some ⟨.tr (eL r152.1.held), 42, 2⟩, some ⟨.mx [iA r152.1.pages, .os 6 0 r152.1.free.length, .os 7 0 r152.1.held.length], 30, 0⟩] rfl ?_
        refine PL.nil ?_
        refine inA_n ?_
        refine inA_n ?_
        refine thA_n ?_
        obtain ⟨n155, h_156, hh1⟩ := bind_some hh1
        refine PC.region ?_
        refine PL.op rfl (Rd.moveT rfl) ?_
        refine PL.op rfl (Rd.subM rfl rfl h_156) ?_
        refine PL.op rfl (Rd.asnT rfl) ?_
        refine PL.nil ?_
        obtain rfl := some_in hh1
        refine thA_n ?_
        exact ⟨(f78, (n3, n155, r139.2.b, r139.2.p, r152.1.pages, r152.1.free, r152.1.held)), Nat.lt_succ_self _, kk1, [some 0, some 1, some 2, some 6, some 7], ⟨rfl, rfl, ⟨⟨_, rfl, rfl, rfl, .mx ⟨.t _, .t _, trivial⟩⟩, ⟨_, rfl, rfl, rfl, .mx ⟨.t _, .t _, .t _, trivial⟩⟩, ⟨_, rfl, rfl, rfl, .mx ⟨.t _, .os rfl, .os rfl, trivial⟩⟩, ⟨_, rfl, rfl, rfl, .tr _⟩, ⟨_, rfl, rfl, rfl, .tr _⟩, trivial⟩, ⟨.op rfl, .op rfl, .op rfl, .t _, .t _, trivial⟩⟩⟩
      refine PC.cond_true rfl h_141 ?_
      obtain ⟨r142, h_143, hh1⟩ := bind_some hh1
      obtain ⟨n144, h_145, hh1⟩ := bind_some hh1
      obtain ⟨r146, h_147, hh1⟩ := bind_some hh1
      refine PC.any (id := 14) 6 (.seg [1, 2] (.fork (.seg [0, 3, 4, 5] .done) (.seg [3, 4, 0, 5] .done))) [0] rfl (by kernel_rfl) rfl ?_
      refine PT.seg ?_
      refine PR.op rfl (Rd.moveT rfl) ?_
      refine PR.op rfl (Rd.moveP rfl) ?_
      refine PR.nil ?_
      refine PT.fork ?_ ?_
      · refine PT.seg ?_
        refine PR.rdE rfl rfl (Rd.loadBox rfl rfl rfl) ?_
        refine PR.callM false [0] (w_S_reader_pick N r139.2 (3 : Int) r142 h_143) rfl Try.call65 rfl ⟨.op rfl, .t _, trivial⟩ rfl ⟨⟨_, rfl, rfl, rfl, .mx ⟨.t _, .t _, trivial⟩⟩, trivial⟩ (fun h => by cases h) rfl ?_
        refine PR.nm (iA r142.1) [some ⟨.mx [sL r142.2.b, iA r142.2.p], 79, 0⟩, some ⟨.mx [iA (0 : Int), .t (.v (.slice none 0 0)), .t (.v (.slice none 0 0))], 30, 0⟩, some ⟨.mx [iA v7, .os 3 0 v8.length, .os 4 0 v9.length], 30, 0⟩, some ⟨.tr (eL v8), 3, 1⟩, some ⟨.tr (eL v9), 42, 2⟩, some ⟨.tr (eL r99), 3, 1⟩] rfl rfl ?_
        refine PR.op rfl (Rd.subM rfl rfl h_145) ?_
        refine PR.callM true [] (w_S_ReleasePages N (I_Space.mk v7 v8 v9) n144 r146 h_147) rfl Try.call39 rfl ⟨.aggL ⟨.t _, .own rfl (by first | decide | exact List.not_mem_nil) rfl rfl, .own rfl (by first | decide | exact List.not_mem_nil) rfl rfl, trivial⟩, .t _, trivial⟩ rfl trivial (fun _ => ⟨⟨trivial, trivial, trivial, trivial⟩, (flat_cons flat_ow (flat_cons flat_ow flat_nil))⟩) rfl ?_
        refine PR.nm (.agg [iA r146.pages, .os 6 0 r146.free.length, .os 7 0 r146.held.length]) [some ⟨.mx [sL r142.2.b, iA r142.2.p], 79, 0⟩, some ⟨.mx [iA (0 : Int), .t (.v (.slice none 0 0)), .t (.v (.slice none 0 0))], 30, 0⟩, some ⟨.mx [iA v7, .os 3 0 v8.length, .os 4 0 v9.length], 30, 0⟩, some ⟨.tr (eL v8), 3, 1⟩, some ⟨.tr (eL v9), 42, 2⟩, some ⟨.tr (eL r99), 3, 1⟩, some ⟨.tr (eL r146.free), 3, 1⟩, some ⟨.tr (eL r146.held), 42, 2⟩] rfl rfl ?_
        refine PR.nil ?_
        refine PT.done ?_
        refine PL.store rfl rfl rfl rfl rfl rfl rfl ?_
        refine PL.nO [some ⟨.mx [sL r142.2.b, iA r142.2.p], 79, 0⟩, some ⟨.mx [iA (0 : Int), .t (.v (.slice none 0 0)), .t (.v (.slice none 0 0))], 30, 0⟩, some ⟨.mx [iA r146.pages, .os 6 0 r146.free.length, .os 7 0 r146.held.length], 30, 0⟩, some ⟨.tr (eL v8), 3, 1⟩, some ⟨.tr (eL v9), 42, 2⟩, some ⟨.tr (eL r99), 3, 1⟩, some ⟨.tr (eL r146.free), 3, 1⟩, some ⟨.tr (eL r146.held), 42, 2⟩] rfl ?_
        refine PL.nil ?_
        refine inA_n ?_
        refine inA_n ?_
        refine thA_n ?_
        obtain ⟨n148, h_149, hh1⟩ := bind_some hh1
        refine PC.region ?_
        refine PL.op rfl (Rd.moveT rfl) ?_
        refine PL.op rfl (Rd.subM rfl rfl h_149) ?_
        refine PL.op rfl (Rd.asnT rfl) ?_
        refine PL.nil ?_
        obtain rfl := some_in hh1
        refine thA_n ?_
        exact ⟨(f78, (n3, n148, r142.2.b, r142.2.p, r146.pages, r146.free, r146.held)), Nat.lt_succ_self _, kk1, [some 0, some 1, some 2, some 6, some 7], ⟨rfl, rfl, ⟨⟨_, rfl, rfl, rfl, .mx ⟨.t _, .t _, trivial⟩⟩, ⟨_, rfl, rfl, rfl, .mx ⟨.t _, .t _, .t _, trivial⟩⟩, ⟨_, rfl, rfl, rfl, .mx ⟨.t _, .os rfl, .os rfl, trivial⟩⟩, ⟨_, rfl, rfl, rfl, .tr _⟩, ⟨_, rfl, rfl, rfl, .tr _⟩, trivial⟩, ⟨.op rfl, .op rfl, .op rfl, .t _, .t _, trivial⟩⟩⟩
      refine PT.seg ?_
      refine PR.callM false [0] (w_S_reader_pick N r139.2 (3 : Int) r142 h_143) rfl Try.call65 rfl ⟨.op rfl, .t _, trivial⟩ rfl ⟨⟨_, rfl, rfl, rfl, .mx ⟨.t _, .t _, trivial⟩⟩, trivial⟩ (fun h => by cases h) rfl ?_
      refine PR.nm (iA r142.1) [some ⟨.mx [sL r142.2.b, iA r142.2.p], 79, 0⟩, some ⟨.mx [iA (0 : Int), .t (.v (.slice none 0 0)), .t (.v (.slice none 0 0))], 30, 0⟩, some ⟨.mx [iA v7, .os 3 0 v8.length, .os 4 0 v9.length], 30, 0⟩, some ⟨.tr (eL v8), 3, 1⟩, some ⟨.tr (eL v9), 42, 2⟩, some ⟨.tr (eL r99), 3, 1⟩] rfl rfl ?_
      refine PR.op rfl (Rd.subM rfl rfl h_145) ?_
      refine PR.rdE rfl rfl (Rd.loadBox rfl rfl rfl) ?_
      refine PR.callM true [] (w_S_ReleasePages N (I_Space.mk v7 v8 v9) n144 r146 h_147) rfl Try.call39 rfl ⟨.aggL ⟨.t _, .own rfl (by first | decide | exact List.not_mem_nil) rfl rfl, .own rfl (by first | decide | exact List.not_mem_nil) rfl rfl, trivial⟩, .t _, trivial⟩ rfl trivial (fun _ => ⟨⟨trivial, trivial, trivial, trivial⟩, (flat_cons flat_ow (flat_cons flat_ow flat_nil))⟩) rfl ?_
      refine PR.nm (.agg [iA r146.pages, .os 6 0 r146.free.length, .os 7 0 r146.held.length]) [some ⟨.mx [sL r142.2.b, iA r142.2.p], 79, 0⟩, some ⟨.mx [iA (0 : Int), .t (.v (.slice none 0 0)), .t (.v (.slice none 0 0))], 30, 0⟩, some ⟨.mx [iA v7, .os 3 0 v8.length, .os 4 0 v9.length], 30, 0⟩, some ⟨.tr (eL v8), 3, 1⟩, some ⟨.tr (eL v9), 42, 2⟩, some ⟨.tr (eL r99), 3, 1⟩, some ⟨.tr (eL r146.free), 3, 1⟩, some ⟨.tr (eL r146.held), 42, 2⟩] rfl rfl ?_
      refine PR.nil ?_
      refine PT.done ?_
      refine PL.store rfl rfl rfl rfl rfl rfl rfl ?_
      refine PL.nO [some ⟨.mx [sL r142.2.b, iA r142.2.p], 79, 0⟩, some ⟨.mx [iA (0 : Int), .t (.v (.slice none 0 0)), .t (.v (.slice none 0 0))], 30, 0⟩, some ⟨.mx [iA r146.pages, .os 6 0 r146.free.length, .os 7 0 r146.held.length], 30, 0⟩, some ⟨.tr (eL v8), 3, 1⟩, some ⟨.tr (eL v9), 42, 2⟩, some ⟨.tr (eL r99), 3, 1⟩, some ⟨.tr (eL r146.free), 3, 1⟩, some ⟨.tr (eL r146.held), 42, 2⟩] rfl ?_
      refine PL.nil ?_
      refine inA_n ?_
      refine inA_n ?_
      refine thA_n ?_
      obtain ⟨n150, h_151, hh1⟩ := bind_some hh1
      refine PC.region ?_
      refine PL.op rfl (Rd.moveT rfl) ?_
      refine PL.op rfl (Rd.subM rfl rfl h_151) ?_
      refine PL.op rfl (Rd.asnT rfl) ?_
      refine PL.nil ?_
      obtain rfl := some_in hh1
      refine thA_n ?_
      exact ⟨(f78, (n3, n150, r142.2.b, r142.2.p, r146.pages, r146.free, r146.held)), Nat.lt_succ_self _, kk1, [some 0, some 1, some 2, some 6, some 7], ⟨rfl, rfl, ⟨⟨_, rfl, rfl, rfl, .mx ⟨.t _, .t _, trivial⟩⟩, ⟨_, rfl, rfl, rfl, .mx ⟨.t _, .t _, .t _, trivial⟩⟩, ⟨_, rfl, rfl, rfl, .mx ⟨.t _, .os rfl, .os rfl, trivial⟩⟩, ⟨_, rfl, rfl, rfl, .tr _⟩, ⟨_, rfl, rfl, rfl, .tr _⟩, trivial⟩, ⟨.op rfl, .op rfl, .op rfl, .t _, .t _, trivial⟩⟩⟩
    obtain ⟨r102, h_103, hh1⟩ := bind_some hh1
    refine PC.region ?_
    refine PL.op rfl (Rd.moveO rfl) ?_
    refine PL.op rfl (Rd.lenO rfl rfl) ?_
    refine PL.op rfl (Rd.gtr rfl rfl) ?_
    refine PL.op rfl (Rd.moveT rfl) ?_
    refine PL.guard_on rfl h_101 ?_
    refine PL.op rfl (Rd.moveP rfl) ?_
    refine PL.guard_on rfl h_101 ?_
    refine PL.callM false [0] (w_S_reader_pick N (S_reader.mk v5 v6) (3 : Int) r102 h_103) rfl Try.call65 rfl ⟨.op rfl, .t _, trivial⟩ rfl ⟨⟨_, rfl, rfl, rfl, .mx ⟨.t _, .t _, trivial⟩⟩, trivial⟩ (fun h => by cases h) ?_
    refine PL.nm (iA r102.1) [some ⟨.mx [sL r102.2.b, iA r102.2.p], 79, 0⟩, some ⟨.mx [iA (0 : Int), .t (.v (.slice none 0 0)), .t (.v (.slice none 0 0))], 30, 0⟩, some ⟨.mx [iA v7, .os 3 0 v8.length, .os 4 0 v9.length], 30, 0⟩, some ⟨.tr (eL v8), 3, 1⟩, some ⟨.tr (eL v9), 42, 2⟩, some ⟨.tr (eL r99), 3, 1⟩] rfl rfl ?_
    refine PL.guard_on rfl h_101 ?_
    refine PL.op rfl (Rd.eql rfl rfl) ?_
    refine PL.op rfl (Rd.pick_t rfl h_101) ?_
    refine PL.op rfl (Rd.asnT rfl) ?_
    refine PL.nil ?_
    refine thA_n ?_
    rcases cond_some hh1 with ⟨h_104, hh1⟩ | ⟨h_104, hh1⟩
    · refine PC.cond_true rfl h_104 ?_
      refine PC.seq ?_
      obtain ⟨r105, h_106, hh1⟩ := bind_some hh1
      obtain ⟨n107, h_108, hh1⟩ := bind_some hh1
      refine PC.region ?_
      refine PL.op rfl (Rd.moveT rfl) ?_
      refine PL.op rfl (Rd.moveP rfl) ?_
      refine PL.callM false [0] (w_S_reader_pick N r102.2 (4 : Int) r105 h_106) rfl Try.call65 rfl ⟨.op rfl, .t _, trivial⟩ rfl ⟨⟨_, rfl, rfl, rfl, .mx ⟨.t _, .t _, trivial⟩⟩, trivial⟩ (fun h => by cases h) ?_
      refine PL.nm (iA r105.1) [some ⟨.mx [sL r105.2.b, iA r105.2.p], 79, 0⟩, some ⟨.mx [iA (0 : Int), .t (.v (.slice none 0 0)), .t (.v (.slice none 0 0))], 30, 0⟩, some ⟨.mx [iA v7, .os 3 0 v8.length, .os 4 0 v9.length], 30, 0⟩, some ⟨.tr (eL v8), 3, 1⟩, some ⟨.tr (eL v9), 42, 2⟩, some ⟨.tr (eL r99), 3, 1⟩] rfl rfl ?_
      refine PL.op rfl (Rd.addM rfl rfl h_108) ?_
      refine PL.op rfl (Rd.asnT rfl) ?_
      refine PL.nil ?_
      refine thA_n ?_
      obtain ⟨r109, h_110, hh1⟩ := bind_some hh1
      obtain ⟨x111, h_112, hh1⟩ := bind_some hh1
      obtain ⟨r113, h_114, hh1⟩ := bind_some hh1
      refine PC.any (id := 12) 14 (.seg [1, 2, 3, 4, 8] (.fork (.seg [0, 5, 6, 7, 9, 10, 11, 12, 13] .done) (.seg [5, 6, 7, 0, 9, 10, 11, 12, 13] .done))) [0, 2] rfl (by kernel_rfl) rfl ?_
      refine PT.seg ?_
      refine PR.op rfl (Rd.moveO rfl) ?_
      refine PR.op rfl (Rd.moveP rfl) ?_
      refine PR.op rfl (Rd.moveO rfl) ?_
      refine PR.op rfl (Rd.lenO rfl rfl) ?_
      refine PR.op rfl (Rd.moveT rfl) ?_
      refine PR.nil ?_
      refine PT.fork ?_ ?_
      · refine PT.seg ?_
        refine PR.rdE rfl rfl (Rd.loadBox rfl rfl rfl) ?_
        refine PR.callM false [0] (w_S_reader_pick N r105.2 (r99.length : Int) r109 h_110) rfl Try.call65 rfl ⟨.op rfl, .t _, trivial⟩ rfl ⟨⟨_, rfl, rfl, rfl, .mx ⟨.t _, .t _, trivial⟩⟩, trivial⟩ (fun h => by cases h) rfl ?_
        refine PR.nm (iA r109.1) [some ⟨.mx [sL r109.2.b, iA r109.2.p], 79, 0⟩, some ⟨.mx [iA (0 : Int), .t (.v (.slice none 0 0)), .t (.v (.slice none 0 0))], 30, 0⟩, some ⟨.mx [iA v7, .os 3 0 v8.length, .os 4 0 v9.length], 30, 0⟩, some ⟨.tr (eL v8), 3, 1⟩, some ⟨.tr (eL v9), 42, 2⟩, some ⟨.tr (eL r99), 3, 1⟩] rfl rfl ?_
        refine PR.op rfl (Rd.ixOM rfl rfl rfl (ixI_lt h_112)) ?_
        refine PR.op rfl (Rd.owM1 rfl rfl h_112 rfl rfl) ?_
        refine PR.callM true [] (w_S_HoldPage N (I_Space.mk v7 v8 v9) x111 n107 r113 h_114) rfl Try.call27 rfl ⟨.aggL ⟨.t _, .own rfl (by first | decide | exact List.not_mem_nil) rfl rfl, .own rfl (by first | decide | exact List.not_mem_nil) rfl rfl, trivial⟩, .t _, .t _, trivial⟩ rfl trivial (fun _ => ⟨⟨⟨trivial, trivial, trivial, trivial⟩, trivial, trivial⟩, (flat_cons flat_ow (flat_cons flat_ow flat_nil))⟩) rfl ?_
        refine PR.nm (.tup [.agg [iA r113.1.pages, .os 6 0 r113.1.free.length, .os 7 0 r113.1.held.length], bA r113.2]) [some ⟨.mx [sL r109.2.b, iA r109.2.p], 79, 0⟩, some ⟨.mx [iA (0 : Int), .t (.v (.slice none 0 0)), .t (.v (.slice none 0 0))], 30, 0⟩, some ⟨.mx [iA v7, .os 3 0 v8.length, .os 4 0 v9.length], 30, 0⟩, some ⟨.tr (eL v8), 3, 1⟩, some ⟨.tr (eL v9), 42, 2⟩, some ⟨.tr (eL r99), 3, 1⟩, some ⟨.tr (eL r113.1.free), 3, 1⟩, some ⟨.tr (eL r113.1.held), 42, 2⟩] rfl rfl ?_
        refine PR.op rfl (Rd.moveU rfl) ?_
        refine PR.op rfl (Rd.extract rfl rfl) ?_
        refine PR.op rfl (Rd.extract rfl rfl) ?_
        refine PR.store rfl rfl rfl rfl rfl rfl rfl rfl ?_
        refine PR.nO [some ⟨.mx [sL r109.2.b, iA r109.2.p], 79, 0⟩, some ⟨.mx [iA (0 : Int), .t (.v (.slice none 0 0)), .t (.v (.slice none 0 0))], 30, 0⟩, some ⟨.mx [iA r113.1.pages, .os 6 0 r113.1.free.length, .os 7 0 r113.1.held.length], 30, 0⟩, some ⟨.tr (eL v8), 3, 1⟩, some ⟨.tr (eL v9), 42, 2⟩, some ⟨.tr (eL r99), 3, 1⟩, some ⟨.tr (eL r113.1.free), 3, 1⟩, some ⟨.tr (eL r113.1.held), 42, 2⟩] rfl ?_
        refine PR.nil ?_
        refine PT.done ?_
        refine PL.nil ?_
        refine inA_n ?_
        refine inA_n ?_
        refine thA_n ?_
        obtain ⟨n115, h_116, hh1⟩ := bind_some hh1
        refine PC.region ?_
        refine PL.op rfl (Rd.moveT rfl) ?_
        refine PL.op rfl (Rd.subM rfl rfl h_116) ?_
        refine PL.op rfl (Rd.asnT rfl) ?_
        refine PL.nil ?_
        obtain rfl := some_in hh1
        refine thA_n ?_
        exact ⟨(f78, (n107, n115, r109.2.b, r109.2.p, r113.1.pages, r113.1.free, r113.1.held)), Nat.lt_succ_self _, kk1, [some 0, some 1, some 2, some 6, some 7], ⟨rfl, rfl, ⟨⟨_, rfl, rfl, rfl, .mx ⟨.t _, .t _, trivial⟩⟩, ⟨_, rfl, rfl, rfl, .mx ⟨.t _, .t _, .t _, trivial⟩⟩, ⟨_, rfl, rfl, rfl, .mx ⟨.t _, .os rfl, .os rfl, trivial⟩⟩, ⟨_, rfl, rfl, rfl, .tr _⟩, ⟨_, rfl, rfl, rfl, .tr _⟩, trivial⟩, ⟨.op rfl, .op rfl, .op rfl, .t _, .t _, trivial⟩⟩⟩
      refine PT.seg ?_
      refine PR.callM false [0] (w_S_reader_pick N r105.2 (r99.length : Int) r109 h_110) rfl Try.call65 rfl ⟨.op rfl, .t _, trivial⟩ rfl ⟨⟨_, rfl, rfl, rfl, .mx ⟨.t _, .t _, trivial⟩⟩, trivial⟩ (fun h => by cases h) rfl ?_
      refine PR.nm (iA r109.1) [some ⟨.mx [sL r109.2.b, iA r109.2.p], 79, 0⟩, some ⟨.mx [iA (0 : Int), .t (.v (.slice none 0 0)), .t (.v (.slice none 0 0))], 30, 0⟩, some ⟨.mx [iA v7, .os 3 0 v8.length, .os 4 0 v9.length], 30, 0⟩, some ⟨.tr (eL v8), 3, 1⟩, some ⟨.tr (eL v9), 42, 2⟩, some ⟨.tr (eL r99), 3, 1⟩] rfl rfl ?_
      refine PR.op rfl (Rd.ixOM rfl rfl rfl (ixI_lt h_112)) ?_
      refine PR.op rfl (Rd.owM1 rfl rfl h_112 rfl rfl) ?_
      refine PR.rdE rfl rfl (Rd.loadBox rfl rfl rfl) ?_
      refine PR.callM true [] (w_S_HoldPage N (I_Space.mk v7 v8 v9) x111 n107 r113 h_114) rfl Try.call27 rfl ⟨.aggL ⟨.t _, .own rfl (by first | decide | exact List.not_mem_nil) rfl rfl, .own rfl (by first | decide | exact List.not_mem_nil) rfl rfl, trivial⟩, .t _, .t _, trivial⟩ rfl trivial (fun _ => ⟨⟨⟨trivial, trivial, trivial, trivial⟩, trivial, trivial⟩, (flat_cons flat_ow (flat_cons flat_ow flat_nil))⟩) rfl ?_
      refine PR.nm (.tup [.agg [iA r113.1.pages, .os 6 0 r113.1.free.length, .os 7 0 r113.1.held.length], bA r113.2]) [some ⟨.mx [sL r109.2.b, iA r109.2.p], 79, 0⟩, some ⟨.mx [iA (0 : Int), .t (.v (.slice none 0 0)), .t (.v (.slice none 0 0))], 30, 0⟩, some ⟨.mx [iA v7, .os 3 0 v8.length, .os 4 0 v9.length], 30, 0⟩, some ⟨.tr (eL v8), 3, 1⟩, some ⟨.tr (eL v9), 42, 2⟩, some ⟨.tr (eL r99), 3, 1⟩, some ⟨.tr (eL r113.1.free), 3, 1⟩, some ⟨.tr (eL r113.1.held), 42, 2⟩] rfl rfl ?_
      refine PR.op rfl (Rd.moveU rfl) ?_
      refine PR.op rfl (Rd.extract rfl rfl) ?_
      refine PR.op rfl (Rd.extract rfl rfl) ?_
      refine PR.store rfl rfl rfl rfl rfl rfl rfl rfl ?_
      refine PR.nO [some ⟨.mx [sL r109.2.b, iA r109.2.p], 79, 0⟩, some ⟨.mx [iA (0 : Int), .t (.v (.slice none 0 0)), .t (.v (.slice none 0 0))], 30, 0⟩, some ⟨.mx [iA r113.1.pages, .os 6 0 r113.1.free.length, .os 7 0 r113.1.held.length], 30, 0⟩, some ⟨.tr (eL v8), 3, 1⟩, some ⟨.tr (eL v9), 42, 2⟩, some ⟨.tr (eL r99), 3, 1⟩, some ⟨.tr (eL r113.1.free), 3, 1⟩, some ⟨.tr (eL r113.1.held), 42, 2⟩] rfl ?_
      refine PR.nil ?_
      refine PT.done ?_
      refine PL.nil ?_
      refine inA_n ?_
      refine inA_n ?_
      refine thA_n ?_
      obtain ⟨n117, h_118, hh1⟩ := bind_some hh1
      refine PC.region ?_
      refine PL.op rfl (Rd.moveT rfl) ?_
      refine PL.op rfl (Rd.subM rfl rfl h_118) ?_
      refine PL.op rfl (Rd.asnT rfl) ?_
      refine PL.nil ?_
      obtain rfl := some_in hh1
      refine thA_n ?_
      exact ⟨(f78, (n107, n117, r109.2.b, r109.2.p, r113.1.pages, r113.1.free, r113.1.held)), Nat.lt_succ_self _, kk1, [some 0, some 1, some 2, some 6, some 7], ⟨rfl, rfl, ⟨⟨_, rfl, rfl, rfl, .mx ⟨.t _, .t _, trivial⟩⟩, ⟨_, rfl, rfl, rfl, .mx ⟨.t _, .t _, .t _, trivial⟩⟩, ⟨_, rfl, rfl, rfl, .mx ⟨.t _, .os rfl, .os rfl, trivial⟩⟩, ⟨_, rfl, rfl, rfl, .tr _⟩, ⟨_, rfl, rfl, rfl, .tr _⟩, trivial⟩, ⟨.op rfl, .op rfl, .op rfl, .t _, .t _, trivial⟩⟩⟩
    refine PC.cond_false rfl h_104 ?_
    refine PC.seq ?_
    obtain ⟨r119, h_120, hh1⟩ := bind_some hh1
    refine PC.region ?_
    refine PL.op rfl (Rd.moveP rfl) ?_
    refine PL.callM false [0] (w_S_reader_pick N r102.2 (5 : Int) r119 h_120) rfl Try.call65 rfl ⟨.op rfl, .t _, trivial⟩ rfl ⟨⟨_, rfl, rfl, rfl, .mx ⟨.t _, .t _, trivial⟩⟩, trivial⟩ (fun h => by cases h) ?_
    refine PL.nm (iA r119.1) [some ⟨.mx [sL r119.2.b, iA r119.2.p], 79, 0⟩, some ⟨.mx [iA (0 : Int), .t (.v (.slice none 0 0)), .t (.v (.slice none 0 0))], 30, 0⟩, some ⟨.mx [iA v7, .os 3 0 v8.length, .os 4 0 v9.length], 30, 0⟩, some ⟨.tr (eL v8), 3, 1⟩, some ⟨.tr (eL v9), 42, 2⟩, some ⟨.tr (eL r99), 3, 1⟩] rfl rfl ?_
    refine PL.op rfl (Rd.eql rfl rfl) ?_
    refine PL.op rfl (Rd.asnT rfl) ?_
    refine PL.nil ?_
    refine thA_n ?_
    rcases cond_some hh1 with ⟨h_121, hh1⟩ | ⟨h_121, hh1⟩
    rotate_left
    · refine PC.cond_false rfl h_121 ?_
      refine PC.seq ?_
      obtain ⟨r132, h_133, hh1⟩ := bind_some hh1
      refine PC.region ?_
      refine PL.op rfl (Rd.loadBox rfl rfl rfl) ?_
      refine PL.callM true [] (w_S_TakePage N (I_Space.mk v7 v8 v9) r132 h_133) rfl Try.call32 rfl ⟨.aggL ⟨.t _, .own rfl (by first | decide | exact List.not_mem_nil) rfl rfl, .own rfl (by first | decide | exact List.not_mem_nil) rfl rfl, trivial⟩, trivial⟩ rfl trivial (fun _ => ⟨⟨⟨trivial, trivial, trivial, trivial⟩, trivial, trivial, trivial⟩, (flat_cons flat_ow (flat_cons flat_ow flat_nil))⟩) ?_
      refine PL.nm (.tup [.agg [iA r132.1.pages, .os 6 0 r132.1.free.length, .os 7 0 r132.1.held.length], iA r132.2.1, bA r132.2.2]) [some ⟨.mx [sL r119.2.b, iA r119.2.p], 79, 0⟩, some ⟨.mx [iA (0 : Int), .t (.v (.slice none 0 0)), .t (.v (.slice none 0 0))], 30, 0⟩, some ⟨.mx [iA v7, .os 3 0 v8.length, .os 4 0 v9.length], 30, 0⟩, some ⟨.tr (eL v8), 3, 1⟩, some ⟨.tr (eL v9), 42, 2⟩, some ⟨.tr (eL r99), 3, 1⟩, some ⟨.tr (eL r132.1.free), 3, 1⟩, some ⟨.tr (eL r132.1.held), 42, 2⟩] rfl rfl ?_
      refine PL.op rfl (Rd.moveU rfl) ?_
      refine PL.op rfl (Rd.extract rfl rfl) ?_
      refine PL.op rfl (Rd.extract rfl rfl) ?_
      refine PL.op rfl (Rd.extract rfl rfl) ?_
      refine PL.ef rfl (Ef.alloc rfl rfl) ?_
      refine PL.nm (.op 8 0) [some ⟨.mx [sL r119.2.b, iA r119.2.p], 79, 0⟩, some ⟨.mx [iA (0 : Int), .t (.v (.slice none 0 0)), .t (.v (.slice none 0 0))], 30, 0⟩, some ⟨.mx [iA v7, .os 3 0 v8.length, .os 4 0 v9.length], 30, 0⟩, some ⟨.tr (eL v8), 3, 1⟩, some ⟨.tr (eL v9), 42, 2⟩, some ⟨.tr (eL r99), 3, 1⟩, some ⟨.tr (eL r132.1.free), 3, 1⟩, some ⟨.tr (eL r132.1.held), 42, 2⟩, some ⟨.mx [iA (0 : Int), .t (.v (.slice none 0 0)), .t (.v (.slice none 0 0))], 30, 0⟩] rfl rfl ?_
      refine PL.store rfl rfl rfl rfl rfl rfl rfl ?_
      refine PL.nO [some ⟨.mx [sL r119.2.b, iA r119.2.p], 79, 0⟩, some ⟨.mx [iA (0 : Int), .t (.v (.slice none 0 0)), .t (.v (.slice none 0 0))], 30, 0⟩, some ⟨.mx [iA v7, .os 3 0 v8.length, .os 4 0 v9.length], 30, 0⟩, some ⟨.tr (eL v8), 3, 1⟩, some ⟨.tr (eL v9), 42, 2⟩, some ⟨.tr (eL r99), 3, 1⟩, some ⟨.tr (eL r132.1.free), 3, 1⟩, some ⟨.tr (eL r132.1.held), 42, 2⟩, some ⟨.mx [iA r132.1.pages, .os 6 0 r132.1.free.length, .os 7 0 r132.1.held.length], 30, 0⟩] rfl ?_
      refine PL.op rfl (Rd.asnT rfl) ?_
      refine PL.op rfl (Rd.asnT rfl) ?_
      refine PL.nil ?_
      refine thA_n ?_
      refine PC.seq ?_
      refine PC.region ?_
      refine PL.op rfl (Rd.moveT rfl) ?_
      refine PL.nil ?_
      refine thA_n ?_
      rcases cond_some hh1 with ⟨h_134, hh1⟩ | ⟨h_134, hh1⟩
      rotate_left
      · refine PC.cond_false rfl h_134 ?_
        refine PC.skip ?_
        refine inA_n ?_
        refine inA_n ?_
        refine thA_n ?_
        obtain ⟨n137, h_138, hh1⟩ := bind_some hh1
        refine PC.region ?_
        refine PL.op rfl (Rd.moveT rfl) ?_
        refine PL.op rfl (Rd.subM rfl rfl h_138) ?_
        refine PL.op rfl (Rd.asnT rfl) ?_
        refine PL.nil ?_
        obtain rfl := some_in hh1
        refine thA_n ?_
        exact ⟨(f78, (n3, n137, r119.2.b, r119.2.p, v7, v8, v9)), Nat.lt_succ_self _, kk1, [some 0, some 1, some 2, some 3, some 4], ⟨rfl, rfl, ⟨⟨_, rfl, rfl, rfl, .mx ⟨.t _, .t _, trivial⟩⟩, ⟨_, rfl, rfl, rfl, .mx ⟨.t _, .t _, .t _, trivial⟩⟩, ⟨_, rfl, rfl, rfl, .mx ⟨.t _, .os rfl, .os rfl, trivial⟩⟩, ⟨_, rfl, rfl, rfl, .tr _⟩, ⟨_, rfl, rfl, rfl, .tr _⟩, trivial⟩, ⟨.op rfl, .op rfl, .op rfl, .t _, .t _, trivial⟩⟩⟩
      refine PC.cond_true rfl h_134 ?_
      refine PC.region ?_
      refine PL.op rfl (Rd.loadBox rfl rfl rfl) ?_
      refine PL.store rfl rfl rfl rfl rfl rfl rfl ?_
      refine PL.nO [some ⟨.mx [sL r119.2.b, iA r119.2.p], 79, 0⟩, some ⟨.mx [iA (0 : Int), .t (.v (.slice none 0 0)), .t (.v (.slice none 0 0))], 30, 0⟩, some ⟨.mx [iA r132.1.pages, .os 6 0 r132.1.free.length, .os 7 0 r132.1.held.length], 30, 0⟩, some ⟨.tr (eL v8), 3, 1⟩, some ⟨.tr (eL v9), 42, 2⟩, some ⟨.tr (eL r99), 3, 1⟩, some ⟨.tr (eL r132.1.free), 3, 1⟩, some ⟨.tr (eL r132.1.held), 42, 2⟩, some ⟨.mx [iA r132.1.pages, .os 6 0 r132.1.free.length, .os 7 0 r132.1.held.length], 30, 0⟩] rfl ?_
      refine PL.nil ?_
      refine inA_n ?_
      refine inA_n ?_
      refine thA_n ?_
      obtain ⟨n135, h_136, hh1⟩ := bind_some hh1
      refine PC.region ?_
      refine PL.op rfl (Rd.moveT rfl) ?_
      refine PL.op rfl (Rd.subM rfl rfl h_136) ?_
      refine PL.op rfl (Rd.asnT rfl) ?_
      refine PL.nil ?_
      obtain rfl := some_in hh1
      refine thA_n ?_
      exact ⟨(f78, (n3, n135, r119.2.b, r119.2.p, r132.1.pages, r132.1.free, r132.1.held)), Nat.lt_succ_self _, kk1, [some 0, some 1, some 2, some 6, some 7], ⟨rfl, rfl, ⟨⟨_, rfl, rfl, rfl, .mx ⟨.t _, .t _, trivial⟩⟩, ⟨_, rfl, rfl, rfl, .mx ⟨.t _, .t _, .t _, trivial⟩⟩, ⟨_, rfl, rfl, rfl, .mx ⟨.t _, .os rfl, .os rfl, trivial⟩⟩, ⟨_, rfl, rfl, rfl, .tr _⟩, ⟨_, rfl, rfl, rfl, .tr _⟩, trivial⟩, ⟨.op rfl, .op rfl, .op rfl, .t _, .t _, trivial⟩⟩⟩
    refine PC.cond_true rfl h_121 ?_
    obtain ⟨r122, h_123, hh1⟩ := bind_some hh1
    obtain ⟨n124, h_125, hh1⟩ := bind_some hh1
    obtain ⟨r126, h_127, hh1⟩ := bind_some hh1
    refine PC.any (id := 14) 6 (.seg [1, 2] (.fork (.seg [0, 3, 4, 5] .done) (.seg [3, 4, 0, 5] .done))) [0] rfl (by kernel_rfl) rfl ?_
    refine PT.seg ?_
    refine PR.op rfl (Rd.moveT rfl) ?_
    refine PR.op rfl (Rd.moveP rfl) ?_
    refine PR.nil ?_
    refine PT.fork ?_ ?_
    · refine PT.seg ?_
      refine PR.rdE rfl rfl (Rd.loadBox rfl rfl rfl) ?_
      refine PR.callM false [0] (w_S_reader_pick N r119.2 (3 : Int) r122 h_123) rfl Try.call65 rfl ⟨.op rfl, .t _, trivial⟩ rfl ⟨⟨_, rfl, rfl, rfl, .mx ⟨.t _, .t _, trivial⟩⟩, trivial⟩ (fun h => by cases h) rfl ?_
      refine PR.nm (iA r122.1) [some ⟨.mx [sL r122.2.b, iA r122.2.p], 79, 0⟩, some ⟨.mx [iA (0 : Int), .t (.v (.slice none 0 0)), .t (.v (.slice none 0 0))], 30, 0⟩, some ⟨.mx [iA v7, .os 3 0 v8.length, .os 4 0 v9.length], 30, 0⟩, some ⟨.tr (eL v8), 3, 1⟩, some ⟨.tr (eL v9), 42, 2⟩, some ⟨.tr (eL r99), 3, 1⟩] rfl rfl ?_
      refine PR.op rfl (Rd.subM rfl rfl h_125) ?_
      refine PR.callM true [] (w_S_ReleasePages N (I_Space.mk v7 v8 v9) n124 r126 h_127) rfl Try.call39 rfl ⟨.aggL ⟨.t _, .own rfl (by first | decide | exact List.not_mem_nil) rfl rfl, .own rfl (by first | decide | exact List.not_mem_nil) rfl rfl, trivial⟩, .t _, trivial⟩ rfl trivial (fun _ => ⟨⟨trivial, trivial, trivial, trivial⟩, (flat_cons flat_ow (flat_cons flat_ow flat_nil))⟩) rfl ?_
      refine PR.nm (.agg [iA r126.pages, .os 6 0 r126.free.length, .os 7 0 r126.held.length]) [some ⟨.mx [sL r122.2.b, iA r122.2.p], 79, 0⟩, some ⟨.mx [iA (0 : Int), .t (.v (.slice none 0 0)), .t (.v (.slice none 0 0))], 30, 0⟩, some ⟨.mx [iA v7, .os 3 0 v8.length, .os 4 0 v9.length], 30, 0⟩, some ⟨.tr (eL v8), 3, 1⟩, some ⟨.tr (eL v9), 42, 2⟩, some ⟨.tr (eL r99), 3, 1⟩, some ⟨.tr (eL r126.free), 3, 1⟩, some ⟨.tr (eL r126.held), 42, 2⟩] rfl rfl ?_
      refine PR.nil ?_
      refine PT.done ?_
      refine PL.store rfl rfl rfl rfl rfl rfl rfl ?_
      refine PL.nO [some ⟨.mx [sL r122.2.b, iA r122.2.p], 79, 0⟩, some ⟨.mx [iA (0 : Int), .t (.v (.slice none 0 0)), .t (.v (.slice none 0 0))], 30, 0⟩, some ⟨.mx [iA r126.pages, .os 6 0 r126.free.length, .os 7 0 r126.held.length], 30, 0⟩, some ⟨.tr (eL v8), 3, 1⟩, some ⟨.tr (eL v9), 42, 2⟩, some ⟨.tr (eL r99), 3, 1⟩, some ⟨.tr (eL r126.free), 3, 1⟩, some ⟨.tr (eL r126.held), 42, 2⟩] rfl ?_
      refine PL.nil ?_
      refine inA_n ?_
      refine inA_n ?_
      refine thA_n ?_
      obtain ⟨n128, h_129, hh1⟩ := bind_some hh1
      refine PC.region ?_
      refine PL.op rfl (Rd.moveT rfl) ?_
      refine PL.op rfl (Rd.subM rfl rfl h_129) ?_
      refine PL.op rfl (Rd.asnT rfl) ?_
      refine PL.nil ?_
      obtain rfl := some_in hh1
      refine thA_n ?_
      exact ⟨(f78, (n3, n128, r122.2.b, r122.2.p, r126.pages, r126.free, r126.held)), Nat.lt_succ_self _, kk1, [some 0, some 1, some 2, some 6, some 7], ⟨rfl, rfl, ⟨⟨_, rfl, rfl, rfl, .mx ⟨.t _, .t _, trivial⟩⟩, ⟨_, rfl, rfl, rfl, .mx ⟨.t _, .t _, .t _, trivial⟩⟩, ⟨_, rfl, rfl, rfl, .mx ⟨.t _, .os rfl, .os rfl, trivial⟩⟩, ⟨_, rfl, rfl, rfl, .tr _⟩, ⟨_, rfl, rfl, rfl, .tr _⟩, trivial⟩, ⟨.op rfl, .op rfl, .op rfl, .t _, .t _, trivial⟩⟩⟩
    refine PT.seg ?_
    refine PR.callM false [0] (w_S_reader_pick N r119.2 (3 : Int) r122 h_123) rfl Try.call65 rfl ⟨.op rfl, .t _, trivial⟩ rfl ⟨⟨_, rfl, rfl, rfl, .mx ⟨.t _, .t _, trivial⟩⟩, trivial⟩ (fun h => by cases h) rfl ?_
    refine PR.nm (iA r122.1) [some ⟨.mx [sL r122.2.b, iA r122.2.p], 79, 0⟩, some ⟨.mx [iA (0 : Int), .t (.v (.slice none 0 0)), .t (.v (.slice none 0 0))], 30, 0⟩, some ⟨.mx [iA v7, .os 3 0 v8.length, .os 4 0 v9.length], 30, 0⟩, some ⟨.tr (eL v8), 3, 1⟩, some ⟨.tr (eL v9), 42, 2⟩, some ⟨.tr (eL r99), 3, 1⟩] rfl rfl ?_
    refine PR.op rfl (Rd.subM rfl rfl h_125) ?_
    refine PR.rdE rfl rfl (Rd.loadBox rfl rfl rfl) ?_
    refine PR.callM true [] (w_S_ReleasePages N (I_Space.mk v7 v8 v9) n124 r126 h_127) rfl Try.call39 rfl ⟨.aggL ⟨.t _, .own rfl (by first | decide | exact List.not_mem_nil) rfl rfl, .own rfl (by first | decide | exact List.not_mem_nil) rfl rfl, trivial⟩, .t _, trivial⟩ rfl trivial (fun _ => ⟨⟨trivial, trivial, trivial, trivial⟩, (flat_cons flat_ow (flat_cons flat_ow flat_nil))⟩) rfl ?_
    refine PR.nm (.agg [iA r126.pages, .os 6 0 r126.free.length, .os 7 0 r126.held.length]) [some ⟨.mx [sL r122.2.b, iA r122.2.p], 79, 0⟩, some ⟨.mx [iA (0 : Int), .t (.v (.slice none 0 0)), .t (.v (.slice none 0 0))], 30, 0⟩, some ⟨.mx [iA v7, .os 3 0 v8.length, .os 4 0 v9.length], 30, 0⟩, some ⟨.tr (eL v8), 3, 1⟩, some ⟨.tr (eL v9), 42, 2⟩, some ⟨.tr (eL r99), 3, 1⟩, some ⟨.tr (eL r126.free), 3, 1⟩, some ⟨.tr (eL r126.held), 42, 2⟩] rfl rfl ?_
    refine PR.nil ?_
    refine PT.done ?_
    refine PL.store rfl rfl rfl rfl rfl rfl rfl ?_
    refine PL.nO [some ⟨.mx [sL r122.2.b, iA r122.2.p], 79, 0⟩, some ⟨.mx [iA (0 : Int), .t (.v (.slice none 0 0)), .t (.v (.slice none 0 0))], 30, 0⟩, some ⟨.mx [iA r126.pages, .os 6 0 r126.free.length, .os 7 0 r126.held.length], 30, 0⟩, some ⟨.tr (eL v8), 3, 1⟩, some ⟨.tr (eL v9), 42, 2⟩, some ⟨.tr (eL r99), 3, 1⟩, some ⟨.tr (eL r126.free), 3, 1⟩, some ⟨.tr (eL r126.held), 42, 2⟩] rfl ?_
    refine PL.nil ?_
    refine inA_n ?_
    refine inA_n ?_
    refine thA_n ?_
    obtain ⟨n130, h_131, hh1⟩ := bind_some hh1
    refine PC.region ?_
    refine PL.op rfl (Rd.moveT rfl) ?_
    refine PL.op rfl (Rd.subM rfl rfl h_131) ?_
    refine PL.op rfl (Rd.asnT rfl) ?_
    refine PL.nil ?_
    obtain rfl := some_in hh1
    refine thA_n ?_
    exact ⟨(f78, (n3, n130, r122.2.b, r122.2.p, r126.pages, r126.free, r126.held)), Nat.lt_succ_self _, kk1, [some 0, some 1, some 2, some 6, some 7], ⟨rfl, rfl, ⟨⟨_, rfl, rfl, rfl, .mx ⟨.t _, .t _, trivial⟩⟩, ⟨_, rfl, rfl, rfl, .mx ⟨.t _, .t _, .t _, trivial⟩⟩, ⟨_, rfl, rfl, rfl, .mx ⟨.t _, .os rfl, .os rfl, trivial⟩⟩, ⟨_, rfl, rfl, rfl, .tr _⟩, ⟨_, rfl, rfl, rfl, .tr _⟩, trivial⟩, ⟨.op rfl, .op rfl, .op rfl, .t _, .t _, trivial⟩⟩⟩
  clear hh0
  rintro ⟨v71, v72, v73, v74, v75⟩ hh0
  replace hh0 : m_S_anySpace_k1 N v71 v72 v73 v74 v75 = some r := hh0
  unfold m_S_anySpace_k1 at hh0
  refine thA_n ?_
  refine PC.seq ?_
  refine PC.seq ?_
  obtain ⟨r81, h_82, hh0⟩ := bind_some hh0
  refine PC.region ?_
  refine PL.op rfl (Rd.moveP rfl) ?_
  refine PL.callM false [0] (w_S_reader_pick N (S_reader.mk v71 v72) (20 : Int) r81 h_82) rfl Try.call65 rfl ⟨.op rfl, .t _, trivial⟩ rfl ⟨⟨_, rfl, rfl, rfl, .mx ⟨.t _, .t _, trivial⟩⟩, trivial⟩ (fun h => by cases h) ?_
  refine PL.nm (iA r81.1) [some ⟨.mx [sL r81.2.b, iA r81.2.p], 79, 0⟩, some ⟨.mx [iA (0 : Int), .t (.v (.slice none 0 0)), .t (.v (.slice none 0 0))], 30, 0⟩, some ⟨.mx [iA v73, .os 3 0 v74.length, .os 4 0 v75.length], 30, 0⟩, some ⟨.tr (eL v74), 3, 1⟩, some ⟨.tr (eL v75), 42, 2⟩] rfl rfl ?_
  refine PL.nil ?_
  refine thA_n ?_
  refine PC.block ?_
  refine PC.seq ?_
  refine PC.region ?_
  refine PL.op rfl (Rd.eql rfl rfl) ?_
  refine PL.op rfl (Rd.asnT rfl) ?_
  refine PL.nil ?_
  refine thA_n ?_
  rcases cond_some hh0 with ⟨h_83, hh0⟩ | ⟨h_83, hh0⟩
  · refine PC.cond_true rfl h_83 ?_
    obtain ⟨r84, h_85, hh0⟩ := bind_some hh0
    refine PC.region ?_
    refine PL.op rfl (Rd.moveP rfl) ?_
    refine PL.er rfl (Er.ints [(-1 : Int), (17 : Int), (0 : Int)] rfl rfl (by decide) rfl) ?_
    refine PL.callM false [0] (w_S_reader_one N r81.2 [(-1 : Int), (17 : Int), (0 : Int)] r84 h_85) rfl Try.call57 rfl ⟨.op rfl, .t _, trivial⟩ rfl ⟨⟨_, rfl, rfl, rfl, .mx ⟨.t _, .t _, trivial⟩⟩, trivial⟩ (fun h => by cases h) ?_
    refine PL.nm (iA r84.1) [some ⟨.mx [sL r84.2.b, iA r84.2.p], 79, 0⟩, some ⟨.mx [iA (0 : Int), .t (.v (.slice none 0 0)), .t (.v (.slice none 0 0))], 30, 0⟩, some ⟨.mx [iA v73, .os 3 0 v74.length, .os 4 0 v75.length], 30, 0⟩, some ⟨.tr (eL v74), 3, 1⟩, some ⟨.tr (eL v75), 42, 2⟩] rfl rfl ?_
    refine PL.op rfl (Rd.fieldO rfl rfl) ?_
    refine PL.store rfl rfl rfl rfl rfl rfl rfl ?_
    refine PL.nO [some ⟨.mx [sL r84.2.b, iA r84.2.p], 79, 0⟩, some ⟨.mx [iA (0 : Int), .t (.v (.slice none 0 0)), .t (.v (.slice none 0 0))], 30, 0⟩, some ⟨.mx [iA r84.1, .os 3 0 v74.length, .os 4 0 v75.length], 30, 0⟩, some ⟨.tr (eL v74), 3, 1⟩, some ⟨.tr (eL v75), 42, 2⟩] rfl ?_
    refine PL.nil ?_
    refine inA_n ?_
    refine thA_n ?_
    refine PC.seq ?_
    refine PC.region ?_
    refine PL.op rfl (Rd.loadBox rfl rfl rfl) ?_
    refine PL.store rfl rfl rfl rfl rfl rfl rfl ?_
    refine PL.nO [some ⟨.mx [sL r84.2.b, iA r84.2.p], 79, 0⟩, some ⟨.mx [iA r84.1, .os 3 0 v74.length, .os 4 0 v75.length], 30, 0⟩, some ⟨.mx [iA r84.1, .os 3 0 v74.length, .os 4 0 v75.length], 30, 0⟩, some ⟨.tr (eL v74), 3, 1⟩, some ⟨.tr (eL v75), 42, 2⟩] rfl ?_
    refine PL.nil ?_
    refine thA_n ?_
    refine PC.ret ?_
    obtain rfl := some_in hh0
    exact FinA.mk (r := .agg [iA (((I_Space.mk r84.1 v74 v75), r84.2).1.pages), sL (((I_Space.mk r84.1 v74 v75), r84.2).1.free), .os 1 0 ((((I_Space.mk r84.1 v74 v75), r84.2).1.held).length)]) (bl := [⟨.mx [sL (((I_Space.mk r84.1 v74 v75), r84.2).2.b), iA (((I_Space.mk r84.1 v74 v75), r84.2).2.p)], 79, 0⟩, ⟨.tr (eL (((I_Space.mk r84.1 v74 v75), r84.2).1.held)), 42, 2⟩]) [some 0, some 4] (.inl rfl) rfl (rl := [.cell 2 30]) (.cellN rfl rfl rfl rfl .nil) rfl rfl rfl (.aggL ⟨.t _, .own rfl (by first | decide | exact List.not_mem_nil) rfl rfl, .os rfl, trivial⟩) ⟨⟨_, rfl, rfl, rfl, .mx ⟨.t _, .t _, trivial⟩⟩, ⟨_, rfl, rfl, rfl, .tr _⟩, trivial⟩ ⟨rfl, rfl⟩
  refine PC.cond_false rfl h_83 ?_
  refine PC.seq ?_
  refine PC.region ?_
  refine PL.op rfl (Rd.eql rfl rfl) ?_
  refine PL.op rfl (Rd.asnT rfl) ?_
  refine PL.nil ?_
  refine thA_n ?_
  rcases cond_some hh0 with ⟨h_86, hh0⟩ | ⟨h_86, hh0⟩
  · refine PC.cond_true rfl h_86 ?_
    obtain ⟨xs87, h_88, hh0⟩ := bind_some hh0
    obtain ⟨r89, h_90, hh0⟩ := bind_some hh0
    refine PC.region ?_
    refine PL.op rfl (Rd.moveP rfl) ?_
    refine PL.op rfl (Rd.fieldO rfl rfl) ?_
    refine PL.op rfl (Rd.loadO rfl rfl rfl) ?_
    refine PL.ef rfl (Ef.litM (α := Int) [(0 : Int)] [_] rfl rfl (by decide) rfl rfl rfl rfl) ?_
    refine PL.nm (.os 5 0 1) [some ⟨.mx [sL r81.2.b, iA r81.2.p], 79, 0⟩, some ⟨.mx [iA (0 : Int), .t (.v (.slice none 0 0)), .t (.v (.slice none 0 0))], 30, 0⟩, some ⟨.mx [iA v73, .os 3 0 v74.length, .os 4 0 v75.length], 30, 0⟩, some ⟨.tr (eL v74), 3, 1⟩, some ⟨.tr (eL v75), 42, 2⟩, some ⟨.tr (eL [(0 : Int)]), 3, 1⟩] rfl rfl ?_
    refine PL.apM hs rfl rfl rfl rfl (SrcA.ownE rfl rfl rfl) rfl rfl rfl rfl h_88 ?_
    refine PL.nm (.os 6 0 xs87.length) [some ⟨.mx [sL r81.2.b, iA r81.2.p], 79, 0⟩, some ⟨.mx [iA (0 : Int), .t (.v (.slice none 0 0)), .t (.v (.slice none 0 0))], 30, 0⟩, some ⟨.mx [iA v73, .os 3 0 v74.length, .os 4 0 v75.length], 30, 0⟩, none, some ⟨.tr (eL v75), 42, 2⟩, some ⟨.tr (eL [(0 : Int)]), 3, 1⟩, some ⟨.tr (eL xs87), 3, 1⟩] rfl rfl ?_
    refine PL.frz hs 6 7 [(78, sL xs87)] [some ⟨.mx [sL r81.2.b, iA r81.2.p], 79, 0⟩, some ⟨.mx [iA (0 : Int), .t (.v (.slice none 0 0)), .t (.v (.slice none 0 0))], 30, 0⟩, some ⟨.mx [iA v73, .os 3 0 v74.length, .os 4 0 v75.length], 30, 0⟩, none, some ⟨.tr (eL v75), 42, 2⟩, some ⟨.tr (eL [(0 : Int)]), 3, 1⟩, none] rfl rfl ⟨(.own rfl (by decide) rfl rfl), trivial⟩ ⟨⟨rfl, .inl rfl⟩, ⟨rfl, .inl rfl⟩, ⟨rfl, .inl rfl⟩, ⟨rfl, .inl rfl⟩, ⟨rfl, .inl rfl⟩, trivial⟩ ?_
    refine PL.callM false [0] (w_S_reader_spoil N r81.2 xs87 (16 : Int) r89 h_90) rfl Try.call66 rfl ⟨.op rfl, .t _, .t _, trivial⟩ rfl ⟨⟨_, rfl, rfl, rfl, .mx ⟨.t _, .t _, trivial⟩⟩, trivial⟩ (fun h => by cases h) ?_
    refine PL.nm (sL r89.1) [some ⟨.mx [sL r89.2.b, iA r89.2.p], 79, 0⟩, some ⟨.mx [iA (0 : Int), .t (.v (.slice none 0 0)), .t (.v (.slice none 0 0))], 30, 0⟩, some ⟨.mx [iA v73, .os 3 0 v74.length, .os 4 0 v75.length], 30, 0⟩, none, some ⟨.tr (eL v75), 42, 2⟩, some ⟨.tr (eL [(0 : Int)]), 3, 1⟩, none] rfl rfl ?_
    refine PL.op rfl (Rd.fieldO rfl rfl) ?_
    refine PL.store rfl rfl rfl rfl rfl rfl rfl ?_
    refine PL.nO [some ⟨.mx [sL r89.2.b, iA r89.2.p], 79, 0⟩, some ⟨.mx [iA (0 : Int), .t (.v (.slice none 0 0)), .t (.v (.slice none 0 0))], 30, 0⟩, some ⟨.mx [iA v73, sL r89.1, .os 4 0 v75.length], 30, 0⟩, none, some ⟨.tr (eL v75), 42, 2⟩, some ⟨.tr (eL [(0 : Int)]), 3, 1⟩, none] rfl ?_
    refine PL.nil ?_
    refine inA_n ?_
    refine thA_n ?_
    refine PC.seq ?_
    refine PC.region ?_
    refine PL.op rfl (Rd.loadBox rfl rfl rfl) ?_
    refine PL.store rfl rfl rfl rfl rfl rfl rfl ?_
    refine PL.nO [some ⟨.mx [sL r89.2.b, iA r89.2.p], 79, 0⟩, some ⟨.mx [iA v73, sL r89.1, .os 4 0 v75.length], 30, 0⟩, some ⟨.mx [iA v73, sL r89.1, .os 4 0 v75.length], 30, 0⟩, none, some ⟨.tr (eL v75), 42, 2⟩, some ⟨.tr (eL [(0 : Int)]), 3, 1⟩, none] rfl ?_
    refine PL.nil ?_
    refine thA_n ?_
    refine PC.ret ?_
    obtain rfl := some_in hh0
    exact FinA.mk (r := .agg [iA (((I_Space.mk v73 r89.1 v75), r89.2).1.pages), sL (((I_Space.mk v73 r89.1 v75), r89.2).1.free), .os 1 0 ((((I_Space.mk v73 r89.1 v75), r89.2).1.held).length)]) (bl := [⟨.mx [sL (((I_Space.mk v73 r89.1 v75), r89.2).2.b), iA (((I_Space.mk v73 r89.1 v75), r89.2).2.p)], 79, 0⟩, ⟨.tr (eL (((I_Space.mk v73 r89.1 v75), r89.2).1.held)), 42, 2⟩]) [some 0, some 4] (.inl rfl) rfl (rl := [.cell 2 30]) (.cellN rfl rfl rfl rfl .nil) rfl rfl rfl (.aggL ⟨.t _, .t _, .os rfl, trivial⟩) ⟨⟨_, rfl, rfl, rfl, .mx ⟨.t _, .t _, trivial⟩⟩, ⟨_, rfl, rfl, rfl, .tr _⟩, trivial⟩ ⟨rfl, rfl⟩
  refine PC.cond_false rfl h_86 ?_
  refine PC.seq ?_
  refine PC.region ?_
  refine PL.op rfl (Rd.eql rfl rfl) ?_
  refine PL.op rfl (Rd.asnT rfl) ?_
  refine PL.nil ?_
  refine thA_n ?_
  rcases cond_some hh0 with ⟨h_91, hh0⟩ | ⟨h_91, hh0⟩
  rotate_left
  · refine PC.cond_false rfl h_91 ?_
    refine PC.skip ?_
    refine inA_n ?_
    refine thA_n ?_
    refine PC.seq ?_
    refine PC.region ?_
    refine PL.op rfl (Rd.loadBox rfl rfl rfl) ?_
    refine PL.store rfl rfl rfl rfl rfl rfl rfl ?_
    refine PL.nO [some ⟨.mx [sL r81.2.b, iA r81.2.p], 79, 0⟩, some ⟨.mx [iA v73, .os 3 0 v74.length, .os 4 0 v75.length], 30, 0⟩, some ⟨.mx [iA v73, .os 3 0 v74.length, .os 4 0 v75.length], 30, 0⟩, some ⟨.tr (eL v74), 3, 1⟩, some ⟨.tr (eL v75), 42, 2⟩] rfl ?_
    refine PL.nil ?_
    refine thA_n ?_
    refine PC.ret ?_
    obtain rfl := some_in hh0
    exact FinA.mk (r := .agg [iA (((I_Space.mk v73 v74 v75), r81.2).1.pages), sL (((I_Space.mk v73 v74 v75), r81.2).1.free), .os 1 0 ((((I_Space.mk v73 v74 v75), r81.2).1.held).length)]) (bl := [⟨.mx [sL (((I_Space.mk v73 v74 v75), r81.2).2.b), iA (((I_Space.mk v73 v74 v75), r81.2).2.p)], 79, 0⟩, ⟨.tr (eL (((I_Space.mk v73 v74 v75), r81.2).1.held)), 42, 2⟩]) [some 0, some 4] (.inl rfl) rfl (rl := [.cell 2 30]) (.cellN rfl rfl rfl rfl .nil) rfl rfl rfl (.aggL ⟨.t _, .own rfl (by first | decide | exact List.not_mem_nil) rfl rfl, .os rfl, trivial⟩) ⟨⟨_, rfl, rfl, rfl, .mx ⟨.t _, .t _, trivial⟩⟩, ⟨_, rfl, rfl, rfl, .tr _⟩, trivial⟩ ⟨rfl, rfl⟩
  refine PC.cond_true rfl h_91 ?_
  obtain ⟨r92, h_93, hh0⟩ := bind_some hh0
  obtain ⟨r94, h_95, hh0⟩ := bind_some hh0
  obtain ⟨xs96, h_97, hh0⟩ := bind_some hh0
  refine PC.any (id := 21) 10 (.seg [0, 1, 2, 5] (.fork (.seg [3] (.fork (.seg [4, 6, 7, 8, 9] .done) (.seg [6, 4, 7, 8, 9] .done))) (.seg [6, 3, 4, 7, 8, 9] .done))) [0] rfl (by kernel_rfl) rfl ?_
  refine PT.seg ?_
  refine PR.op rfl (Rd.fieldO rfl rfl) ?_
  refine PR.op rfl (Rd.loadO rfl rfl rfl) ?_
  refine PR.op rfl (Rd.moveP rfl) ?_
  refine PR.op rfl (Rd.moveP rfl) ?_
  refine PR.nil ?_
  refine PT.fork ?_ ?_
  rotate_left
  · refine PT.seg ?_
    refine PR.er rfl rfl (Er.ints [(0 : Int), (9999 : Int), (10000 : Int)] rfl rfl (by decide) rfl) ?_
    refine PR.er rfl rfl (Er.ints [(0 : Int), (1 : Int), (16 : Int)] rfl rfl (by decide) rfl) ?_
    refine PR.callM false [0] (w_S_reader_one N r81.2 [(0 : Int), (1 : Int), (16 : Int)] r92 h_93) rfl Try.call57 rfl ⟨.op rfl, .t _, trivial⟩ rfl ⟨⟨_, rfl, rfl, rfl, .mx ⟨.t _, .t _, trivial⟩⟩, trivial⟩ (fun h => by cases h) rfl ?_
    refine PR.nm (iA r92.1) [some ⟨.mx [sL r92.2.b, iA r92.2.p], 79, 0⟩, some ⟨.mx [iA (0 : Int), .t (.v (.slice none 0 0)), .t (.v (.slice none 0 0))], 30, 0⟩, some ⟨.mx [iA v73, .os 3 0 v74.length, .os 4 0 v75.length], 30, 0⟩, some ⟨.tr (eL v74), 3, 1⟩, some ⟨.tr (eL v75), 42, 2⟩] rfl rfl ?_
    refine PR.callM false [0] (w_S_reader_one N r92.2 [(0 : Int), (9999 : Int), (10000 : Int)] r94 h_95) rfl Try.call57 rfl ⟨.op rfl, .t _, trivial⟩ rfl ⟨⟨_, rfl, rfl, rfl, .mx ⟨.t _, .t _, trivial⟩⟩, trivial⟩ (fun h => by cases h) rfl ?_
    refine PR.nm (iA r94.1) [some ⟨.mx [sL r94.2.b, iA r94.2.p], 79, 0⟩, some ⟨.mx [iA (0 : Int), .t (.v (.slice none 0 0)), .t (.v (.slice none 0 0))], 30, 0⟩, some ⟨.mx [iA v73, .os 3 0 v74.length, .os 4 0 v75.length], 30, 0⟩, some ⟨.tr (eL v74), 3, 1⟩, some ⟨.tr (eL v75), 42, 2⟩] rfl rfl ?_
    refine PR.op rfl (Rd.build rfl rfl rfl rfl) ?_
    refine PR.ef rfl rfl (Ef.litM (α := I_Hold) [(I_Hold.mk r92.1 r94.1)] [_] rfl rfl (by decide) rfl rfl rfl rfl) ?_
    refine PR.nm (.os 5 0 1) [some ⟨.mx [sL r94.2.b, iA r94.2.p], 79, 0⟩, some ⟨.mx [iA (0 : Int), .t (.v (.slice none 0 0)), .t (.v (.slice none 0 0))], 30, 0⟩, some ⟨.mx [iA v73, .os 3 0 v74.length, .os 4 0 v75.length], 30, 0⟩, some ⟨.tr (eL v74), 3, 1⟩, some ⟨.tr (eL v75), 42, 2⟩, some ⟨.tr (eL [(I_Hold.mk r92.1 r94.1)]), 42, 2⟩] rfl rfl ?_
    refine PR.nil ?_
    refine PT.done ?_
    refine PL.apM hs rfl rfl rfl rfl (SrcA.ownE rfl rfl rfl) rfl rfl rfl rfl h_97 ?_
    refine PL.nm (.os 6 0 xs96.length) [some ⟨.mx [sL r94.2.b, iA r94.2.p], 79, 0⟩, some ⟨.mx [iA (0 : Int), .t (.v (.slice none 0 0)), .t (.v (.slice none 0 0))], 30, 0⟩, some ⟨.mx [iA v73, .os 3 0 v74.length, .os 4 0 v75.length], 30, 0⟩, some ⟨.tr (eL v74), 3, 1⟩, none, some ⟨.tr (eL [(I_Hold.mk r92.1 r94.1)]), 42, 2⟩, some ⟨.tr (eL xs96), 42, 2⟩] rfl rfl ?_
    refine PL.op rfl (Rd.fieldO rfl rfl) ?_
    refine PL.store rfl rfl rfl rfl rfl rfl rfl ?_
    refine PL.nO [some ⟨.mx [sL r94.2.b, iA r94.2.p], 79, 0⟩, some ⟨.mx [iA (0 : Int), .t (.v (.slice none 0 0)), .t (.v (.slice none 0 0))], 30, 0⟩, some ⟨.mx [iA v73, .os 3 0 v74.length, .os 6 0 xs96.length], 30, 0⟩, some ⟨.tr (eL v74), 3, 1⟩, none, some ⟨.tr (eL [(I_Hold.mk r92.1 r94.1)]), 42, 2⟩, some ⟨.tr (eL xs96), 42, 2⟩] rfl ?_
    refine PL.nil ?_
    refine inA_n ?_
    refine thA_n ?_
    refine PC.seq ?_
    refine PC.region ?_
    refine PL.op rfl (Rd.loadBox rfl rfl rfl) ?_
    refine PL.store rfl rfl rfl rfl rfl rfl rfl ?_
    refine PL.nO [some ⟨.mx [sL r94.2.b, iA r94.2.p], 79, 0⟩, some ⟨.mx [iA v73, .os 3 0 v74.length, .os 6 0 xs96.length], 30, 0⟩, some ⟨.mx [iA v73, .os 3 0 v74.length, .os 6 0 xs96.length], 30, 0⟩, some ⟨.tr (eL v74), 3, 1⟩, none, some ⟨.tr (eL [(I_Hold.mk r92.1 r94.1)]), 42, 2⟩, some ⟨.tr (eL xs96), 42, 2⟩] rfl ?_
    refine PL.nil ?_
    refine thA_n ?_
    refine PC.ret ?_
    obtain rfl := some_in hh0
    exact FinA.mk (r := .agg [iA (((I_Space.mk v73 v74 xs96), r94.2).1.pages), sL (((I_Space.mk v73 v74 xs96), r94.2).1.free), .os 1 0 ((((I_Space.mk v73 v74 xs96), r94.2).1.held).length)]) (bl := [⟨.mx [sL (((I_Space.mk v73 v74 xs96), r94.2).2.b), iA (((I_Space.mk v73 v74 xs96), r94.2).2.p)], 79, 0⟩, ⟨.tr (eL (((I_Space.mk v73 v74 xs96), r94.2).1.held)), 42, 2⟩]) [some 0, some 6] (.inl rfl) rfl (rl := [.cell 2 30]) (.cellN rfl rfl rfl rfl .nil) rfl rfl rfl (.aggL ⟨.t _, .own rfl (by first | decide | exact List.not_mem_nil) rfl rfl, .os rfl, trivial⟩) ⟨⟨_, rfl, rfl, rfl, .mx ⟨.t _, .t _, trivial⟩⟩, ⟨_, rfl, rfl, rfl, .tr _⟩, trivial⟩ ⟨rfl, rfl⟩
  refine PT.seg ?_
  refine PR.er rfl rfl (Er.ints [(0 : Int), (1 : Int), (16 : Int)] rfl rfl (by decide) rfl) ?_
  refine PR.nil ?_
  refine PT.fork ?_ ?_
  · refine PT.seg ?_
    refine PR.callM false [0] (w_S_reader_one N r81.2 [(0 : Int), (1 : Int), (16 : Int)] r92 h_93) rfl Try.call57 rfl ⟨.op rfl, .t _, trivial⟩ rfl ⟨⟨_, rfl, rfl, rfl, .mx ⟨.t _, .t _, trivial⟩⟩, trivial⟩ (fun h => by cases h) rfl ?_
    refine PR.nm (iA r92.1) [some ⟨.mx [sL r92.2.b, iA r92.2.p], 79, 0⟩, some ⟨.mx [iA (0 : Int), .t (.v (.slice none 0 0)), .t (.v (.slice none 0 0))], 30, 0⟩, some ⟨.mx [iA v73, .os 3 0 v74.length, .os 4 0 v75.length], 30, 0⟩, some ⟨.tr (eL v74), 3, 1⟩, some ⟨.tr (eL v75), 42, 2⟩] rfl rfl ?_
    refine PR.er rfl rfl (Er.ints [(0 : Int), (9999 : Int), (10000 : Int)] rfl rfl (by decide) rfl) ?_
    refine PR.callM false [0] (w_S_reader_one N r92.2 [(0 : Int), (9999 : Int), (10000 : Int)] r94 h_95) rfl Try.call57 rfl ⟨.op rfl, .t _, trivial⟩ rfl ⟨⟨_, rfl, rfl, rfl, .mx ⟨.t _, .t _, trivial⟩⟩, trivial⟩ (fun h => by cases h) rfl ?_
    refine PR.nm (iA r94.1) [some ⟨.mx [sL r94.2.b, iA r94.2.p], 79, 0⟩, some ⟨.mx [iA (0 : Int), .t (.v (.slice none 0 0)), .t (.v (.slice none 0 0))], 30, 0⟩, some ⟨.mx [iA v73, .os 3 0 v74.length, .os 4 0 v75.length], 30, 0⟩, some ⟨.tr (eL v74), 3, 1⟩, some ⟨.tr (eL v75), 42, 2⟩] rfl rfl ?_
    refine PR.op rfl (Rd.build rfl rfl rfl rfl) ?_
    refine PR.ef rfl rfl (Ef.litM (α := I_Hold) [(I_Hold.mk r92.1 r94.1)] [_] rfl rfl (by decide) rfl rfl rfl rfl) ?_
    refine PR.nm (.os 5 0 1) [some ⟨.mx [sL r94.2.b, iA r94.2.p], 79, 0⟩, some ⟨.mx [iA (0 : Int), .t (.v (.slice none 0 0)), .t (.v (.slice none 0 0))], 30, 0⟩, some ⟨.mx [iA v73, .os 3 0 v74.length, .os 4 0 v75.length], 30, 0⟩, some ⟨.tr (eL v74), 3, 1⟩, some ⟨.tr (eL v75), 42, 2⟩, some ⟨.tr (eL [(I_Hold.mk r92.1 r94.1)]), 42, 2⟩] rfl rfl ?_
    refine PR.nil ?_
    refine PT.done ?_
    refine PL.apM hs rfl rfl rfl rfl (SrcA.ownE rfl rfl rfl) rfl rfl rfl rfl h_97 ?_
    refine PL.nm (.os 6 0 xs96.length) [some ⟨.mx [sL r94.2.b, iA r94.2.p], 79, 0⟩, some ⟨.mx [iA (0 : Int), .t (.v (.slice none 0 0)), .t (.v (.slice none 0 0))], 30, 0⟩, some ⟨.mx [iA v73, .os 3 0 v74.length, .os 4 0 v75.length], 30, 0⟩, some ⟨.tr (eL v74), 3, 1⟩, none, some ⟨.tr (eL [(I_Hold.mk r92.1 r94.1)]), 42, 2⟩, some ⟨.tr (eL xs96), 42, 2⟩] rfl rfl ?_
    refine PL.op rfl (Rd.fieldO rfl rfl) ?_
    refine PL.store rfl rfl rfl rfl rfl rfl rfl ?_
    refine PL.nO [some ⟨.mx [sL r94.2.b, iA r94.2.p], 79, 0⟩, some ⟨.mx [iA (0 : Int), .t (.v (.slice none 0 0)), .t (.v (.slice none 0 0))], 30, 0⟩, some ⟨.mx [iA v73, .os 3 0 v74.length, .os 6 0 xs96.length], 30, 0⟩, some ⟨.tr (eL v74), 3, 1⟩, none, some ⟨.tr (eL [(I_Hold.mk r92.1 r94.1)]), 42, 2⟩, some ⟨.tr (eL xs96), 42, 2⟩] rfl ?_
    refine PL.nil ?_
    refine inA_n ?_
    refine thA_n ?_
    refine PC.seq ?_
    refine PC.region ?_
    refine PL.op rfl (Rd.loadBox rfl rfl rfl) ?_
    refine PL.store rfl rfl rfl rfl rfl rfl rfl ?_
    refine PL.nO [some ⟨.mx [sL r94.2.b, iA r94.2.p], 79, 0⟩, some ⟨.mx [iA v73, .os 3 0 v74.length, .os 6 0 xs96.length], 30, 0⟩, some ⟨.mx [iA v73, .os 3 0 v74.length, .os 6 0 xs96.length], 30, 0⟩, some ⟨.tr (eL v74), 3, 1⟩, none, some ⟨.tr (eL [(I_Hold.mk r92.1 r94.1)]), 42, 2⟩, some ⟨.tr (eL xs96), 42, 2⟩] rfl ?_
    refine PL.nil ?_
    refine thA_n ?_
    refine PC.ret ?_
    obtain rfl := some_in hh0
    exact FinA.mk (r := .agg [iA (((I_Space.mk v73 v74 xs96), r94.2).1.pages), sL (((I_Space.mk v73 v74 xs96), r94.2).1.free), .os 1 0 ((((I_Space.mk v73 v74 xs96), r94.2).1.held).length)]) (bl := [⟨.mx [sL (((I_Space.mk v73 v74 xs96), r94.2).2.b), iA (((I_Space.mk v73 v74 xs96), r94.2).2.p)], 79, 0⟩, ⟨.tr (eL (((I_Space.mk v73 v74 xs96), r94.2).1.held)), 42, 2⟩]) [some 0, some 6] (.inl rfl) rfl (rl := [.cell 2 30]) (.cellN rfl rfl rfl rfl .nil) rfl rfl rfl (.aggL ⟨.t _, .own rfl (by first | decide | exact List.not_mem_nil) rfl rfl, .os rfl, trivial⟩) ⟨⟨_, rfl, rfl, rfl, .mx ⟨.t _, .t _, trivial⟩⟩, ⟨_, rfl, rfl, rfl, .tr _⟩, trivial⟩ ⟨rfl, rfl⟩
  refine PT.seg ?_
  refine PR.er rfl rfl (Er.ints [(0 : Int), (9999 : Int), (10000 : Int)] rfl rfl (by decide) rfl) ?_
  refine PR.callM false [0] (w_S_reader_one N r81.2 [(0 : Int), (1 : Int), (16 : Int)] r92 h_93) rfl Try.call57 rfl ⟨.op rfl, .t _, trivial⟩ rfl ⟨⟨_, rfl, rfl, rfl, .mx ⟨.t _, .t _, trivial⟩⟩, trivial⟩ (fun h => by cases h) rfl ?_
  refine PR.nm (iA r92.1) [some ⟨.mx [sL r92.2.b, iA r92.2.p], 79, 0⟩, some ⟨.mx [iA (0 : Int), .t (.v (.slice none 0 0)), .t (.v (.slice none 0 0))], 30, 0⟩, some ⟨.mx [iA v73, .os 3 0 v74.length, .os 4 0 v75.length], 30, 0⟩, some ⟨.tr (eL v74), 3, 1⟩, some ⟨.tr (eL v75), 42, 2⟩] rfl rfl ?_
  refine PR.callM false [0] (w_S_reader_one N r92.2 [(0 : Int), (9999 : Int), (10000 : Int)] r94 h_95) rfl Try.call57 rfl ⟨.op rfl, .t _, trivial⟩ rfl ⟨⟨_, rfl, rfl, rfl, .mx ⟨.t _, .t _, trivial⟩⟩, trivial⟩ (fun h => by cases h) rfl ?_
  refine PR.nm (iA r94.1) [some ⟨.mx [sL r94.2.b, iA r94.2.p], 79, 0⟩, some ⟨.mx [iA (0 : Int), .t (.v (.slice none 0 0)), .t (.v (.slice none 0 0))], 30, 0⟩, some ⟨.mx [iA v73, .os 3 0 v74.length, .os 4 0 v75.length], 30, 0⟩, some ⟨.tr (eL v74), 3, 1⟩, some ⟨.tr (eL v75), 42, 2⟩] rfl rfl ?_
  refine PR.op rfl (Rd.build rfl rfl rfl rfl) ?_
  refine PR.ef rfl rfl (Ef.litM (α := I_Hold) [(I_Hold.mk r92.1 r94.1)] [_] rfl rfl (by decide) rfl rfl rfl rfl) ?_
  refine PR.nm (.os 5 0 1) [some ⟨.mx [sL r94.2.b, iA r94.2.p], 79, 0⟩, some ⟨.mx [iA (0 : Int), .t (.v (.slice none 0 0)), .t (.v (.slice none 0 0))], 30, 0⟩, some ⟨.mx [iA v73, .os 3 0 v74.length, .os 4 0 v75.length], 30, 0⟩, some ⟨.tr (eL v74), 3, 1⟩, some ⟨.tr (eL v75), 42, 2⟩, some ⟨.tr (eL [(I_Hold.mk r92.1 r94.1)]), 42, 2⟩] rfl rfl ?_
  refine PR.nil ?_
  refine PT.done ?_
  refine PL.apM hs rfl rfl rfl rfl (SrcA.ownE rfl rfl rfl) rfl rfl rfl rfl h_97 ?_
  refine PL.nm (.os 6 0 xs96.length) [some ⟨.mx [sL r94.2.b, iA r94.2.p], 79, 0⟩, some ⟨.mx [iA (0 : Int), .t (.v (.slice none 0 0)), .t (.v (.slice none 0 0))], 30, 0⟩, some ⟨.mx [iA v73, .os 3 0 v74.length, .os 4 0 v75.length], 30, 0⟩, some ⟨.tr (eL v74), 3, 1⟩, none, some ⟨.tr (eL [(I_Hold.mk r92.1 r94.1)]), 42, 2⟩, some ⟨.tr (eL xs96), 42, 2⟩] rfl rfl ?_
  refine PL.op rfl (Rd.fieldO rfl rfl) ?_
  refine PL.store rfl rfl rfl rfl rfl rfl rfl ?_
  refine PL.nO [some ⟨.mx [sL r94.2.b, iA r94.2.p], 79, 0⟩, some ⟨.mx [iA (0 : Int), .t (.v (.slice none 0 0)), .t (.v (.slice none 0 0))], 30, 0⟩, some ⟨.mx [iA v73, .os 3 0 v74.length, .os 6 0 xs96.length], 30, 0⟩, some ⟨.tr (eL v74), 3, 1⟩, none, some ⟨.tr (eL [(I_Hold.mk r92.1 r94.1)]), 42, 2⟩, some ⟨.tr (eL xs96), 42, 2⟩] rfl ?_
  refine PL.nil ?_
  refine inA_n ?_
  refine thA_n ?_
  refine PC.seq ?_
  refine PC.region ?_
  refine PL.op rfl (Rd.loadBox rfl rfl rfl) ?_
  refine PL.store rfl rfl rfl rfl rfl rfl rfl ?_
  refine PL.nO [some ⟨.mx [sL r94.2.b, iA r94.2.p], 79, 0⟩, some ⟨.mx [iA v73, .os 3 0 v74.length, .os 6 0 xs96.length], 30, 0⟩, some ⟨.mx [iA v73, .os 3 0 v74.length, .os 6 0 xs96.length], 30, 0⟩, some ⟨.tr (eL v74), 3, 1⟩, none, some ⟨.tr (eL [(I_Hold.mk r92.1 r94.1)]), 42, 2⟩, some ⟨.tr (eL xs96), 42, 2⟩] rfl ?_
  refine PL.nil ?_
  refine thA_n ?_
  refine PC.ret ?_
  obtain rfl := some_in hh0
  exact FinA.mk (r := .agg [iA (((I_Space.mk v73 v74 xs96), r94.2).1.pages), sL (((I_Space.mk v73 v74 xs96), r94.2).1.free), .os 1 0 ((((I_Space.mk v73 v74 xs96), r94.2).1.held).length)]) (bl := [⟨.mx [sL (((I_Space.mk v73 v74 xs96), r94.2).2.b), iA (((I_Space.mk v73 v74 xs96), r94.2).2.p)], 79, 0⟩, ⟨.tr (eL (((I_Space.mk v73 v74 xs96), r94.2).1.held)), 42, 2⟩]) [some 0, some 6] (.inl rfl) rfl (rl := [.cell 2 30]) (.cellN rfl rfl rfl rfl .nil) rfl rfl rfl (.aggL ⟨.t _, .own rfl (by first | decide | exact List.not_mem_nil) rfl rfl, .os rfl, trivial⟩) ⟨⟨_, rfl, rfl, rfl, .mx ⟨.t _, .t _, trivial⟩⟩, ⟨_, rfl, rfl, rfl, .tr _⟩, trivial⟩ ⟨rfl, rfl⟩

def m_S_DrawValidSpace (N : Nat) (p_code : (List UInt8)) : Option (I_Space) :=
  (m_S_newReader N p_code).bind fun r1 =>
  (m_S_anySpace N r1).bind fun r3 =>
  some r3.1
theorem w_S_DrawValidSpace (N : Nat) (p_code : (List UInt8)) (r : I_Space) (hh0 : m_S_DrawValidSpace N p_code = some r) : FnX Try.prog 25 [] [sL p_code] (RE (.agg [iA r.pages, sL r.free, .os 0 0 r.held.length]) [⟨.tr (eL r.held), 42, 2⟩]) := by
  unfold m_S_DrawValidSpace at hh0
  refine FnX.mk Try.func25 rfl rfl ?_
  intro s hs
  refine PC.seq ?_
  refine PC.region ?_
  refine PL.ef rfl (Ef.alloc rfl rfl) ?_
  refine PL.nm (.op 0 0) [some ⟨.mx [iA (0 : Int), .t (.v (.slice none 0 0)), .t (.v (.slice none 0 0))], 30, 0⟩] rfl rfl ?_
  refine PL.nil ?_
  refine thA_n ?_
  refine PC.seq ?_
  obtain ⟨r1, h_2, hh0⟩ := bind_some hh0
  obtain ⟨r3, h_4, hh0⟩ := bind_some hh0
  refine PC.region ?_
  refine PL.op rfl (Rd.moveT rfl) ?_
  refine PL.callM false [] (w_S_newReader N p_code r1 h_2) rfl Try.call51 rfl ⟨.t _, trivial⟩ rfl trivial (fun h => by cases h) ?_
  refine PL.nm (.op 1 0) [some ⟨.mx [iA (0 : Int), .t (.v (.slice none 0 0)), .t (.v (.slice none 0 0))], 30, 0⟩, some ⟨.mx [sL r1.b, iA r1.p], 79, 0⟩] rfl rfl ?_
  refine PL.callM false [1] (w_S_anySpace N r1 r3 h_4) rfl Try.call50 rfl ⟨.op rfl, trivial⟩ rfl ⟨⟨_, rfl, rfl, rfl, .mx ⟨.t _, .t _, trivial⟩⟩, trivial⟩ (fun h => by cases h) ?_
  refine PL.nm (.agg [iA r3.1.pages, sL r3.1.free, .os 2 0 r3.1.held.length]) [some ⟨.mx [iA (0 : Int), .t (.v (.slice none 0 0)), .t (.v (.slice none 0 0))], 30, 0⟩, some ⟨.mx [sL r3.2.b, iA r3.2.p], 79, 0⟩, some ⟨.tr (eL r3.1.held), 42, 2⟩] rfl rfl ?_
  refine PL.store rfl rfl rfl rfl rfl rfl rfl ?_
  refine PL.nO [some ⟨.mx [iA r3.1.pages, sL r3.1.free, .os 2 0 r3.1.held.length], 30, 0⟩, some ⟨.mx [sL r3.2.b, iA r3.2.p], 79, 0⟩, some ⟨.tr (eL r3.1.held), 42, 2⟩] rfl ?_
  refine PL.nil ?_
  refine thA_n ?_
  refine PC.ret ?_
  obtain rfl := some_in hh0
  exact FinA.mk (r := .agg [iA r3.1.pages, sL r3.1.free, .os 0 0 r3.1.held.length]) (bl := [⟨.tr (eL r3.1.held), 42, 2⟩]) [some 2] (.inl rfl) rfl (rl := [.cell 2 30]) (.cellN rfl rfl rfl rfl .nil) rfl rfl rfl (.aggL ⟨.t _, .t _, .os rfl, trivial⟩) ⟨⟨_, rfl, rfl, rfl, .tr _⟩, trivial⟩ ⟨rfl, rfl⟩

def m_S_DrawPagesInUse (N : Nat) (p_code : (List UInt8)) : Option (I_Space) :=
  (m_S_newReader N p_code).bind fun r1 =>
  (m_S_anySpace N r1).bind fun r3 =>
  some r3.1
theorem w_S_DrawPagesInUse (N : Nat) (p_code : (List UInt8)) (r : I_Space) (hh0 : m_S_DrawPagesInUse N p_code = some r) : FnX Try.prog 30 [] [sL p_code] (RE (.agg [iA r.pages, sL r.free, .os 0 0 r.held.length]) [⟨.tr (eL r.held), 42, 2⟩]) := by
  unfold m_S_DrawPagesInUse at hh0
  refine FnX.mk Try.func30 rfl rfl ?_
  intro s hs
  refine PC.seq ?_
  refine PC.region ?_
  refine PL.ef rfl (Ef.alloc rfl rfl) ?_
  refine PL.nm (.op 0 0) [some ⟨.mx [iA (0 : Int), .t (.v (.slice none 0 0)), .t (.v (.slice none 0 0))], 30, 0⟩] rfl rfl ?_
  refine PL.nil ?_
  refine thA_n ?_
  refine PC.seq ?_
  obtain ⟨r1, h_2, hh0⟩ := bind_some hh0
  obtain ⟨r3, h_4, hh0⟩ := bind_some hh0
  refine PC.region ?_
  refine PL.op rfl (Rd.moveT rfl) ?_
  refine PL.callM false [] (w_S_newReader N p_code r1 h_2) rfl Try.call51 rfl ⟨.t _, trivial⟩ rfl trivial (fun h => by cases h) ?_
  refine PL.nm (.op 1 0) [some ⟨.mx [iA (0 : Int), .t (.v (.slice none 0 0)), .t (.v (.slice none 0 0))], 30, 0⟩, some ⟨.mx [sL r1.b, iA r1.p], 79, 0⟩] rfl rfl ?_
  refine PL.callM false [1] (w_S_anySpace N r1 r3 h_4) rfl Try.call50 rfl ⟨.op rfl, trivial⟩ rfl ⟨⟨_, rfl, rfl, rfl, .mx ⟨.t _, .t _, trivial⟩⟩, trivial⟩ (fun h => by cases h) ?_
  refine PL.nm (.agg [iA r3.1.pages, sL r3.1.free, .os 2 0 r3.1.held.length]) [some ⟨.mx [iA (0 : Int), .t (.v (.slice none 0 0)), .t (.v (.slice none 0 0))], 30, 0⟩, some ⟨.mx [sL r3.2.b, iA r3.2.p], 79, 0⟩, some ⟨.tr (eL r3.1.held), 42, 2⟩] rfl rfl ?_
  refine PL.store rfl rfl rfl rfl rfl rfl rfl ?_
  refine PL.nO [some ⟨.mx [iA r3.1.pages, sL r3.1.free, .os 2 0 r3.1.held.length], 30, 0⟩, some ⟨.mx [sL r3.2.b, iA r3.2.p], 79, 0⟩, some ⟨.tr (eL r3.1.held), 42, 2⟩] rfl ?_
  refine PL.nil ?_
  refine thA_n ?_
  refine PC.ret ?_
  obtain rfl := some_in hh0
  exact FinA.mk (r := .agg [iA r3.1.pages, sL r3.1.free, .os 0 0 r3.1.held.length]) (bl := [⟨.tr (eL r3.1.held), 42, 2⟩]) [some 2] (.inl rfl) rfl (rl := [.cell 2 30]) (.cellN rfl rfl rfl rfl .nil) rfl rfl rfl (.aggL ⟨.t _, .t _, .os rfl, trivial⟩) ⟨⟨_, rfl, rfl, rfl, .tr _⟩, trivial⟩ ⟨rfl, rfl⟩

def m_S_DrawTakePage (N : Nat) (p_code : (List UInt8)) : Option (I_Space) :=
  (m_S_newReader N p_code).bind fun r1 =>
  (m_S_anySpace N r1).bind fun r3 =>
  some r3.1
theorem w_S_DrawTakePage (N : Nat) (p_code : (List UInt8)) (r : I_Space) (hh0 : m_S_DrawTakePage N p_code = some r) : FnX Try.prog 34 [] [sL p_code] (RE (.agg [iA r.pages, sL r.free, .os 0 0 r.held.length]) [⟨.tr (eL r.held), 42, 2⟩]) := by
  unfold m_S_DrawTakePage at hh0
  refine FnX.mk Try.func34 rfl rfl ?_
  intro s hs
  refine PC.seq ?_
  refine PC.region ?_
  refine PL.ef rfl (Ef.alloc rfl rfl) ?_
  refine PL.nm (.op 0 0) [some ⟨.mx [iA (0 : Int), .t (.v (.slice none 0 0)), .t (.v (.slice none 0 0))], 30, 0⟩] rfl rfl ?_
  refine PL.nil ?_
  refine thA_n ?_
  refine PC.seq ?_
  obtain ⟨r1, h_2, hh0⟩ := bind_some hh0
  obtain ⟨r3, h_4, hh0⟩ := bind_some hh0
  refine PC.region ?_
  refine PL.op rfl (Rd.moveT rfl) ?_
  refine PL.callM false [] (w_S_newReader N p_code r1 h_2) rfl Try.call51 rfl ⟨.t _, trivial⟩ rfl trivial (fun h => by cases h) ?_
  refine PL.nm (.op 1 0) [some ⟨.mx [iA (0 : Int), .t (.v (.slice none 0 0)), .t (.v (.slice none 0 0))], 30, 0⟩, some ⟨.mx [sL r1.b, iA r1.p], 79, 0⟩] rfl rfl ?_
  refine PL.callM false [1] (w_S_anySpace N r1 r3 h_4) rfl Try.call50 rfl ⟨.op rfl, trivial⟩ rfl ⟨⟨_, rfl, rfl, rfl, .mx ⟨.t _, .t _, trivial⟩⟩, trivial⟩ (fun h => by cases h) ?_
  refine PL.nm (.agg [iA r3.1.pages, sL r3.1.free, .os 2 0 r3.1.held.length]) [some ⟨.mx [iA (0 : Int), .t (.v (.slice none 0 0)), .t (.v (.slice none 0 0))], 30, 0⟩, some ⟨.mx [sL r3.2.b, iA r3.2.p], 79, 0⟩, some ⟨.tr (eL r3.1.held), 42, 2⟩] rfl rfl ?_
  refine PL.store rfl rfl rfl rfl rfl rfl rfl ?_
  refine PL.nO [some ⟨.mx [iA r3.1.pages, sL r3.1.free, .os 2 0 r3.1.held.length], 30, 0⟩, some ⟨.mx [sL r3.2.b, iA r3.2.p], 79, 0⟩, some ⟨.tr (eL r3.1.held), 42, 2⟩] rfl ?_
  refine PL.nil ?_
  refine thA_n ?_
  refine PC.ret ?_
  obtain rfl := some_in hh0
  exact FinA.mk (r := .agg [iA r3.1.pages, sL r3.1.free, .os 0 0 r3.1.held.length]) (bl := [⟨.tr (eL r3.1.held), 42, 2⟩]) [some 2] (.inl rfl) rfl (rl := [.cell 2 30]) (.cellN rfl rfl rfl rfl .nil) rfl rfl rfl (.aggL ⟨.t _, .t _, .os rfl, trivial⟩) ⟨⟨_, rfl, rfl, rfl, .tr _⟩, trivial⟩ ⟨rfl, rfl⟩

def m_S_DrawHoldPage (N : Nat) (p_code : (List UInt8)) : Option (I_Space × Int × Int) :=
  (m_S_newReader N p_code).bind fun r1 =>
  (m_S_anySpace N r1).bind fun r3 =>
  (m_S_reader_one N r3.2 [(0 : Int), (1 : Int), (2 : Int), (3 : Int), (-1 : Int), (16 : Int)]).bind fun r5 =>
  (m_S_reader_one N r5.2 [(60 : Int), (100 : Int), (0 : Int), (9999 : Int), (10000 : Int)]).bind fun r7 =>
  some (r3.1, r5.1, r7.1)
theorem w_S_DrawHoldPage (N : Nat) (p_code : (List UInt8)) (r : I_Space × Int × Int) (hh0 : m_S_DrawHoldPage N p_code = some r) : FnX Try.prog 40 [] [sL p_code] (RE (.tup [.agg [iA r.1.pages, sL r.1.free, .os 0 0 r.1.held.length], iA r.2.1, iA r.2.2]) [⟨.tr (eL r.1.held), 42, 2⟩]) := by
  unfold m_S_DrawHoldPage at hh0
  refine FnX.mk Try.func40 rfl rfl ?_
  intro s hs
  refine PC.seq ?_
  refine PC.region ?_
  refine PL.ef rfl (Ef.alloc rfl rfl) ?_
  refine PL.nm (.op 0 0) [some ⟨.mx [iA (0 : Int), .t (.v (.slice none 0 0)), .t (.v (.slice none 0 0))], 30, 0⟩] rfl rfl ?_
  refine PL.op rfl (Rd.asnT rfl) ?_
  refine PL.op rfl (Rd.asnT rfl) ?_
  refine PL.nil ?_
  refine thA_n ?_
  refine PC.seq ?_
  obtain ⟨r1, h_2, hh0⟩ := bind_some hh0
  refine PC.region ?_
  refine PL.op rfl (Rd.moveT rfl) ?_
  refine PL.callM false [] (w_S_newReader N p_code r1 h_2) rfl Try.call51 rfl ⟨.t _, trivial⟩ rfl trivial (fun h => by cases h) ?_
  refine PL.nm (.op 1 0) [some ⟨.mx [iA (0 : Int), .t (.v (.slice none 0 0)), .t (.v (.slice none 0 0))], 30, 0⟩, some ⟨.mx [sL r1.b, iA r1.p], 79, 0⟩] rfl rfl ?_
  refine PL.op rfl (Rd.asnP rfl) ?_
  refine PL.nil ?_
  refine thA_n ?_
  refine PC.seq ?_
  obtain ⟨r3, h_4, hh0⟩ := bind_some hh0
  refine PC.region ?_
  refine PL.op rfl (Rd.moveP rfl) ?_
  refine PL.callM false [1] (w_S_anySpace N r1 r3 h_4) rfl Try.call50 rfl ⟨.op rfl, trivial⟩ rfl ⟨⟨_, rfl, rfl, rfl, .mx ⟨.t _, .t _, trivial⟩⟩, trivial⟩ (fun h => by cases h) ?_
  refine PL.nm (.agg [iA r3.1.pages, sL r3.1.free, .os 2 0 r3.1.held.length]) [some ⟨.mx [iA (0 : Int), .t (.v (.slice none 0 0)), .t (.v (.slice none 0 0))], 30, 0⟩, some ⟨.mx [sL r3.2.b, iA r3.2.p], 79, 0⟩, some ⟨.tr (eL r3.1.held), 42, 2⟩] rfl rfl ?_
  refine PL.ef rfl (Ef.alloc rfl rfl) ?_
  refine PL.nm (.op 3 0) [some ⟨.mx [iA (0 : Int), .t (.v (.slice none 0 0)), .t (.v (.slice none 0 0))], 30, 0⟩, some ⟨.mx [sL r3.2.b, iA r3.2.p], 79, 0⟩, some ⟨.tr (eL r3.1.held), 42, 2⟩, some ⟨.mx [iA (0 : Int), .t (.v (.slice none 0 0)), .t (.v (.slice none 0 0))], 30, 0⟩] rfl rfl ?_
  refine PL.store rfl rfl rfl rfl rfl rfl rfl ?_
  refine PL.nO [some ⟨.mx [iA (0 : Int), .t (.v (.slice none 0 0)), .t (.v (.slice none 0 0))], 30, 0⟩, some ⟨.mx [sL r3.2.b, iA r3.2.p], 79, 0⟩, some ⟨.tr (eL r3.1.held), 42, 2⟩, some ⟨.mx [iA r3.1.pages, sL r3.1.free, .os 2 0 r3.1.held.length], 30, 0⟩] rfl ?_
  refine PL.nil ?_
  refine thA_n ?_
  refine PC.seq ?_
  obtain ⟨r5, h_6, hh0⟩ := bind_some hh0
  refine PC.region ?_
  refine PL.op rfl (Rd.moveP rfl) ?_
  refine PL.er rfl (Er.ints [(0 : Int), (1 : Int), (2 : Int), (3 : Int), (-1 : Int), (16 : Int)] rfl rfl (by decide) rfl) ?_
  refine PL.callM false [1] (w_S_reader_one N r3.2 [(0 : Int), (1 : Int), (2 : Int), (3 : Int), (-1 : Int), (16 : Int)] r5 h_6) rfl Try.call57 rfl ⟨.op rfl, .t _, trivial⟩ rfl ⟨⟨_, rfl, rfl, rfl, .mx ⟨.t _, .t _, trivial⟩⟩, trivial⟩ (fun h => by cases h) ?_
  refine PL.nm (iA r5.1) [some ⟨.mx [iA (0 : Int), .t (.v (.slice none 0 0)), .t (.v (.slice none 0 0))], 30, 0⟩, some ⟨.mx [sL r5.2.b, iA r5.2.p], 79, 0⟩, some ⟨.tr (eL r3.1.held), 42, 2⟩, some ⟨.mx [iA r3.1.pages, sL r3.1.free, .os 2 0 r3.1.held.length], 30, 0⟩] rfl rfl ?_
  refine PL.op rfl (Rd.asnT rfl) ?_
  refine PL.nil ?_
  refine thA_n ?_
  obtain ⟨r7, h_8, hh0⟩ := bind_some hh0
  refine PC.cut hs (fun _ : Unit => [(2, .op 0 0), (3, iA r5.1), (4, iA r7.1)]) (fun _ => [⟨.mx [iA r3.1.pages, sL r3.1.free, .os 1 0 r3.1.held.length], 30, 0⟩, ⟨.tr (eL r3.1.held), 42, 2⟩]) (fun _ => True) ?_ ?_
  · refine PC.any (id := 4) 8 (.seg [1, 2] (.fork (.seg [0, 3, 4, 5, 6, 7] .done) (.seg [3] (.fork (.seg [0, 4, 5, 6, 7] .done) (.seg [4, 0, 5, 6, 7] .done))))) [0, 1] rfl (by kernel_rfl) rfl ?_
    refine PT.seg ?_
    refine PR.op rfl (Rd.moveT rfl) ?_
    refine PR.op rfl (Rd.moveP rfl) ?_
    refine PR.nil ?_
    refine PT.fork ?_ ?_
    · refine PT.seg ?_
      refine PR.rdE rfl rfl (Rd.loadBox rfl rfl rfl) ?_
      refine PR.er rfl rfl (Er.ints [(60 : Int), (100 : Int), (0 : Int), (9999 : Int), (10000 : Int)] rfl rfl (by decide) rfl) ?_
      refine PR.callM false [1] (w_S_reader_one N r5.2 [(60 : Int), (100 : Int), (0 : Int), (9999 : Int), (10000 : Int)] r7 h_8) rfl Try.call57 rfl ⟨.op rfl, .t _, trivial⟩ rfl ⟨⟨_, rfl, rfl, rfl, .mx ⟨.t _, .t _, trivial⟩⟩, trivial⟩ (fun h => by cases h) rfl ?_
      refine PR.nm (iA r7.1) [some ⟨.mx [iA (0 : Int), .t (.v (.slice none 0 0)), .t (.v (.slice none 0 0))], 30, 0⟩, some ⟨.mx [sL r7.2.b, iA r7.2.p], 79, 0⟩, some ⟨.tr (eL r3.1.held), 42, 2⟩, some ⟨.mx [iA r3.1.pages, sL r3.1.free, .os 2 0 r3.1.held.length], 30, 0⟩] rfl rfl ?_
      refine PR.store rfl rfl rfl rfl rfl rfl rfl rfl ?_
      refine PR.nO [some ⟨.mx [iA r3.1.pages, sL r3.1.free, .os 2 0 r3.1.held.length], 30, 0⟩, some ⟨.mx [sL r7.2.b, iA r7.2.p], 79, 0⟩, some ⟨.tr (eL r3.1.held), 42, 2⟩, some ⟨.mx [iA r3.1.pages, sL r3.1.free, .os 2 0 r3.1.held.length], 30, 0⟩] rfl ?_
      refine PR.op rfl (Rd.asnT rfl) ?_
      refine PR.op rfl (Rd.asnT rfl) ?_
      refine PR.nil ?_
      refine PT.done ?_
      refine PL.nil ?_
      refine thA_n ?_
      exact ⟨(), trivial, [some 0, some 2], ⟨rfl, rfl, ⟨⟨_, rfl, rfl, rfl, .mx ⟨.t _, .t _, .os rfl, trivial⟩⟩, ⟨_, rfl, rfl, rfl, .tr _⟩, trivial⟩, ⟨.op rfl, .t _, .t _, trivial⟩⟩⟩
    refine PT.seg ?_
    refine PR.er rfl rfl (Er.ints [(60 : Int), (100 : Int), (0 : Int), (9999 : Int), (10000 : Int)] rfl rfl (by decide) rfl) ?_
    refine PR.nil ?_
    refine PT.fork ?_ ?_
    · refine PT.seg ?_
      refine PR.rdE rfl rfl (Rd.loadBox rfl rfl rfl) ?_
      refine PR.callM false [1] (w_S_reader_one N r5.2 [(60 : Int), (100 : Int), (0 : Int), (9999 : Int), (10000 : Int)] r7 h_8) rfl Try.call57 rfl ⟨.op rfl, .t _, trivial⟩ rfl ⟨⟨_, rfl, rfl, rfl, .mx ⟨.t _, .t _, trivial⟩⟩, trivial⟩ (fun h => by cases h) rfl ?_
      refine PR.nm (iA r7.1) [some ⟨.mx [iA (0 : Int), .t (.v (.slice none 0 0)), .t (.v (.slice none 0 0))], 30, 0⟩, some ⟨.mx [sL r7.2.b, iA r7.2.p], 79, 0⟩, some ⟨.tr (eL r3.1.held), 42, 2⟩, some ⟨.mx [iA r3.1.pages, sL r3.1.free, .os 2 0 r3.1.held.length], 30, 0⟩] rfl rfl ?_
      refine PR.store rfl rfl rfl rfl rfl rfl rfl rfl ?_
      refine PR.nO [some ⟨.mx [iA r3.1.pages, sL r3.1.free, .os 2 0 r3.1.held.length], 30, 0⟩, some ⟨.mx [sL r7.2.b, iA r7.2.p], 79, 0⟩, some ⟨.tr (eL r3.1.held), 42, 2⟩, some ⟨.mx [iA r3.1.pages, sL r3.1.free, .os 2 0 r3.1.held.length], 30, 0⟩] rfl ?_
      refine PR.op rfl (Rd.asnT rfl) ?_
      refine PR.op rfl (Rd.asnT rfl) ?_
      refine PR.nil ?_
      refine PT.done ?_
      refine PL.nil ?_
      refine thA_n ?_
      exact ⟨(), trivial, [some 0, some 2], ⟨rfl, rfl, ⟨⟨_, rfl, rfl, rfl, .mx ⟨.t _, .t _, .os rfl, trivial⟩⟩, ⟨_, rfl, rfl, rfl, .tr _⟩, trivial⟩, ⟨.op rfl, .t _, .t _, trivial⟩⟩⟩
    refine PT.seg ?_
    refine PR.callM false [1] (w_S_reader_one N r5.2 [(60 : Int), (100 : Int), (0 : Int), (9999 : Int), (10000 : Int)] r7 h_8) rfl Try.call57 rfl ⟨.op rfl, .t _, trivial⟩ rfl ⟨⟨_, rfl, rfl, rfl, .mx ⟨.t _, .t _, trivial⟩⟩, trivial⟩ (fun h => by cases h) rfl ?_
    refine PR.nm (iA r7.1) [some ⟨.mx [iA (0 : Int), .t (.v (.slice none 0 0)), .t (.v (.slice none 0 0))], 30, 0⟩, some ⟨.mx [sL r7.2.b, iA r7.2.p], 79, 0⟩, some ⟨.tr (eL r3.1.held), 42, 2⟩, some ⟨.mx [iA r3.1.pages, sL r3.1.free, .os 2 0 r3.1.held.length], 30, 0⟩] rfl rfl ?_
    refine PR.rdE rfl rfl (Rd.loadBox rfl rfl rfl) ?_
    refine PR.store rfl rfl rfl rfl rfl rfl rfl rfl ?_
    refine PR.nO [some ⟨.mx [iA r3.1.pages, sL r3.1.free, .os 2 0 r3.1.held.length], 30, 0⟩, some ⟨.mx [sL r7.2.b, iA r7.2.p], 79, 0⟩, some ⟨.tr (eL r3.1.held), 42, 2⟩, some ⟨.mx [iA r3.1.pages, sL r3.1.free, .os 2 0 r3.1.held.length], 30, 0⟩] rfl ?_
    refine PR.op rfl (Rd.asnT rfl) ?_
    refine PR.op rfl (Rd.asnT rfl) ?_
    refine PR.nil ?_
    refine PT.done ?_
    refine PL.nil ?_
    refine thA_n ?_
    exact ⟨(), trivial, [some 0, some 2], ⟨rfl, rfl, ⟨⟨_, rfl, rfl, rfl, .mx ⟨.t _, .t _, .os rfl, trivial⟩⟩, ⟨_, rfl, rfl, rfl, .tr _⟩, trivial⟩, ⟨.op rfl, .t _, .t _, trivial⟩⟩⟩
  rintro ⟨⟩ -
  refine PC.ret ?_
  obtain rfl := some_in hh0
  exact FinA.mk (r := .tup [.agg [iA ((r3.1, r5.1, r7.1).1.pages), sL ((r3.1, r5.1, r7.1).1.free), .os 0 0 (((r3.1, r5.1, r7.1).1.held).length)], iA ((r3.1, r5.1, r7.1).2.1), iA ((r3.1, r5.1, r7.1).2.2)]) (bl := [⟨.tr (eL ((r3.1, r5.1, r7.1).1.held)), 42, 2⟩]) [some 1] (.inl rfl) rfl (rl := [.cell 2 30, .tmp 3, .tmp 4]) (.cellN rfl rfl rfl rfl (.tmp (.tmp .nil))) rfl rfl rfl (.tupL ⟨.aggL ⟨.t _, .t _, .os rfl, trivial⟩, .t _, .t _, trivial⟩) ⟨⟨_, rfl, rfl, rfl, .tr _⟩, trivial⟩ ⟨rfl, rfl⟩

def m_S_DrawReleasePages (N : Nat) (p_code : (List UInt8)) : Option (I_Space × Int) :=
  (m_S_newReader N p_code).bind fun r1 =>
  (m_S_anySpace N r1).bind fun r3 =>
  (m_S_reader_one N r3.2 [(3 : Int), (8 : Int), (0 : Int), (100 : Int), (-5 : Int), (15 : Int)]).bind fun r5 =>
  some (r3.1, r5.1)
theorem w_S_DrawReleasePages (N : Nat) (p_code : (List UInt8)) (r : I_Space × Int) (hh0 : m_S_DrawReleasePages N p_code = some r) : FnX Try.prog 37 [] [sL p_code] (RE (.tup [.agg [iA r.1.pages, sL r.1.free, .os 0 0 r.1.held.length], iA r.2]) [⟨.tr (eL r.1.held), 42, 2⟩]) := by
  unfold m_S_DrawReleasePages at hh0
  refine FnX.mk Try.func37 rfl rfl ?_
  intro s hs
  refine PC.seq ?_
  refine PC.region ?_
  refine PL.ef rfl (Ef.alloc rfl rfl) ?_
  refine PL.nm (.op 0 0) [some ⟨.mx [iA (0 : Int), .t (.v (.slice none 0 0)), .t (.v (.slice none 0 0))], 30, 0⟩] rfl rfl ?_
  refine PL.op rfl (Rd.asnT rfl) ?_
  refine PL.nil ?_
  refine thA_n ?_
  refine PC.seq ?_
  obtain ⟨r1, h_2, hh0⟩ := bind_some hh0
  refine PC.region ?_
  refine PL.op rfl (Rd.moveT rfl) ?_
  refine PL.callM false [] (w_S_newReader N p_code r1 h_2) rfl Try.call51 rfl ⟨.t _, trivial⟩ rfl trivial (fun h => by cases h) ?_
  refine PL.nm (.op 1 0) [some ⟨.mx [iA (0 : Int), .t (.v (.slice none 0 0)), .t (.v (.slice none 0 0))], 30, 0⟩, some ⟨.mx [sL r1.b, iA r1.p], 79, 0⟩] rfl rfl ?_
  refine PL.op rfl (Rd.asnP rfl) ?_
  refine PL.nil ?_
  refine thA_n ?_
  refine PC.seq ?_
  obtain ⟨r3, h_4, hh0⟩ := bind_some hh0
  refine PC.region ?_
  refine PL.op rfl (Rd.moveP rfl) ?_
  refine PL.callM false [1] (w_S_anySpace N r1 r3 h_4) rfl Try.call50 rfl ⟨.op rfl, trivial⟩ rfl ⟨⟨_, rfl, rfl, rfl, .mx ⟨.t _, .t _, trivial⟩⟩, trivial⟩ (fun h => by cases h) ?_
  refine PL.nm (.agg [iA r3.1.pages, sL r3.1.free, .os 2 0 r3.1.held.length]) [some ⟨.mx [iA (0 : Int), .t (.v (.slice none 0 0)), .t (.v (.slice none 0 0))], 30, 0⟩, some ⟨.mx [sL r3.2.b, iA r3.2.p], 79, 0⟩, some ⟨.tr (eL r3.1.held), 42, 2⟩] rfl rfl ?_
  refine PL.ef rfl (Ef.alloc rfl rfl) ?_
  refine PL.nm (.op 3 0) [some ⟨.mx [iA (0 : Int), .t (.v (.slice none 0 0)), .t (.v (.slice none 0 0))], 30, 0⟩, some ⟨.mx [sL r3.2.b, iA r3.2.p], 79, 0⟩, some ⟨.tr (eL r3.1.held), 42, 2⟩, some ⟨.mx [iA (0 : Int), .t (.v (.slice none 0 0)), .t (.v (.slice none 0 0))], 30, 0⟩] rfl rfl ?_
  refine PL.store rfl rfl rfl rfl rfl rfl rfl ?_
  refine PL.nO [some ⟨.mx [iA (0 : Int), .t (.v (.slice none 0 0)), .t (.v (.slice none 0 0))], 30, 0⟩, some ⟨.mx [sL r3.2.b, iA r3.2.p], 79, 0⟩, some ⟨.tr (eL r3.1.held), 42, 2⟩, some ⟨.mx [iA r3.1.pages, sL r3.1.free, .os 2 0 r3.1.held.length], 30, 0⟩] rfl ?_
  refine PL.nil ?_
  refine thA_n ?_
  obtain ⟨r5, h_6, hh0⟩ := bind_some hh0
  refine PC.cut hs (fun _ : Unit => [(2, .op 0 0), (3, iA r5.1)]) (fun _ => [⟨.mx [iA r3.1.pages, sL r3.1.free, .os 1 0 r3.1.held.length], 30, 0⟩, ⟨.tr (eL r3.1.held), 42, 2⟩]) (fun _ => True) ?_ ?_
  · refine PC.any (id := 3) 4 (.seg [1] (.fork (.seg [0, 2, 3] .done) (.seg [2] (.fork (.seg [0, 3] .done) (.seg [3, 0] .done))))) [1] rfl (by kernel_rfl) rfl ?_
    refine PT.seg ?_
    refine PR.op rfl (Rd.moveP rfl) ?_
    refine PR.nil ?_
    refine PT.fork ?_ ?_
    · refine PT.seg ?_
      refine PR.rdE rfl rfl (Rd.loadBox rfl rfl rfl) ?_
      refine PR.er rfl rfl (Er.ints [(3 : Int), (8 : Int), (0 : Int), (100 : Int), (-5 : Int), (15 : Int)] rfl rfl (by decide) rfl) ?_
      refine PR.callM false [1] (w_S_reader_one N r3.2 [(3 : Int), (8 : Int), (0 : Int), (100 : Int), (-5 : Int), (15 : Int)] r5 h_6) rfl Try.call57 rfl ⟨.op rfl, .t _, trivial⟩ rfl ⟨⟨_, rfl, rfl, rfl, .mx ⟨.t _, .t _, trivial⟩⟩, trivial⟩ (fun h => by cases h) rfl ?_
      refine PR.nm (iA r5.1) [some ⟨.mx [iA (0 : Int), .t (.v (.slice none 0 0)), .t (.v (.slice none 0 0))], 30, 0⟩, some ⟨.mx [sL r5.2.b, iA r5.2.p], 79, 0⟩, some ⟨.tr (eL r3.1.held), 42, 2⟩, some ⟨.mx [iA r3.1.pages, sL r3.1.free, .os 2 0 r3.1.held.length], 30, 0⟩] rfl rfl ?_
      refine PR.nil ?_
      refine PT.done ?_
      refine PL.store rfl rfl rfl rfl rfl rfl rfl ?_
      refine PL.nO [some ⟨.mx [iA r3.1.pages, sL r3.1.free, .os 2 0 r3.1.held.length], 30, 0⟩, some ⟨.mx [sL r5.2.b, iA r5.2.p], 79, 0⟩, some ⟨.tr (eL r3.1.held), 42, 2⟩, some ⟨.mx [iA r3.1.pages, sL r3.1.free, .os 2 0 r3.1.held.length], 30, 0⟩] rfl ?_
      refine PL.op rfl (Rd.asnT rfl) ?_
      refine PL.nil ?_
      refine thA_n ?_
      exact ⟨(), trivial, [some 0, some 2], ⟨rfl, rfl, ⟨⟨_, rfl, rfl, rfl, .mx ⟨.t _, .t _, .os rfl, trivial⟩⟩, ⟨_, rfl, rfl, rfl, .tr _⟩, trivial⟩, ⟨.op rfl, .t _, trivial⟩⟩⟩
    refine PT.seg ?_
    refine PR.er rfl rfl (Er.ints [(3 : Int), (8 : Int), (0 : Int), (100 : Int), (-5 : Int), (15 : Int)] rfl rfl (by decide) rfl) ?_
    refine PR.nil ?_
    refine PT.fork ?_ ?_
    · refine PT.seg ?_
      refine PR.rdE rfl rfl (Rd.loadBox rfl rfl rfl) ?_
      refine PR.callM false [1] (w_S_reader_one N r3.2 [(3 : Int), (8 : Int), (0 : Int), (100 : Int), (-5 : Int), (15 : Int)] r5 h_6) rfl Try.call57 rfl ⟨.op rfl, .t _, trivial⟩ rfl ⟨⟨_, rfl, rfl, rfl, .mx ⟨.t _, .t _, trivial⟩⟩, trivial⟩ (fun h => by cases h) rfl ?_
      refine PR.nm (iA r5.1) [some ⟨.mx [iA (0 : Int), .t (.v (.slice none 0 0)), .t (.v (.slice none 0 0))], 30, 0⟩, some ⟨.mx [sL r5.2.b, iA r5.2.p], 79, 0⟩, some ⟨.tr (eL r3.1.held), 42, 2⟩, some ⟨.mx [iA r3.1.pages, sL r3.1.free, .os 2 0 r3.1.held.length], 30, 0⟩] rfl rfl ?_
      refine PR.nil ?_
      refine PT.done ?_
      refine PL.store rfl rfl rfl rfl rfl rfl rfl ?_
      refine PL.nO [some ⟨.mx [iA r3.1.pages, sL r3.1.free, .os 2 0 r3.1.held.length], 30, 0⟩, some ⟨.mx [sL r5.2.b, iA r5.2.p], 79, 0⟩, some ⟨.tr (eL r3.1.held), 42, 2⟩, some ⟨.mx [iA r3.1.pages, sL r3.1.free, .os 2 0 r3.1.held.length], 30, 0⟩] rfl ?_
      refine PL.op rfl (Rd.asnT rfl) ?_
      refine PL.nil ?_
      refine thA_n ?_
      exact ⟨(), trivial, [some 0, some 2], ⟨rfl, rfl, ⟨⟨_, rfl, rfl, rfl, .mx ⟨.t _, .t _, .os rfl, trivial⟩⟩, ⟨_, rfl, rfl, rfl, .tr _⟩, trivial⟩, ⟨.op rfl, .t _, trivial⟩⟩⟩
    refine PT.seg ?_
    refine PR.callM false [1] (w_S_reader_one N r3.2 [(3 : Int), (8 : Int), (0 : Int), (100 : Int), (-5 : Int), (15 : Int)] r5 h_6) rfl Try.call57 rfl ⟨.op rfl, .t _, trivial⟩ rfl ⟨⟨_, rfl, rfl, rfl, .mx ⟨.t _, .t _, trivial⟩⟩, trivial⟩ (fun h => by cases h) rfl ?_
    refine PR.nm (iA r5.1) [some ⟨.mx [iA (0 : Int), .t (.v (.slice none 0 0)), .t (.v (.slice none 0 0))], 30, 0⟩, some ⟨.mx [sL r5.2.b, iA r5.2.p], 79, 0⟩, some ⟨.tr (eL r3.1.held), 42, 2⟩, some ⟨.mx [iA r3.1.pages, sL r3.1.free, .os 2 0 r3.1.held.length], 30, 0⟩] rfl rfl ?_
    refine PR.rdE rfl rfl (Rd.loadBox rfl rfl rfl) ?_
    refine PR.nil ?_
    refine PT.done ?_
    refine PL.store rfl rfl rfl rfl rfl rfl rfl ?_
    refine PL.nO [some ⟨.mx [iA r3.1.pages, sL r3.1.free, .os 2 0 r3.1.held.length], 30, 0⟩, some ⟨.mx [sL r5.2.b, iA r5.2.p], 79, 0⟩, some ⟨.tr (eL r3.1.held), 42, 2⟩, some ⟨.mx [iA r3.1.pages, sL r3.1.free, .os 2 0 r3.1.held.length], 30, 0⟩] rfl ?_
    refine PL.op rfl (Rd.asnT rfl) ?_
    refine PL.nil ?_
    refine thA_n ?_
    exact ⟨(), trivial, [some 0, some 2], ⟨rfl, rfl, ⟨⟨_, rfl, rfl, rfl, .mx ⟨.t _, .t _, .os rfl, trivial⟩⟩, ⟨_, rfl, rfl, rfl, .tr _⟩, trivial⟩, ⟨.op rfl, .t _, trivial⟩⟩⟩
  rintro ⟨⟩ -
  refine PC.ret ?_
  obtain rfl := some_in hh0
  exact FinA.mk (r := .tup [.agg [iA ((r3.1, r5.1).1.pages), sL ((r3.1, r5.1).1.free), .os 0 0 (((r3.1, r5.1).1.held).length)], iA ((r3.1, r5.1).2)]) (bl := [⟨.tr (eL ((r3.1, r5.1).1.held)), 42, 2⟩]) [some 1] (.inl rfl) rfl (rl := [.cell 2 30, .tmp 3]) (.cellN rfl rfl rfl rfl (.tmp .nil)) rfl rfl rfl (.tupL ⟨.aggL ⟨.t _, .t _, .os rfl, trivial⟩, .t _, trivial⟩) ⟨⟨_, rfl, rfl, rfl, .tr _⟩, trivial⟩ ⟨rfl, rfl⟩

end V
end Go.Proofs.Ytambkpacecjheaa
