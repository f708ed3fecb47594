/- What the rows need, part 7. No condition. -/
import Derived.Test.YtemmcidmcojjjaaGreatDoorQSxF
set_option linter.unusedVariables false
set_option linter.unusedSimpArgs false
namespace Go.Proofs.YtemmcidmcojjjaaGreatDoor
namespace V
open Enc (enc)
set_option maxHeartbeats 4000000
set_option maxRecDepth 100000
open Go.RowKit
attribute [local irreducible] thA inA FinA eL
structure S_desk where
  table : I_Table
deriving DecidableEq
def m_S_splitWords_k1 (N : Nat) (p_s : ByteArray) (i18 : Int) (v19 : (List ByteArray)) : Option ((List ByteArray)) :=
  (subS p_s i18 (p_s.size : Int)).bind fun s25 =>
  (appM 16 v19 [s25]).bind fun xs27 =>
  some xs27
def m_S_splitWords_b1 (N : Nat) (p_s : ByteArray) (i1 : Int) (i2 : Int) (v3 : (List ByteArray)) : Option ((Int × Int × (List ByteArray)) ⊕ (Int × (List ByteArray))) :=
  cond (decide (i2 < (p_s.size : Int)))
    ((ixS p_s i2).bind fun c30 =>
    cond (decide ((c30.toNat : Int) = ((32 : UInt8).toNat : Int)))
      ((subS p_s i1 i2).bind fun s33 =>
      (appM 16 v3 [s33]).bind fun xs35 =>
      (chk (i2 + (1 : Int))).bind fun n37 =>
      (chk (i2 + (1 : Int))).bind fun n39 =>
      some (.inl (n37, n39, xs35)))
      ((chk (i2 + (1 : Int))).bind fun n41 =>
      some (.inl (i1, n41, v3))))
    (some (.inr (i1, v3)))
def m_S_splitWords (N : Nat) (p_s : ByteArray) : Option ((List ByteArray)) :=
  (loopM (β := Int × (List ByteArray)) (fun s : Int × Int × (List ByteArray) => m_S_splitWords_b1 N p_s s.1 s.2.1 s.2.2) N ((0 : Int), (0 : Int), ([] : List ByteArray))).bind fun e =>
  m_S_splitWords_k1 N p_s e.1 e.2
theorem w_S_splitWords (N : Nat) (p_s : ByteArray) (r : (List ByteArray)) (hh0 : m_S_splitWords N p_s = some r) : FnX Tryz.prog 34 [] [sA p_s] (RE (.os 0 0 r.length) [⟨.tr (eL r), 9, 1⟩]) := by
  unfold m_S_splitWords at hh0; refine FnX.mk Tryz.func34 rfl rfl ?_; intro s hs; refine PC.seq ?_; refine PC.rg ?_; refine PL.aT rfl rfl ?_; refine PL.nn ?_; refine PC.seq ?_; refine PC.rg ?_; refine PL.ef rfl (Ef.lit0M ByteArray) ?_; refine PL.nm (.os 0 0 0) [some ⟨.tr (eL ([] : List ByteArray)), 9, 1⟩] rfl rfl ?_; refine PL.op rfl (Rd.asnO rfl) ?_; refine PL.nn ?_; refine PC.seq ?_; refine PC.rg ?_; refine PL.aT rfl rfl ?_; refine PL.nn ?_; (iterate 2 refine PC.seq ?_); refine PC.rg ?_; refine PL.aT rfl rfl ?_; refine PL.nn ?_; obtain ⟨o20, h_21, hh0⟩ := bind_some hh0; refine PC.cutE hs (fun x : Int × (List ByteArray) => [(0, sA p_s), (3, .os 0 0 x.2.length), (4, iA x.1)]) (fun x => [⟨.tr (eL x.2), 9, 1⟩]) (fun x => m_S_splitWords_k1 N p_s x.1 x.2 = some r) ?_ ?_
  · refine PC.block ?_; refine PC.loop hs (fun x : Nat × (Int × Int × (List ByteArray)) => [(0, sA p_s), (3, .os 0 0 x.2.2.2.length), (4, iA x.2.1), (5, iA x.2.2.1)]) (fun x => [⟨.tr (eL x.2.2.2), 9, 1⟩]) (fun x => loopM (β := Int × (List ByteArray)) (fun s : Int × Int × (List ByteArray) => m_S_splitWords_b1 N p_s s.1 s.2.1 s.2.2) x.1 x.2 = some o20) (fun x => x.1) (N, ((0 : Int), (0 : Int), ([] : List ByteArray))) [some 0] ⟨rfl, rfl, ⟨⟨_, rfl, rfl, rfl, .tr _⟩, trivial⟩, ⟨.t _, .os rfl, .t _, .t _, trivial⟩⟩ h_21 ?_
    rintro ⟨f22_, i1, i2, v3⟩ h_24
    obtain ⟨f22, y23, rfl, hh1, kk1⟩ := loopM_some h_24
    replace hh1 : m_S_splitWords_b1 N p_s i1 i2 v3 = some y23 := hh1
    unfold m_S_splitWords_b1 at hh1; (iterate 2 refine PC.seq ?_); refine PC.rg ?_; (iterate 2 refine PL.mT rfl rfl ?_); refine PL.op rfl (Rd.lenSt rfl) ?_; refine PL.op rfl (Rd.lss rfl rfl) ?_; refine PL.nn ?_; rcases cond_some hh1 with ⟨h_29, hh1⟩ | ⟨h_29, hh1⟩; rotate_left
    · refine PC.cf rfl h_29 ?_; refine PC.exit ?_; (iterate 2 refine thA_e ?_); refine inA_eq rfl ?_; refine thA_n ?_; obtain rfl := some_in hh1; obtain rfl : ((i1, v3) : Int × (List ByteArray)) = o20 := kk1; exact ⟨(i1, v3), hh0, [some 0], ⟨rfl, rfl, ⟨⟨_, rfl, rfl, rfl, .tr _⟩, trivial⟩, ⟨.t _, .os rfl, .t _, trivial⟩⟩⟩
    refine PC.ct rfl h_29 ?_; refine PC.skip ?_; refine thA_n ?_; refine PC.seq ?_; refine PC.block ?_; refine PC.seq ?_; obtain ⟨c30, h_31, hh1⟩ := bind_some hh1; refine PC.rg ?_; (iterate 2 refine PL.mT rfl rfl ?_); refine PL.op rfl (Rd.ixSM rfl rfl h_31) ?_; refine PL.op rfl (Rd.eqlU rfl rfl) ?_; refine PL.nn ?_; rcases cond_some hh1 with ⟨h_32, hh1⟩ | ⟨h_32, hh1⟩; rotate_left
    · refine PC.cf rfl h_32 ?_; refine PC.skip ?_; refine inA_n ?_; refine thA_n ?_; obtain ⟨n41, h_42, hh1⟩ := bind_some hh1; refine PC.rg ?_; refine PL.mT rfl rfl ?_; refine PL.op rfl (Rd.addM rfl rfl h_42) ?_; refine PL.aT rfl rfl ?_; refine PL.nil ?_; obtain rfl := some_in hh1; refine thA_n ?_; exact ⟨(f22, (i1, n41, v3)), Nat.lt_succ_self _, kk1, [some 0], ⟨rfl, rfl, ⟨⟨_, rfl, rfl, rfl, .tr _⟩, trivial⟩, ⟨.t _, .os rfl, .t _, .t _, trivial⟩⟩⟩
    refine PC.ct rfl h_32 ?_; refine PC.seq ?_; obtain ⟨s33, h_34, hh1⟩ := bind_some hh1; obtain ⟨xs35, h_36, hh1⟩ := bind_some hh1; refine PC.rg ?_; refine PL.op rfl (Rd.moveO rfl) ?_; (iterate 3 refine PL.mT rfl rfl ?_); refine PL.op rfl (Rd.subSMLH rfl rfl rfl h_34) ?_; refine PL.ef rfl (Ef.litM (α := ByteArray) [s33] [_] rfl rfl (by decide) rfl rfl rfl rfl) ?_; refine PL.nm (.os 1 0 1) [some ⟨.tr (eL v3), 9, 1⟩, some ⟨.tr (eL [s33]), 9, 1⟩] rfl rfl ?_; refine PL.apM hs rfl rfl rfl rfl (SrcA.ownE rfl rfl rfl) rfl rfl rfl rfl h_36 ?_; refine PL.nm (.os 2 0 xs35.length) [none, some ⟨.tr (eL [s33]), 9, 1⟩, some ⟨.tr (eL xs35), 9, 1⟩] rfl rfl ?_; refine PL.op rfl (Rd.asnO rfl) ?_; refine PL.nn ?_; obtain ⟨n37, h_38, hh1⟩ := bind_some hh1; refine PC.rg ?_; refine PL.mT rfl rfl ?_; refine PL.op rfl (Rd.addM rfl rfl h_38) ?_; refine PL.aT rfl rfl ?_; refine PL.nil ?_; refine inA_n ?_; refine thA_n ?_; obtain ⟨n39, h_40, hh1⟩ := bind_some hh1; refine PC.rg ?_; refine PL.mT rfl rfl ?_; refine PL.op rfl (Rd.addM rfl rfl h_40) ?_; refine PL.aT rfl rfl ?_; refine PL.nil ?_; obtain rfl := some_in hh1; refine thA_n ?_; exact ⟨(f22, (n37, n39, xs35)), Nat.lt_succ_self _, kk1, [some 2], ⟨rfl, rfl, ⟨⟨_, rfl, rfl, rfl, .tr _⟩, trivial⟩, ⟨.t _, .os rfl, .t _, .t _, trivial⟩⟩⟩
  clear hh0
  rintro ⟨i18, v19⟩ hh0
  replace hh0 : m_S_splitWords_k1 N p_s i18 v19 = some r := hh0
  unfold m_S_splitWords_k1 at hh0; refine thA_n ?_; refine PC.seq ?_; obtain ⟨s25, h_26, hh0⟩ := bind_some hh0; obtain ⟨xs27, h_28, hh0⟩ := bind_some hh0; refine PC.rg ?_; refine PL.op rfl (Rd.moveO rfl) ?_; (iterate 2 refine PL.mT rfl rfl ?_); refine PL.op rfl (Rd.subSML rfl rfl h_26) ?_; refine PL.ef rfl (Ef.litM (α := ByteArray) [s25] [_] rfl rfl (by decide) rfl rfl rfl rfl) ?_; refine PL.nm (.os 1 0 1) [some ⟨.tr (eL v19), 9, 1⟩, some ⟨.tr (eL [s25]), 9, 1⟩] rfl rfl ?_; refine PL.apM hs rfl rfl rfl rfl (SrcA.ownE rfl rfl rfl) rfl rfl rfl rfl h_28 ?_; refine PL.nm (.os 2 0 xs27.length) [none, some ⟨.tr (eL [s25]), 9, 1⟩, some ⟨.tr (eL xs27), 9, 1⟩] rfl rfl ?_; refine PL.op rfl (Rd.asnO rfl) ?_; refine PL.nn ?_; refine PC.ret ?_; obtain rfl := some_in hh0; exact FinA.mk (r := .os 0 0 xs27.length) (bl := [⟨.tr (eL xs27), 9, 1⟩]) [some 2] (.inl rfl) rfl (rl := [.tmp 2]) (.tmp .nil) rfl rfl rfl (.os rfl) ⟨⟨_, rfl, rfl, rfl, .tr _⟩, trivial⟩ ⟨rfl, rfl⟩
def m_S_kindOf (N : Nat) (p_w : ByteArray) : Option (Int) :=
  cond (p_w.toList == (ByteArray.mk #[110, 117, 109]).toList)
    (some (1 : Int))
    (cond (p_w.toList == (ByteArray.mk #[116, 101, 120, 116]).toList)
      (some (2 : Int))
      (some (-1 : Int)))
theorem w_S_kindOf (N : Nat) (p_w : ByteArray) (r : Int) (hh0 : m_S_kindOf N p_w = some r) : FnX Tryz.prog 38 [] [sA p_w] (RE (iA r) []) := by
  unfold m_S_kindOf at hh0; refine FnX.mk Tryz.func38 rfl rfl ?_; intro s hs; refine PC.seq ?_; refine PC.rg ?_; refine PL.aT rfl rfl ?_; refine PL.nn ?_; (iterate 2 refine PC.seq ?_); refine PC.rg ?_; refine PL.mT rfl rfl ?_; refine PL.nn ?_; refine PC.block ?_; refine PC.seq ?_; refine PC.rg ?_; refine PL.op rfl (Rd.eqlS rfl rfl) ?_; refine PL.aT rfl rfl ?_; refine PL.nn ?_; rcases cond_some hh0 with ⟨h_1, hh0⟩ | ⟨h_1, hh0⟩
  · refine PC.ct rfl h_1 ?_; refine PC.seq ?_; refine PC.rg ?_; refine PL.aT rfl rfl ?_; refine PL.nn ?_; refine PC.ret ?_; refine inA_r ?_; refine thA_r ?_; obtain rfl := some_in hh0; exact FinA.mk (r := iA (1 : Int)) (bl := []) [] (.inl rfl) rfl (rl := [.tmp 2]) (.tmp .nil) rfl rfl rfl (.t _) trivial ⟨rfl, rfl⟩
  refine PC.cf rfl h_1 ?_; refine PC.seq ?_; refine PC.rg ?_; refine PL.op rfl (Rd.eqlS rfl rfl) ?_; refine PL.aT rfl rfl ?_; refine PL.nn ?_; rcases cond_some hh0 with ⟨h_2, hh0⟩ | ⟨h_2, hh0⟩
  · refine PC.ct rfl h_2 ?_; refine PC.seq ?_; refine PC.rg ?_; refine PL.aT rfl rfl ?_; refine PL.nn ?_; refine PC.ret ?_; refine inA_r ?_; refine thA_r ?_; obtain rfl := some_in hh0; exact FinA.mk (r := iA (2 : Int)) (bl := []) [] (.inl rfl) rfl (rl := [.tmp 2]) (.tmp .nil) rfl rfl rfl (.t _) trivial ⟨rfl, rfl⟩
  refine PC.cf rfl h_2 ?_; refine PC.skip ?_; refine inA_n ?_; refine thA_n ?_; refine PC.seq ?_; refine PC.rg ?_; refine PL.aT rfl rfl ?_; refine PL.nn ?_; refine PC.ret ?_; obtain rfl := some_in hh0; exact FinA.mk (r := iA (-1 : Int)) (bl := []) [] (.inl rfl) rfl (rl := [.tmp 2]) (.tmp .nil) rfl rfl rfl (.t _) trivial ⟨rfl, rfl⟩
def m_S_desk_create_k1 (N : Nat) (p_d : S_desk) (v12 : (List I_Column)) : Option (ByteArray × S_desk) :=
  (m_S_validFormat N v12).bind fun r18 =>
  cond r18
    (some ((ByteArray.mk #[111, 107]), (S_desk.mk (I_Table.mk v12 ([] : List I_Change) ([] : List I_Tagged)))))
    (some ((ByteArray.mk #[110, 111]), p_d))
def m_S_desk_create_b1 (N : Nat) (p_words : (List ByteArray)) (i1 : Int) (v2 : (List I_Column)) : Option ((Int × (List I_Column)) ⊕ (List I_Column)) :=
  cond (decide (i1 < (p_words.length : Int)))
    ((ixI p_words i1).bind fun x22 =>
    (m_S_kindOf N x22).bind fun r24 =>
    (appM 40 v2 [(I_Column.mk r24 (I_Value.mk (0 : Int) (0 : Int) ByteArray.empty))]).bind fun xs26 =>
    (chk (i1 + (1 : Int))).bind fun n28 =>
    some (.inl (n28, xs26)))
    (some (.inr v2))
def m_S_desk_create (N : Nat) (p_d : S_desk) (p_words : (List ByteArray)) : Option (ByteArray × S_desk) :=
  (loopM (β := (List I_Column)) (fun s : Int × (List I_Column) => m_S_desk_create_b1 N p_words s.1 s.2) N ((0 : Int), ([] : List I_Column))).bind fun e =>
  m_S_desk_create_k1 N p_d e
theorem w_S_desk_create (N : Nat) (p_d : S_desk) (p_words : (List ByteArray)) (r : ByteArray × S_desk) (hh0 : m_S_desk_create N p_d p_words = some r) : FnX Tryz.prog 35 [⟨.mx [sL p_d.table.first, sL p_d.table.changes, sL p_d.table.rows], 56, 0⟩] [.op 0 0, sL p_words] (RE (sA r.1) [⟨.mx [sL r.2.table.first, sL r.2.table.changes, sL r.2.table.rows], 56, 0⟩]) := by
  unfold m_S_desk_create at hh0; refine FnX.mk Tryz.func35 rfl rfl ?_; intro s hs; refine PC.seq ?_; refine PC.rg ?_; refine PL.aT rfl rfl ?_; refine PL.nn ?_; refine PC.seq ?_; refine PC.rg ?_; refine PL.ef rfl (Ef.lit0M I_Column) ?_; refine PL.nm (.os 1 0 0) [some ⟨.mx [sL p_d.table.first, sL p_d.table.changes, sL p_d.table.rows], 56, 0⟩, some ⟨.tr (eL ([] : List I_Column)), 67, 4⟩] rfl rfl ?_; refine PL.op rfl (Rd.asnO rfl) ?_; refine PL.nn ?_; (iterate 2 refine PC.seq ?_); refine PC.rg ?_; refine PL.aT rfl rfl ?_; refine PL.nn ?_; obtain ⟨o13, h_14, hh0⟩ := bind_some hh0; refine PC.cutE hs (fun x : (List I_Column) => [(0, .op 0 0), (5, .os 1 0 x.length)]) (fun x => [⟨.mx [sL p_d.table.first, sL p_d.table.changes, sL p_d.table.rows], 56, 0⟩, ⟨.tr (eL x), 67, 4⟩]) (fun x => m_S_desk_create_k1 N p_d x = some r) ?_ ?_
  · refine PC.block ?_; refine PC.loop hs (fun x : Nat × (Int × (List I_Column)) => [(0, .op 0 0), (1, sL p_words), (5, .os 1 0 x.2.2.length), (6, iA x.2.1)]) (fun x => [⟨.mx [sL p_d.table.first, sL p_d.table.changes, sL p_d.table.rows], 56, 0⟩, ⟨.tr (eL x.2.2), 67, 4⟩]) (fun x => loopM (β := (List I_Column)) (fun s : Int × (List I_Column) => m_S_desk_create_b1 N p_words s.1 s.2) x.1 x.2 = some o13) (fun x => x.1) (N, ((0 : Int), ([] : List I_Column))) [some 0, some 1] ⟨rfl, rfl, ⟨⟨_, rfl, rfl, rfl, .mx ⟨.t _, .t _, .t _, trivial⟩⟩, ⟨_, rfl, rfl, rfl, .tr _⟩, trivial⟩, ⟨.op rfl, .t _, .os rfl, .t _, trivial⟩⟩ h_14 ?_
    rintro ⟨f15_, i1, v2⟩ h_17
    obtain ⟨f15, y16, rfl, hh1, kk1⟩ := loopM_some h_17
    replace hh1 : m_S_desk_create_b1 N p_words i1 v2 = some y16 := hh1
    unfold m_S_desk_create_b1 at hh1; (iterate 2 refine PC.seq ?_); refine PC.rg ?_; (iterate 2 refine PL.mT rfl rfl ?_); refine PL.op rfl (Rd.lenT rfl) ?_; refine PL.op rfl (Rd.lss rfl rfl) ?_; refine PL.nn ?_; rcases cond_some hh1 with ⟨h_21, hh1⟩ | ⟨h_21, hh1⟩; rotate_left
    · refine PC.cf rfl h_21 ?_; refine PC.exit ?_; (iterate 2 refine thA_e ?_); refine inA_eq rfl ?_; refine thA_n ?_; obtain rfl := some_in hh1; obtain rfl : (v2 : (List I_Column)) = o13 := kk1; exact ⟨v2, hh0, [some 0, some 1], ⟨rfl, rfl, ⟨⟨_, rfl, rfl, rfl, .mx ⟨.t _, .t _, .t _, trivial⟩⟩, ⟨_, rfl, rfl, rfl, .tr _⟩, trivial⟩, ⟨.op rfl, .os rfl, trivial⟩⟩⟩
    refine PC.ct rfl h_21 ?_; refine PC.skip ?_; refine thA_n ?_; refine PC.seq ?_; refine PC.block ?_; obtain ⟨x22, h_23, hh1⟩ := bind_some hh1; obtain ⟨r24, h_25, hh1⟩ := bind_some hh1; obtain ⟨xs26, h_27, hh1⟩ := bind_some hh1; refine PC.rg ?_; refine PL.op rfl (Rd.moveO rfl) ?_; (iterate 2 refine PL.mT rfl rfl ?_); refine PL.op rfl (Rd.ixM rfl rfl h_23) ?_; refine PL.op rfl (Rd.elM1 rfl h_23 rfl rfl) ?_; refine PL.callM false [] (w_S_kindOf N x22 r24 h_25) rfl Tryz.call38 rfl ⟨.t _, trivial⟩ rfl trivial (fun h => by cases h) ?_; refine PL.op rfl (Rd.build rfl rfl rfl rfl) ?_; refine PL.ef rfl (Ef.litM (α := I_Column) [(I_Column.mk r24 (I_Value.mk (0 : Int) (0 : Int) ByteArray.empty))] [_] rfl rfl (by decide) rfl rfl rfl rfl) ?_; refine PL.nm (.os 2 0 1) [some ⟨.mx [sL p_d.table.first, sL p_d.table.changes, sL p_d.table.rows], 56, 0⟩, some ⟨.tr (eL v2), 67, 4⟩, some ⟨.tr (eL [(I_Column.mk r24 (I_Value.mk (0 : Int) (0 : Int) ByteArray.empty))]), 67, 4⟩] rfl rfl ?_; refine PL.apM hs rfl rfl rfl rfl (SrcA.ownE rfl rfl rfl) rfl rfl rfl rfl h_27 ?_; refine PL.nm (.os 3 0 xs26.length) [some ⟨.mx [sL p_d.table.first, sL p_d.table.changes, sL p_d.table.rows], 56, 0⟩, none, some ⟨.tr (eL [(I_Column.mk r24 (I_Value.mk (0 : Int) (0 : Int) ByteArray.empty))]), 67, 4⟩, some ⟨.tr (eL xs26), 67, 4⟩] rfl rfl ?_; refine PL.op rfl (Rd.asnO rfl) ?_; refine PL.nil ?_; refine inA_n ?_; refine thA_n ?_; obtain ⟨n28, h_29, hh1⟩ := bind_some hh1; refine PC.rg ?_; refine PL.mT rfl rfl ?_; refine PL.op rfl (Rd.addM rfl rfl h_29) ?_; refine PL.aT rfl rfl ?_; refine PL.nil ?_; obtain rfl := some_in hh1; refine thA_n ?_; exact ⟨(f15, (n28, xs26)), Nat.lt_succ_self _, kk1, [some 0, some 3], ⟨rfl, rfl, ⟨⟨_, rfl, rfl, rfl, .mx ⟨.t _, .t _, .t _, trivial⟩⟩, ⟨_, rfl, rfl, rfl, .tr _⟩, trivial⟩, ⟨.op rfl, .t _, .os rfl, .t _, trivial⟩⟩⟩
  clear hh0
  rintro v12 hh0
  replace hh0 : m_S_desk_create_k1 N p_d v12 = some r := hh0
  unfold m_S_desk_create_k1 at hh0; refine thA_n ?_; (iterate 2 refine PC.seq ?_); obtain ⟨r18, h_19, hh0⟩ := bind_some hh0; refine PC.rg ?_; refine PL.op rfl (Rd.moveO rfl) ?_; refine PL.callM true [] (w_S_validFormat N v12 r18 h_19) rfl Tryz.call57 rfl ⟨.own rfl (by first | decide | exact List.not_mem_nil) rfl rfl, trivial⟩ rfl trivial (fun _ => ⟨trivial, flat_nil⟩) ?_; refine PL.op rfl (Rd.unnot rfl) ?_; refine PL.nn ?_; rcases cond_some hh0 with ⟨h_20, hh0⟩ | ⟨h_20, hh0⟩; rotate_left
  · refine PC.ct rfl (not_f h_20) ?_; refine PC.seq ?_; refine PC.rg ?_; refine PL.aT rfl rfl ?_; refine PL.nn ?_; refine PC.ret ?_; refine thA_r ?_; obtain rfl := some_in hh0; exact FinA.mk (r := sA (((ByteArray.mk #[110, 111]), p_d).1)) (bl := [⟨.mx [sL (((ByteArray.mk #[110, 111]), p_d).2.table.first), sL (((ByteArray.mk #[110, 111]), p_d).2.table.changes), sL (((ByteArray.mk #[110, 111]), p_d).2.table.rows)], 56, 0⟩]) [some 0] (.inl rfl) rfl (rl := [.tmp 4]) (.tmp .nil) rfl rfl rfl (.t _) ⟨⟨_, rfl, rfl, rfl, .mx ⟨.t _, .t _, .t _, trivial⟩⟩, trivial⟩ ⟨rfl, rfl⟩
  refine PC.cf rfl (not_t h_20) ?_; refine PC.skip ?_; refine thA_n ?_; refine PC.seq ?_; refine PC.rg ?_; refine PL.op rfl (Rd.moveP rfl) ?_; refine PL.op rfl (Rd.moveO rfl) ?_; refine PL.op rfl (Rd.build rfl rfl rfl rfl) ?_; refine PL.op rfl (Rd.nilCheckO rfl rfl) ?_; refine PL.op rfl (Rd.fieldO rfl rfl) ?_; refine PL.store rfl rfl rfl rfl rfl rfl rfl ?_; refine PL.nO [some ⟨.mx [.os 1 0 v12.length, .t (.v (.slice none 0 0)), .t (.v (.slice none 0 0))], 56, 0⟩, some ⟨.tr (eL v12), 67, 4⟩] rfl ?_; refine PL.nn ?_; refine PC.seq ?_; refine PC.rg ?_; refine PL.aT rfl rfl ?_; refine PL.nn ?_; refine PC.ret ?_; obtain rfl := some_in hh0; exact FinA.mk (r := sA (((ByteArray.mk #[111, 107]), (S_desk.mk (I_Table.mk v12 ([] : List I_Change) ([] : List I_Tagged)))).1)) (bl := [⟨.mx [sL (((ByteArray.mk #[111, 107]), (S_desk.mk (I_Table.mk v12 ([] : List I_Change) ([] : List I_Tagged)))).2.table.first), sL (((ByteArray.mk #[111, 107]), (S_desk.mk (I_Table.mk v12 ([] : List I_Change) ([] : List I_Tagged)))).2.table.changes), sL (((ByteArray.mk #[111, 107]), (S_desk.mk (I_Table.mk v12 ([] : List I_Change) ([] : List I_Tagged)))).2.table.rows)], 56, 0⟩]) [some 0] (.inl rfl) rfl (rl := [.tmp 4]) (.tmp .nil) rfl rfl rfl (.t _) ⟨⟨_, rfl, rfl, rfl, .mx ⟨.own rfl (by first | decide | exact List.not_mem_nil) rfl rfl, Sb.nilE, Sb.nilE, trivial⟩⟩, trivial⟩ ⟨rfl, rfl⟩
def m_S_parseInt_k1 (N : Nat) (p_s : ByteArray) (i21 : Int) : Option (Int) :=
  (m_S_decimal N i21).bind fun r27 =>
  cond (r27.toList == p_s.toList)
    (some i21)
    (some (-1 : Int))
def m_S_parseInt_b1 (N : Nat) (p_s : ByteArray) (i3 : Int) (i4 : Int) : Option ((Int × Int) ⊕ (Int ⊕ Int)) :=
  cond (decide (i4 < (p_s.size : Int)))
    ((ixS p_s i4).bind fun c31 =>
    (m_S_inRange N (c31.toNat : Int) (48 : Int) (57 : Int)).bind fun r33 =>
    cond r33
      ((chk ((10 : Int) * i3)).bind fun n36 =>
      (ixS p_s i4).bind fun c38 =>
      (chk (n36 + (c38.toNat : Int))).bind fun n40 =>
      (chk (n40 - (48 : Int))).bind fun n42 =>
      (chk (i4 + (1 : Int))).bind fun n44 =>
      some (.inl (n42, n44)))
      (some (.inr (.inr (-1 : Int)))))
    (some (.inr (.inl i3)))
def m_S_parseInt (N : Nat) (p_s : ByteArray) : Option (Int) :=
  cond (decide ((p_s.size : Int) = (0 : Int)))
    (some (-1 : Int))
    (cond (decide ((6 : Int) < (p_s.size : Int)))
      (some (-1 : Int))
      ((loopM (β := Int ⊕ Int) (fun s : Int × Int => m_S_parseInt_b1 N p_s s.1 s.2) N ((0 : Int), (0 : Int))).bind fun o => match o with
      | .inl e =>
        m_S_parseInt_k1 N p_s e
      | .inr v =>
        some v))
theorem w_S_parseInt (N : Nat) (p_s : ByteArray) (r : Int) (hh0 : m_S_parseInt N p_s = some r) : FnX Tryz.prog 37 [] [sA p_s] (RE (iA r) []) := by
  unfold m_S_parseInt at hh0; refine FnX.mk Tryz.func37 rfl rfl ?_; intro s hs; refine PC.seq ?_; refine PC.rg ?_; refine PL.aT rfl rfl ?_; refine PL.nn ?_; refine PC.seq ?_; refine PC.rg ?_; refine PL.aT rfl rfl ?_; refine PL.nn ?_; (iterate 2 refine PC.seq ?_); rcases cond_some hh0 with ⟨h_1, hh0⟩ | ⟨h_1, hh0⟩
  · refine PC.rg ?_; refine PL.mT rfl rfl ?_; refine PL.op rfl (Rd.lenSt rfl) ?_; refine PL.op rfl (Rd.eql rfl rfl) ?_; refine PL.mT rfl rfl ?_; (iterate 3 refine PL.gf rfl rfl h_1 ?_); refine PL.op rfl (Rd.pick_t rfl h_1) ?_; refine PL.nn ?_; refine PC.ct rfl rfl ?_; refine PC.seq ?_; refine PC.rg ?_; refine PL.aT rfl rfl ?_; refine PL.nn ?_; refine PC.ret ?_; refine thA_r ?_; obtain rfl := some_in hh0; exact FinA.mk (r := iA (-1 : Int)) (bl := []) [] (.inl rfl) rfl (rl := [.tmp 2]) (.tmp .nil) rfl rfl rfl (.t _) trivial ⟨rfl, rfl⟩
  refine PC.rg ?_; refine PL.mT rfl rfl ?_; refine PL.op rfl (Rd.lenSt rfl) ?_; refine PL.op rfl (Rd.eql rfl rfl) ?_; refine PL.mT rfl rfl ?_; refine PL.gn rfl h_1 ?_; refine PL.mT rfl rfl ?_; refine PL.gn rfl h_1 ?_; refine PL.op rfl (Rd.lenSt rfl) ?_; refine PL.gn rfl h_1 ?_; refine PL.op rfl (Rd.gtr rfl rfl) ?_; refine PL.op rfl (Rd.pick_f rfl h_1) ?_; refine PL.nn ?_; rcases cond_some hh0 with ⟨h_2, hh0⟩ | ⟨h_2, hh0⟩
  · refine PC.ct rfl h_2 ?_; refine PC.seq ?_; refine PC.rg ?_; refine PL.aT rfl rfl ?_; refine PL.nn ?_; refine PC.ret ?_; refine thA_r ?_; obtain rfl := some_in hh0; exact FinA.mk (r := iA (-1 : Int)) (bl := []) [] (.inl rfl) rfl (rl := [.tmp 2]) (.tmp .nil) rfl rfl rfl (.t _) trivial ⟨rfl, rfl⟩
  refine PC.cf rfl h_2 ?_; refine PC.skip ?_; refine thA_n ?_; (iterate 2 refine PC.seq ?_); refine PC.rg ?_; refine PL.aT rfl rfl ?_; refine PL.nn ?_; obtain ⟨o22, h_23, hh0⟩ := bind_some hh0; refine PC.cutE hs (fun x : Int => [(0, sA p_s), (3, iA x)]) (fun x => []) (fun x => m_S_parseInt_k1 N p_s x = some r) ?_ ?_
  · refine PC.block ?_; refine PC.loop hs (fun x : Nat × (Int × Int) => [(0, sA p_s), (3, iA x.2.1), (4, iA x.2.2)]) (fun x => []) (fun x => loopM (β := Int ⊕ Int) (fun s : Int × Int => m_S_parseInt_b1 N p_s s.1 s.2) x.1 x.2 = some o22) (fun x => x.1) (N, ((0 : Int), (0 : Int))) [] ⟨rfl, rfl, trivial, ⟨.t _, .t _, .t _, trivial⟩⟩ h_23 ?_
    rintro ⟨f24_, i3, i4⟩ h_26
    obtain ⟨f24, y25, rfl, hh1, kk1⟩ := loopM_some h_26
    replace hh1 : m_S_parseInt_b1 N p_s i3 i4 = some y25 := hh1
    unfold m_S_parseInt_b1 at hh1; (iterate 2 refine PC.seq ?_); refine PC.rg ?_; (iterate 2 refine PL.mT rfl rfl ?_); refine PL.op rfl (Rd.lenSt rfl) ?_; refine PL.op rfl (Rd.lss rfl rfl) ?_; refine PL.nn ?_; rcases cond_some hh1 with ⟨h_30, hh1⟩ | ⟨h_30, hh1⟩; rotate_left
    · refine PC.cf rfl h_30 ?_; refine PC.exit ?_; (iterate 2 refine thA_e ?_); refine inA_eq rfl ?_; refine thA_n ?_; obtain rfl := some_in hh1; obtain rfl : (.inl i3 : Int ⊕ Int) = o22 := kk1; exact ⟨i3, hh0, [], ⟨rfl, rfl, trivial, ⟨.t _, .t _, trivial⟩⟩⟩
    refine PC.ct rfl h_30 ?_; refine PC.skip ?_; refine thA_n ?_; refine PC.seq ?_; refine PC.block ?_; (iterate 2 refine PC.seq ?_); obtain ⟨c31, h_32, hh1⟩ := bind_some hh1; obtain ⟨r33, h_34, hh1⟩ := bind_some hh1; refine PC.rg ?_; (iterate 2 refine PL.mT rfl rfl ?_); refine PL.op rfl (Rd.ixSM rfl rfl h_32) ?_; refine PL.op rfl (Rd.u8 rfl) ?_; refine PL.callM false [] (w_S_inRange N (c31.toNat : Int) (48 : Int) (57 : Int) r33 h_34) rfl Tryz.call59 rfl ⟨.t _, .t _, .t _, trivial⟩ rfl trivial (fun h => by cases h) ?_; refine PL.op rfl (Rd.unnot rfl) ?_; refine PL.nn ?_; rcases cond_some hh1 with ⟨h_35, hh1⟩ | ⟨h_35, hh1⟩; rotate_left
    · refine PC.ct rfl (not_f h_35) ?_; refine PC.seq ?_; refine PC.rg ?_; refine PL.aT rfl rfl ?_; refine PL.nn ?_; refine PC.ret ?_; refine thA_r ?_; refine inA_r ?_; (iterate 2 refine thA_r ?_); refine inA_r ?_; refine thA_r ?_; obtain rfl := some_in hh1; obtain rfl : (.inr (-1 : Int) : Int ⊕ Int) = o22 := kk1; refine thA_r ?_; obtain rfl := some_in hh0; exact FinA.mk (r := iA (-1 : Int)) (bl := []) [] (.inl rfl) rfl (rl := [.tmp 2]) (.tmp .nil) rfl rfl rfl (.t _) trivial ⟨rfl, rfl⟩
    refine PC.cf rfl (not_t h_35) ?_; refine PC.skip ?_; refine thA_n ?_; obtain ⟨n36, h_37, hh1⟩ := bind_some hh1; obtain ⟨c38, h_39, hh1⟩ := bind_some hh1; obtain ⟨n40, h_41, hh1⟩ := bind_some hh1; obtain ⟨n42, h_43, hh1⟩ := bind_some hh1; refine PC.rg ?_; refine PL.mT rfl rfl ?_; refine PL.op rfl (Rd.mulM rfl rfl h_37) ?_; (iterate 2 refine PL.mT rfl rfl ?_); refine PL.op rfl (Rd.ixSM rfl rfl h_39) ?_; refine PL.op rfl (Rd.u8 rfl) ?_; refine PL.op rfl (Rd.addM rfl rfl h_41) ?_; refine PL.op rfl (Rd.subM rfl rfl h_43) ?_; refine PL.aT rfl rfl ?_; refine PL.nil ?_; refine inA_n ?_; refine thA_n ?_; obtain ⟨n44, h_45, hh1⟩ := bind_some hh1; refine PC.rg ?_; refine PL.mT rfl rfl ?_; refine PL.op rfl (Rd.addM rfl rfl h_45) ?_; refine PL.aT rfl rfl ?_; refine PL.nil ?_; obtain rfl := some_in hh1; refine thA_n ?_; exact ⟨(f24, (n42, n44)), Nat.lt_succ_self _, kk1, [], ⟨rfl, rfl, trivial, ⟨.t _, .t _, .t _, trivial⟩⟩⟩
  clear hh0
  rintro i21 hh0
  replace hh0 : m_S_parseInt_k1 N p_s i21 = some r := hh0
  unfold m_S_parseInt_k1 at hh0; refine thA_n ?_; (iterate 2 refine PC.seq ?_); obtain ⟨r27, h_28, hh0⟩ := bind_some hh0; refine PC.rg ?_; refine PL.mT rfl rfl ?_; refine PL.callM false [] (w_S_decimal N i21 r27 h_28) rfl Tryz.call60 rfl ⟨.t _, trivial⟩ rfl trivial (fun h => by cases h) ?_; refine PL.mT rfl rfl ?_; refine PL.op rfl (Rd.neqS rfl rfl) ?_; refine PL.nn ?_; rcases cond_some hh0 with ⟨h_29, hh0⟩ | ⟨h_29, hh0⟩; rotate_left
  · refine PC.ct rfl (not_f h_29) ?_; refine PC.seq ?_; refine PC.rg ?_; refine PL.aT rfl rfl ?_; refine PL.nn ?_; refine PC.ret ?_; refine thA_r ?_; obtain rfl := some_in hh0; exact FinA.mk (r := iA (-1 : Int)) (bl := []) [] (.inl rfl) rfl (rl := [.tmp 2]) (.tmp .nil) rfl rfl rfl (.t _) trivial ⟨rfl, rfl⟩
  refine PC.cf rfl (not_t h_29) ?_; refine PC.skip ?_; refine thA_n ?_; refine PC.seq ?_; refine PC.rg ?_; refine PL.mT rfl rfl ?_; refine PL.aT rfl rfl ?_; refine PL.nn ?_; refine PC.ret ?_; obtain rfl := some_in hh0; exact FinA.mk (r := iA i21) (bl := []) [] (.inl rfl) rfl (rl := [.tmp 2]) (.tmp .nil) rfl rfl rfl (.t _) trivial ⟨rfl, rfl⟩
def m_S_valueOf (N : Nat) (p_w : ByteArray) : Option (I_Value) :=
  cond (p_w.toList == (ByteArray.mk #[45]).toList)
    (some (I_Value.mk (0 : Int) (0 : Int) ByteArray.empty))
    ((m_S_parseInt N p_w).bind fun r2 =>
    cond (decide ((0 : Int) ≤ r2))
      ((m_S_parseInt N p_w).bind fun r5 =>
      some (I_Value.mk (1 : Int) r5 ByteArray.empty))
      (cond (p_w.toList == ByteArray.empty.toList)
        (some (I_Value.mk (2 : Int) (0 : Int) p_w))
        ((ixS p_w (0 : Int)).bind fun c8 =>
        cond (decide ((c8.toNat : Int) = ((45 : UInt8).toNat : Int)))
          ((subS p_w (1 : Int) (p_w.size : Int)).bind fun s11 =>
          (m_S_parseInt N s11).bind fun r13 =>
          cond (decide ((0 : Int) < r13))
            ((subS p_w (1 : Int) (p_w.size : Int)).bind fun s16 =>
            (m_S_parseInt N s16).bind fun r18 =>
            (chk (-r18)).bind fun n20 =>
            some (I_Value.mk (1 : Int) n20 ByteArray.empty))
            (some (I_Value.mk (2 : Int) (0 : Int) p_w)))
          (some (I_Value.mk (2 : Int) (0 : Int) p_w)))))
theorem w_S_valueOf (N : Nat) (p_w : ByteArray) (r : I_Value) (hh0 : m_S_valueOf N p_w = some r) : FnX Tryz.prog 39 [] [sA p_w] (RE (.agg [iA r.kind, iA r.num, sA r.text]) []) := by
  unfold m_S_valueOf at hh0; refine FnX.mk Tryz.func39 rfl rfl ?_; intro s hs; refine PC.seq ?_; refine PC.rg ?_; refine PL.ef rfl (Ef.alloc rfl rfl) ?_; refine PL.nm (.op 0 0) [some ⟨.mx [iA (0 : Int), iA (0 : Int), sA ByteArray.empty], 64, 0⟩] rfl rfl ?_; refine PL.nn ?_; refine PC.seq ?_; refine PC.block ?_; refine PC.seq ?_; refine PC.rg ?_; refine PL.mT rfl rfl ?_; refine PL.op rfl (Rd.eqlS rfl rfl) ?_; refine PL.aT rfl rfl ?_; refine PL.nn ?_; rcases cond_some hh0 with ⟨h_1, hh0⟩ | ⟨h_1, hh0⟩
  · refine PC.ct rfl h_1 ?_; refine PC.seq ?_; refine PC.rg ?_; refine PL.op rfl (Rd.build rfl rfl rfl rfl) ?_; refine PL.store rfl rfl rfl rfl rfl rfl rfl ?_; refine PL.nn ?_; refine PC.ret ?_; refine inA_r ?_; refine thA_r ?_; obtain rfl := some_in hh0; exact FinA.mk (r := .agg [iA (0 : Int), iA (0 : Int), sA ByteArray.empty]) (bl := []) [] (.inl rfl) rfl (rl := [.cell 2 64]) (.cellN rfl rfl rfl rfl .nil) rfl rfl rfl (.aggL ⟨.t _, .t _, .t _, trivial⟩) trivial ⟨rfl, rfl⟩
  refine PC.cf rfl h_1 ?_; refine PC.seq ?_; obtain ⟨r2, h_3, hh0⟩ := bind_some hh0; refine PC.rg ?_; refine PL.mT rfl rfl ?_; refine PL.callM false [] (w_S_parseInt N p_w r2 h_3) rfl Tryz.call37 rfl ⟨.t _, trivial⟩ rfl trivial (fun h => by cases h) ?_; refine PL.op rfl (Rd.geq rfl rfl) ?_; refine PL.aT rfl rfl ?_; refine PL.nn ?_; rcases cond_some hh0 with ⟨h_4, hh0⟩ | ⟨h_4, hh0⟩
  · refine PC.ct rfl h_4 ?_; refine PC.seq ?_; obtain ⟨r5, h_6, hh0⟩ := bind_some hh0; refine PC.rg ?_; refine PL.mT rfl rfl ?_; refine PL.callM false [] (w_S_parseInt N p_w r5 h_6) rfl Tryz.call37 rfl ⟨.t _, trivial⟩ rfl trivial (fun h => by cases h) ?_; refine PL.op rfl (Rd.build rfl rfl rfl rfl) ?_; refine PL.store rfl rfl rfl rfl rfl rfl rfl ?_; refine PL.nO [some ⟨.mx [iA (1 : Int), iA r5, sA ByteArray.empty], 64, 0⟩] rfl ?_; refine PL.nn ?_; refine PC.ret ?_; refine inA_r ?_; refine thA_r ?_; obtain rfl := some_in hh0; exact FinA.mk (r := .agg [iA (1 : Int), iA r5, sA ByteArray.empty]) (bl := []) [] (.inl rfl) rfl (rl := [.cell 2 64]) (.cellN rfl rfl rfl rfl .nil) rfl rfl rfl (.aggL ⟨.t _, .t _, .t _, trivial⟩) trivial ⟨rfl, rfl⟩
  refine PC.cf rfl h_4 ?_; refine PC.seq ?_; rcases cond_some hh0 with ⟨h_7, hh0⟩ | ⟨h_7, hh0⟩
  · refine PC.rg ?_; refine PL.mT rfl rfl ?_; refine PL.op rfl (Rd.neqS rfl rfl) ?_; refine PL.mT rfl rfl ?_; (iterate 3 refine PL.gf rfl rfl (not_t h_7) ?_); refine PL.op rfl (Rd.pick_f rfl (not_t h_7)) ?_; refine PL.mT rfl rfl ?_; (iterate 4 refine PL.gf rfl rfl rfl ?_); refine PL.op rfl (Rd.pick_f rfl rfl) ?_; refine PL.aT rfl rfl ?_; refine PL.nn ?_; refine PC.cf rfl rfl ?_; refine PC.skip ?_; refine inA_n ?_; refine thA_n ?_; refine PC.seq ?_; refine PC.rg ?_; refine PL.mT rfl rfl ?_; refine PL.op rfl (Rd.build rfl rfl rfl rfl) ?_; refine PL.store rfl rfl rfl rfl rfl rfl rfl ?_; refine PL.nO [some ⟨.mx [iA (2 : Int), iA (0 : Int), sA p_w], 64, 0⟩] rfl ?_; refine PL.nn ?_; refine PC.ret ?_; obtain rfl := some_in hh0; exact FinA.mk (r := .agg [iA (2 : Int), iA (0 : Int), sA p_w]) (bl := []) [] (.inl rfl) rfl (rl := [.cell 2 64]) (.cellN rfl rfl rfl rfl .nil) rfl rfl rfl (.aggL ⟨.t _, .t _, .t _, trivial⟩) trivial ⟨rfl, rfl⟩
  obtain ⟨c8, h_9, hh0⟩ := bind_some hh0; rcases cond_some hh0 with ⟨h_10, hh0⟩ | ⟨h_10, hh0⟩; rotate_left
  · refine PC.rg ?_; refine PL.mT rfl rfl ?_; refine PL.op rfl (Rd.neqS rfl rfl) ?_; refine PL.mT rfl rfl ?_; refine PL.gn rfl (not_f h_7) ?_; refine PL.mT rfl rfl ?_; refine PL.gn rfl (not_f h_7) ?_; refine PL.op rfl (Rd.ixSM rfl rfl h_9) ?_; refine PL.gn rfl (not_f h_7) ?_; refine PL.op rfl (Rd.eqlU rfl rfl) ?_; refine PL.op rfl (Rd.pick_t rfl (not_f h_7)) ?_; refine PL.mT rfl rfl ?_; (iterate 4 refine PL.gf rfl rfl h_10 ?_); refine PL.op rfl (Rd.pick_f rfl h_10) ?_; refine PL.aT rfl rfl ?_; refine PL.nn ?_; refine PC.cf rfl rfl ?_; refine PC.skip ?_; refine inA_n ?_; refine thA_n ?_; refine PC.seq ?_; refine PC.rg ?_; refine PL.mT rfl rfl ?_; refine PL.op rfl (Rd.build rfl rfl rfl rfl) ?_; refine PL.store rfl rfl rfl rfl rfl rfl rfl ?_; refine PL.nO [some ⟨.mx [iA (2 : Int), iA (0 : Int), sA p_w], 64, 0⟩] rfl ?_; refine PL.nn ?_; refine PC.ret ?_; obtain rfl := some_in hh0; exact FinA.mk (r := .agg [iA (2 : Int), iA (0 : Int), sA p_w]) (bl := []) [] (.inl rfl) rfl (rl := [.cell 2 64]) (.cellN rfl rfl rfl rfl .nil) rfl rfl rfl (.aggL ⟨.t _, .t _, .t _, trivial⟩) trivial ⟨rfl, rfl⟩
  obtain ⟨s11, h_12, hh0⟩ := bind_some hh0; obtain ⟨r13, h_14, hh0⟩ := bind_some hh0; refine PC.rg ?_; refine PL.mT rfl rfl ?_; refine PL.op rfl (Rd.neqS rfl rfl) ?_; refine PL.mT rfl rfl ?_; refine PL.gn rfl (not_f h_7) ?_; refine PL.mT rfl rfl ?_; refine PL.gn rfl (not_f h_7) ?_; refine PL.op rfl (Rd.ixSM rfl rfl h_9) ?_; refine PL.gn rfl (not_f h_7) ?_; refine PL.op rfl (Rd.eqlU rfl rfl) ?_; refine PL.op rfl (Rd.pick_t rfl (not_f h_7)) ?_; refine PL.mT rfl rfl ?_; refine PL.gn rfl h_10 ?_; refine PL.mT rfl rfl ?_; refine PL.gn rfl h_10 ?_; refine PL.op rfl (Rd.subSML rfl rfl h_12) ?_; refine PL.gn rfl h_10 ?_; refine PL.callM false [] (w_S_parseInt N s11 r13 h_14) rfl Tryz.call37 rfl ⟨.t _, trivial⟩ rfl trivial (fun h => by cases h) ?_; refine PL.gn rfl h_10 ?_; refine PL.op rfl (Rd.gtr rfl rfl) ?_; refine PL.op rfl (Rd.pick_t rfl h_10) ?_; refine PL.aT rfl rfl ?_; refine PL.nn ?_; rcases cond_some hh0 with ⟨h_15, hh0⟩ | ⟨h_15, hh0⟩; rotate_left
  · refine PC.cf rfl h_15 ?_; refine PC.skip ?_; refine inA_n ?_; refine thA_n ?_; refine PC.seq ?_; refine PC.rg ?_; refine PL.mT rfl rfl ?_; refine PL.op rfl (Rd.build rfl rfl rfl rfl) ?_; refine PL.store rfl rfl rfl rfl rfl rfl rfl ?_; refine PL.nO [some ⟨.mx [iA (2 : Int), iA (0 : Int), sA p_w], 64, 0⟩] rfl ?_; refine PL.nn ?_; refine PC.ret ?_; obtain rfl := some_in hh0; exact FinA.mk (r := .agg [iA (2 : Int), iA (0 : Int), sA p_w]) (bl := []) [] (.inl rfl) rfl (rl := [.cell 2 64]) (.cellN rfl rfl rfl rfl .nil) rfl rfl rfl (.aggL ⟨.t _, .t _, .t _, trivial⟩) trivial ⟨rfl, rfl⟩
  refine PC.ct rfl h_15 ?_; refine PC.seq ?_; obtain ⟨s16, h_17, hh0⟩ := bind_some hh0; obtain ⟨r18, h_19, hh0⟩ := bind_some hh0; obtain ⟨n20, h_21, hh0⟩ := bind_some hh0; refine PC.rg ?_; refine PL.mT rfl rfl ?_; refine PL.op rfl (Rd.subSML rfl rfl h_17) ?_; refine PL.callM false [] (w_S_parseInt N s16 r18 h_19) rfl Tryz.call37 rfl ⟨.t _, trivial⟩ rfl trivial (fun h => by cases h) ?_; refine PL.op rfl (Rd.negM rfl h_21) ?_; refine PL.op rfl (Rd.build rfl rfl rfl rfl) ?_; refine PL.store rfl rfl rfl rfl rfl rfl rfl ?_; refine PL.nO [some ⟨.mx [iA (1 : Int), iA n20, sA ByteArray.empty], 64, 0⟩] rfl ?_; refine PL.nn ?_; refine PC.ret ?_; refine inA_r ?_; refine thA_r ?_; obtain rfl := some_in hh0; exact FinA.mk (r := .agg [iA (1 : Int), iA n20, sA ByteArray.empty]) (bl := []) [] (.inl rfl) rfl (rl := [.cell 2 64]) (.cellN rfl rfl rfl rfl .nil) rfl rfl rfl (.aggL ⟨.t _, .t _, .t _, trivial⟩) trivial ⟨rfl, rfl⟩
def m_S_desk_alter (N : Nat) (p_d : S_desk) (p_c : I_Change) : Option (ByteArray × S_desk) :=
  (m_S_AlterTable N p_d.table p_c).bind fun r1 =>
  cond r1.2
    (some ((ByteArray.mk #[111, 107]), (S_desk.mk r1.1)))
    (some ((ByteArray.mk #[110, 111]), p_d))
theorem w_S_desk_alter (N : Nat) (p_d : S_desk) (p_c : I_Change) (r : ByteArray × S_desk) (hh0 : m_S_desk_alter N p_d p_c = some r) : FnX Tryz.prog 36 [⟨.mx [sL p_d.table.first, sL p_d.table.changes, sL p_d.table.rows], 56, 0⟩] [.op 0 0, .agg [iA p_c.kind, iA p_c.at_, iA p_c.column.kind, iA p_c.column.default.kind, iA p_c.column.default.num, sA p_c.column.default.text]] (RE (sA r.1) [⟨.mx [sL r.2.table.first, sL r.2.table.changes, sL r.2.table.rows], 56, 0⟩]) := by
  unfold m_S_desk_alter at hh0; refine FnX.mk Tryz.func36 rfl rfl ?_; intro s hs; refine PC.seq ?_; refine PC.rg ?_; refine PL.ef rfl (Ef.box rfl rfl rfl) ?_; refine PL.nm (.op 1 0) [some ⟨.mx [sL p_d.table.first, sL p_d.table.changes, sL p_d.table.rows], 56, 0⟩, some ⟨.mx [iA p_c.kind, iA p_c.at_, iA p_c.column.kind, iA p_c.column.default.kind, iA p_c.column.default.num, sA p_c.column.default.text], 74, 0⟩] rfl rfl ?_; refine PL.aT rfl rfl ?_; refine PL.nn ?_; obtain ⟨r1, h_2, hh0⟩ := bind_some hh0; refine PC.cut hs (fun _ : Unit => [(0, .op 0 0), (5, .op 1 0), (6, bA r1.2)]) (fun _ => [⟨.mx [sL p_d.table.first, sL p_d.table.changes, sL p_d.table.rows], 56, 0⟩, ⟨.mx [.os 2 0 r1.1.first.length, .os 3 0 r1.1.changes.length, .os 4 0 r1.1.rows.length], 41, 0⟩, ⟨.tr (eL r1.1.first), 67, 4⟩, ⟨.tr (eL r1.1.changes), 74, 6⟩, ⟨.tr (eL r1.1.rows), 106, 2⟩]) (fun _ => True) ?_ ?_
  · refine PC.any (id := 1) 12 (.seg [0, 1, 2, 4] (.fork (.seg [3] (.fork (.seg [5, 6, 7, 8, 9, 10, 11] .done) (.seg [9, 5, 6, 7, 8, 10, 11] .done))) (.seg [9, 3, 5, 6, 7, 8, 10, 11] .done))) [] rfl (by kernel_rfl) rfl ?_; refine PT.seg ?_; refine PR.op rfl (Rd.moveP rfl) ?_; refine PR.op rfl (Rd.nilCheckO rfl rfl) ?_; refine PR.op rfl (Rd.fieldO rfl rfl) ?_; refine PR.op rfl (Rd.loadBox rfl rfl rfl) ?_; refine PR.nil ?_; refine PT.fork ?_ ?_; rotate_left
    · refine PT.seg ?_; refine PR.efX rfl rfl (Ef.alloc rfl rfl) ?_; refine PR.nm (.op 2 0) [some ⟨.mx [sL p_d.table.first, sL p_d.table.changes, sL p_d.table.rows], 56, 0⟩, some ⟨.mx [iA p_c.kind, iA p_c.at_, iA p_c.column.kind, iA p_c.column.default.kind, iA p_c.column.default.num, sA p_c.column.default.text], 74, 0⟩, some ⟨.mx [.t (.v (.slice none 0 0)), .t (.v (.slice none 0 0)), .t (.v (.slice none 0 0))], 41, 0⟩] rfl rfl ?_; refine PR.rdE rfl rfl (Rd.loadBox rfl rfl rfl) ?_; refine PR.callM false [] (w_S_AlterTable N p_d.table p_c r1 h_2) rfl Tryz.call58 rfl ⟨.aggL ⟨.t _, .t _, .t _, trivial⟩, .aggL ⟨.t _, .t _, .t _, .t _, .t _, .t _, trivial⟩, trivial⟩ rfl trivial (fun h => by cases h) rfl ?_; refine PR.nm (.tup [.agg [.os 3 0 r1.1.first.length, .os 4 0 r1.1.changes.length, .os 5 0 r1.1.rows.length], bA r1.2]) [some ⟨.mx [sL p_d.table.first, sL p_d.table.changes, sL p_d.table.rows], 56, 0⟩, some ⟨.mx [iA p_c.kind, iA p_c.at_, iA p_c.column.kind, iA p_c.column.default.kind, iA p_c.column.default.num, sA p_c.column.default.text], 74, 0⟩, some ⟨.mx [.t (.v (.slice none 0 0)), .t (.v (.slice none 0 0)), .t (.v (.slice none 0 0))], 41, 0⟩, some ⟨.tr (eL r1.1.first), 67, 4⟩, some ⟨.tr (eL r1.1.changes), 74, 6⟩, some ⟨.tr (eL r1.1.rows), 106, 2⟩] rfl rfl ?_; refine PR.op rfl (Rd.moveU rfl) ?_; (iterate 2 refine PR.op rfl (Rd.extract rfl rfl) ?_); refine PR.store rfl rfl rfl rfl rfl rfl rfl rfl ?_; refine PR.nO [some ⟨.mx [sL p_d.table.first, sL p_d.table.changes, sL p_d.table.rows], 56, 0⟩, some ⟨.mx [iA p_c.kind, iA p_c.at_, iA p_c.column.kind, iA p_c.column.default.kind, iA p_c.column.default.num, sA p_c.column.default.text], 74, 0⟩, some ⟨.mx [.os 3 0 r1.1.first.length, .os 4 0 r1.1.changes.length, .os 5 0 r1.1.rows.length], 41, 0⟩, some ⟨.tr (eL r1.1.first), 67, 4⟩, some ⟨.tr (eL r1.1.changes), 74, 6⟩, some ⟨.tr (eL r1.1.rows), 106, 2⟩] rfl ?_; refine PR.op rfl (Rd.asnT rfl) ?_; refine PR.nil ?_; refine PT.done ?_; refine PL.nn ?_; exact ⟨(), trivial, [some 0, some 2, some 3, some 4, some 5], ⟨rfl, rfl, ⟨⟨_, rfl, rfl, rfl, .mx ⟨.t _, .t _, .t _, trivial⟩⟩, ⟨_, rfl, rfl, rfl, .mx ⟨.os rfl, .os rfl, .os rfl, trivial⟩⟩, ⟨_, rfl, rfl, rfl, .tr _⟩, ⟨_, rfl, rfl, rfl, .tr _⟩, ⟨_, rfl, rfl, rfl, .tr _⟩, trivial⟩, ⟨.op rfl, .op rfl, .t _, trivial⟩⟩⟩
    refine PT.seg ?_; refine PR.rdE rfl rfl (Rd.loadBox rfl rfl rfl) ?_; refine PR.nil ?_; refine PT.fork ?_ ?_; rotate_left
    · refine PT.seg ?_; refine PR.efX rfl rfl (Ef.alloc rfl rfl) ?_; refine PR.nm (.op 2 0) [some ⟨.mx [sL p_d.table.first, sL p_d.table.changes, sL p_d.table.rows], 56, 0⟩, some ⟨.mx [iA p_c.kind, iA p_c.at_, iA p_c.column.kind, iA p_c.column.default.kind, iA p_c.column.default.num, sA p_c.column.default.text], 74, 0⟩, some ⟨.mx [.t (.v (.slice none 0 0)), .t (.v (.slice none 0 0)), .t (.v (.slice none 0 0))], 41, 0⟩] rfl rfl ?_; refine PR.callM false [] (w_S_AlterTable N p_d.table p_c r1 h_2) rfl Tryz.call58 rfl ⟨.aggL ⟨.t _, .t _, .t _, trivial⟩, .aggL ⟨.t _, .t _, .t _, .t _, .t _, .t _, trivial⟩, trivial⟩ rfl trivial (fun h => by cases h) rfl ?_; refine PR.nm (.tup [.agg [.os 3 0 r1.1.first.length, .os 4 0 r1.1.changes.length, .os 5 0 r1.1.rows.length], bA r1.2]) [some ⟨.mx [sL p_d.table.first, sL p_d.table.changes, sL p_d.table.rows], 56, 0⟩, some ⟨.mx [iA p_c.kind, iA p_c.at_, iA p_c.column.kind, iA p_c.column.default.kind, iA p_c.column.default.num, sA p_c.column.default.text], 74, 0⟩, some ⟨.mx [.t (.v (.slice none 0 0)), .t (.v (.slice none 0 0)), .t (.v (.slice none 0 0))], 41, 0⟩, some ⟨.tr (eL r1.1.first), 67, 4⟩, some ⟨.tr (eL r1.1.changes), 74, 6⟩, some ⟨.tr (eL r1.1.rows), 106, 2⟩] rfl rfl ?_; refine PR.op rfl (Rd.moveU rfl) ?_; (iterate 2 refine PR.op rfl (Rd.extract rfl rfl) ?_); refine PR.store rfl rfl rfl rfl rfl rfl rfl rfl ?_; refine PR.nO [some ⟨.mx [sL p_d.table.first, sL p_d.table.changes, sL p_d.table.rows], 56, 0⟩, some ⟨.mx [iA p_c.kind, iA p_c.at_, iA p_c.column.kind, iA p_c.column.default.kind, iA p_c.column.default.num, sA p_c.column.default.text], 74, 0⟩, some ⟨.mx [.os 3 0 r1.1.first.length, .os 4 0 r1.1.changes.length, .os 5 0 r1.1.rows.length], 41, 0⟩, some ⟨.tr (eL r1.1.first), 67, 4⟩, some ⟨.tr (eL r1.1.changes), 74, 6⟩, some ⟨.tr (eL r1.1.rows), 106, 2⟩] rfl ?_; refine PR.op rfl (Rd.asnT rfl) ?_; refine PR.nil ?_; refine PT.done ?_; refine PL.nn ?_; exact ⟨(), trivial, [some 0, some 2, some 3, some 4, some 5], ⟨rfl, rfl, ⟨⟨_, rfl, rfl, rfl, .mx ⟨.t _, .t _, .t _, trivial⟩⟩, ⟨_, rfl, rfl, rfl, .mx ⟨.os rfl, .os rfl, .os rfl, trivial⟩⟩, ⟨_, rfl, rfl, rfl, .tr _⟩, ⟨_, rfl, rfl, rfl, .tr _⟩, ⟨_, rfl, rfl, rfl, .tr _⟩, trivial⟩, ⟨.op rfl, .op rfl, .t _, trivial⟩⟩⟩
    refine PT.seg ?_; refine PR.callM false [] (w_S_AlterTable N p_d.table p_c r1 h_2) rfl Tryz.call58 rfl ⟨.aggL ⟨.t _, .t _, .t _, trivial⟩, .aggL ⟨.t _, .t _, .t _, .t _, .t _, .t _, trivial⟩, trivial⟩ rfl trivial (fun h => by cases h) rfl ?_; refine PR.nm (.tup [.agg [.os 2 0 r1.1.first.length, .os 3 0 r1.1.changes.length, .os 4 0 r1.1.rows.length], bA r1.2]) [some ⟨.mx [sL p_d.table.first, sL p_d.table.changes, sL p_d.table.rows], 56, 0⟩, some ⟨.mx [iA p_c.kind, iA p_c.at_, iA p_c.column.kind, iA p_c.column.default.kind, iA p_c.column.default.num, sA p_c.column.default.text], 74, 0⟩, some ⟨.tr (eL r1.1.first), 67, 4⟩, some ⟨.tr (eL r1.1.changes), 74, 6⟩, some ⟨.tr (eL r1.1.rows), 106, 2⟩] rfl rfl ?_; refine PR.op rfl (Rd.moveU rfl) ?_; (iterate 2 refine PR.op rfl (Rd.extract rfl rfl) ?_); refine PR.efX rfl rfl (Ef.alloc rfl rfl) ?_; refine PR.nm (.op 5 0) [some ⟨.mx [sL p_d.table.first, sL p_d.table.changes, sL p_d.table.rows], 56, 0⟩, some ⟨.mx [iA p_c.kind, iA p_c.at_, iA p_c.column.kind, iA p_c.column.default.kind, iA p_c.column.default.num, sA p_c.column.default.text], 74, 0⟩, some ⟨.tr (eL r1.1.first), 67, 4⟩, some ⟨.tr (eL r1.1.changes), 74, 6⟩, some ⟨.tr (eL r1.1.rows), 106, 2⟩, some ⟨.mx [.t (.v (.slice none 0 0)), .t (.v (.slice none 0 0)), .t (.v (.slice none 0 0))], 41, 0⟩] rfl rfl ?_; refine PR.store rfl rfl rfl rfl rfl rfl rfl rfl ?_; refine PR.nO [some ⟨.mx [sL p_d.table.first, sL p_d.table.changes, sL p_d.table.rows], 56, 0⟩, some ⟨.mx [iA p_c.kind, iA p_c.at_, iA p_c.column.kind, iA p_c.column.default.kind, iA p_c.column.default.num, sA p_c.column.default.text], 74, 0⟩, some ⟨.tr (eL r1.1.first), 67, 4⟩, some ⟨.tr (eL r1.1.changes), 74, 6⟩, some ⟨.tr (eL r1.1.rows), 106, 2⟩, some ⟨.mx [.os 2 0 r1.1.first.length, .os 3 0 r1.1.changes.length, .os 4 0 r1.1.rows.length], 41, 0⟩] rfl ?_; refine PR.op rfl (Rd.asnT rfl) ?_; refine PR.nil ?_; refine PT.done ?_; refine PL.nn ?_; exact ⟨(), trivial, [some 0, some 5, some 2, some 3, some 4], ⟨rfl, rfl, ⟨⟨_, rfl, rfl, rfl, .mx ⟨.t _, .t _, .t _, trivial⟩⟩, ⟨_, rfl, rfl, rfl, .mx ⟨.os rfl, .os rfl, .os rfl, trivial⟩⟩, ⟨_, rfl, rfl, rfl, .tr _⟩, ⟨_, rfl, rfl, rfl, .tr _⟩, ⟨_, rfl, rfl, rfl, .tr _⟩, trivial⟩, ⟨.op rfl, .op rfl, .t _, trivial⟩⟩⟩
  rintro ⟨⟩ -
  (iterate 2 refine PC.seq ?_); refine PC.rg ?_; refine PL.mT rfl rfl ?_; refine PL.op rfl (Rd.unnot rfl) ?_; refine PL.nn ?_; rcases cond_some hh0 with ⟨h_3, hh0⟩ | ⟨h_3, hh0⟩; rotate_left
  · refine PC.ct rfl (not_f h_3) ?_; refine PC.seq ?_; refine PC.rg ?_; refine PL.aT rfl rfl ?_; refine PL.nn ?_; refine PC.ret ?_; refine thA_r ?_; obtain rfl := some_in hh0; exact FinA.mk (r := sA (((ByteArray.mk #[110, 111]), p_d).1)) (bl := [⟨.mx [sL (((ByteArray.mk #[110, 111]), p_d).2.table.first), sL (((ByteArray.mk #[110, 111]), p_d).2.table.changes), sL (((ByteArray.mk #[110, 111]), p_d).2.table.rows)], 56, 0⟩]) [some 0] (.inl rfl) rfl (rl := [.tmp 4]) (.tmp .nil) rfl rfl rfl (.t _) ⟨⟨_, rfl, rfl, rfl, .mx ⟨.t _, .t _, .t _, trivial⟩⟩, trivial⟩ ⟨rfl, rfl⟩
  refine PC.cf rfl (not_t h_3) ?_; refine PC.skip ?_; refine thA_n ?_; refine PC.seq ?_; refine PC.rg ?_; refine PL.op rfl (Rd.moveP rfl) ?_; refine PL.op rfl (Rd.loadBox rfl rfl rfl) ?_; refine PL.op rfl (Rd.nilCheckO rfl rfl) ?_; refine PL.op rfl (Rd.fieldO rfl rfl) ?_; refine PL.store rfl rfl rfl rfl rfl rfl rfl ?_; refine PL.nO [some ⟨.mx [.os 2 0 r1.1.first.length, .os 3 0 r1.1.changes.length, .os 4 0 r1.1.rows.length], 56, 0⟩, some ⟨.mx [.os 2 0 r1.1.first.length, .os 3 0 r1.1.changes.length, .os 4 0 r1.1.rows.length], 41, 0⟩, some ⟨.tr (eL r1.1.first), 67, 4⟩, some ⟨.tr (eL r1.1.changes), 74, 6⟩, some ⟨.tr (eL r1.1.rows), 106, 2⟩] rfl ?_; refine PL.nn ?_; refine PC.seq ?_; refine PC.rg ?_; refine PL.aT rfl rfl ?_; refine PL.nn ?_; refine PC.ret ?_; obtain rfl := some_in hh0; exact FinA.mk (r := sA (((ByteArray.mk #[111, 107]), (S_desk.mk r1.1)).1)) (bl := [⟨.mx [sL (((ByteArray.mk #[111, 107]), (S_desk.mk r1.1)).2.table.first), sL (((ByteArray.mk #[111, 107]), (S_desk.mk r1.1)).2.table.changes), sL (((ByteArray.mk #[111, 107]), (S_desk.mk r1.1)).2.table.rows)], 56, 0⟩]) [some 0] (.inl rfl) rfl (rl := [.tmp 4]) (.tmp .nil) rfl rfl rfl (.t _) ⟨⟨_, rfl, rfl, rfl, .mx ⟨.own rfl (by first | decide | exact List.not_mem_nil) rfl rfl, .own rfl (by first | decide | exact List.not_mem_nil) rfl rfl, .own rfl (by first | decide | exact List.not_mem_nil) rfl rfl, trivial⟩⟩, trivial⟩ ⟨rfl, rfl⟩
def m_S_desk_insert_k1 (N : Nat) (p_d : S_desk) (v12 : (List I_Value)) : Option (ByteArray × S_desk) :=
  (m_S_InsertRow N p_d.table v12).bind fun r18 =>
  cond r18.2
    (some ((ByteArray.mk #[111, 107]), (S_desk.mk r18.1)))
    (some ((ByteArray.mk #[110, 111]), p_d))
def m_S_desk_insert_b1 (N : Nat) (p_words : (List ByteArray)) (ok1 : Int) (v2 : (List I_Value)) : Option ((Int × (List I_Value)) ⊕ (List I_Value)) :=
  cond (decide (ok1 < (p_words.length : Int)))
    ((ixI p_words ok1).bind fun x22 =>
    (m_S_valueOf N x22).bind fun r24 =>
    (appM 32 v2 [r24]).bind fun xs26 =>
    (chk (ok1 + (1 : Int))).bind fun n28 =>
    some (.inl (n28, xs26)))
    (some (.inr v2))
def m_S_desk_insert (N : Nat) (p_d : S_desk) (p_words : (List ByteArray)) : Option (ByteArray × S_desk) :=
  (loopM (β := (List I_Value)) (fun s : Int × (List I_Value) => m_S_desk_insert_b1 N p_words s.1 s.2) N ((0 : Int), ([] : List I_Value))).bind fun e =>
  m_S_desk_insert_k1 N p_d e
theorem w_S_desk_insert (N : Nat) (p_d : S_desk) (p_words : (List ByteArray)) (r : ByteArray × S_desk) (hh0 : m_S_desk_insert N p_d p_words = some r) : FnX Tryz.prog 40 [⟨.mx [sL p_d.table.first, sL p_d.table.changes, sL p_d.table.rows], 56, 0⟩] [.op 0 0, sL p_words] (RE (sA r.1) [⟨.mx [sL r.2.table.first, sL r.2.table.changes, sL r.2.table.rows], 56, 0⟩]) := by
  unfold m_S_desk_insert at hh0; refine FnX.mk Tryz.func40 rfl rfl ?_; intro s hs; refine PC.seq ?_; refine PC.rg ?_; refine PL.aT rfl rfl ?_; refine PL.nn ?_; refine PC.seq ?_; refine PC.rg ?_; refine PL.ef rfl (Ef.lit0M I_Value) ?_; refine PL.nm (.os 1 0 0) [some ⟨.mx [sL p_d.table.first, sL p_d.table.changes, sL p_d.table.rows], 56, 0⟩, some ⟨.tr (eL ([] : List I_Value)), 64, 3⟩] rfl rfl ?_; refine PL.op rfl (Rd.asnO rfl) ?_; refine PL.nn ?_; (iterate 2 refine PC.seq ?_); refine PC.rg ?_; refine PL.aT rfl rfl ?_; refine PL.nn ?_; obtain ⟨o13, h_14, hh0⟩ := bind_some hh0; refine PC.cutE hs (fun x : (List I_Value) => [(0, .op 0 0), (5, .os 1 0 x.length)]) (fun x => [⟨.mx [sL p_d.table.first, sL p_d.table.changes, sL p_d.table.rows], 56, 0⟩, ⟨.tr (eL x), 64, 3⟩]) (fun x => m_S_desk_insert_k1 N p_d x = some r) ?_ ?_
  · refine PC.block ?_; refine PC.loop hs (fun x : Nat × (Int × (List I_Value)) => [(0, .op 0 0), (1, sL p_words), (5, .os 1 0 x.2.2.length), (6, iA x.2.1)]) (fun x => [⟨.mx [sL p_d.table.first, sL p_d.table.changes, sL p_d.table.rows], 56, 0⟩, ⟨.tr (eL x.2.2), 64, 3⟩]) (fun x => loopM (β := (List I_Value)) (fun s : Int × (List I_Value) => m_S_desk_insert_b1 N p_words s.1 s.2) x.1 x.2 = some o13) (fun x => x.1) (N, ((0 : Int), ([] : List I_Value))) [some 0, some 1] ⟨rfl, rfl, ⟨⟨_, rfl, rfl, rfl, .mx ⟨.t _, .t _, .t _, trivial⟩⟩, ⟨_, rfl, rfl, rfl, .tr _⟩, trivial⟩, ⟨.op rfl, .t _, .os rfl, .t _, trivial⟩⟩ h_14 ?_
    rintro ⟨f15_, ok1, v2⟩ h_17
    obtain ⟨f15, y16, rfl, hh1, kk1⟩ := loopM_some h_17
    replace hh1 : m_S_desk_insert_b1 N p_words ok1 v2 = some y16 := hh1
    unfold m_S_desk_insert_b1 at hh1; (iterate 2 refine PC.seq ?_); refine PC.rg ?_; (iterate 2 refine PL.mT rfl rfl ?_); refine PL.op rfl (Rd.lenT rfl) ?_; refine PL.op rfl (Rd.lss rfl rfl) ?_; refine PL.nn ?_; rcases cond_some hh1 with ⟨h_21, hh1⟩ | ⟨h_21, hh1⟩; rotate_left
    · refine PC.cf rfl h_21 ?_; refine PC.exit ?_; (iterate 2 refine thA_e ?_); refine inA_eq rfl ?_; refine thA_n ?_; obtain rfl := some_in hh1; obtain rfl : (v2 : (List I_Value)) = o13 := kk1; exact ⟨v2, hh0, [some 0, some 1], ⟨rfl, rfl, ⟨⟨_, rfl, rfl, rfl, .mx ⟨.t _, .t _, .t _, trivial⟩⟩, ⟨_, rfl, rfl, rfl, .tr _⟩, trivial⟩, ⟨.op rfl, .os rfl, trivial⟩⟩⟩
    refine PC.ct rfl h_21 ?_; refine PC.skip ?_; refine thA_n ?_; refine PC.seq ?_; refine PC.block ?_; obtain ⟨x22, h_23, hh1⟩ := bind_some hh1; obtain ⟨r24, h_25, hh1⟩ := bind_some hh1; obtain ⟨xs26, h_27, hh1⟩ := bind_some hh1; refine PC.rg ?_; refine PL.op rfl (Rd.moveO rfl) ?_; (iterate 2 refine PL.mT rfl rfl ?_); refine PL.op rfl (Rd.ixM rfl rfl h_23) ?_; refine PL.op rfl (Rd.elM1 rfl h_23 rfl rfl) ?_; refine PL.callM false [] (w_S_valueOf N x22 r24 h_25) rfl Tryz.call39 rfl ⟨.t _, trivial⟩ rfl trivial (fun h => by cases h) ?_; refine PL.ef rfl (Ef.litM (α := I_Value) [r24] [_] rfl rfl (by decide) rfl rfl rfl rfl) ?_; refine PL.nm (.os 2 0 1) [some ⟨.mx [sL p_d.table.first, sL p_d.table.changes, sL p_d.table.rows], 56, 0⟩, some ⟨.tr (eL v2), 64, 3⟩, some ⟨.tr (eL [r24]), 64, 3⟩] rfl rfl ?_; refine PL.apM hs rfl rfl rfl rfl (SrcA.ownE rfl rfl rfl) rfl rfl rfl rfl h_27 ?_; refine PL.nm (.os 3 0 xs26.length) [some ⟨.mx [sL p_d.table.first, sL p_d.table.changes, sL p_d.table.rows], 56, 0⟩, none, some ⟨.tr (eL [r24]), 64, 3⟩, some ⟨.tr (eL xs26), 64, 3⟩] rfl rfl ?_; refine PL.op rfl (Rd.asnO rfl) ?_; refine PL.nil ?_; refine inA_n ?_; refine thA_n ?_; obtain ⟨n28, h_29, hh1⟩ := bind_some hh1; refine PC.rg ?_; refine PL.mT rfl rfl ?_; refine PL.op rfl (Rd.addM rfl rfl h_29) ?_; refine PL.aT rfl rfl ?_; refine PL.nil ?_; obtain rfl := some_in hh1; refine thA_n ?_; exact ⟨(f15, (n28, xs26)), Nat.lt_succ_self _, kk1, [some 0, some 3], ⟨rfl, rfl, ⟨⟨_, rfl, rfl, rfl, .mx ⟨.t _, .t _, .t _, trivial⟩⟩, ⟨_, rfl, rfl, rfl, .tr _⟩, trivial⟩, ⟨.op rfl, .t _, .os rfl, .t _, trivial⟩⟩⟩
  clear hh0
  rintro v12 hh0
  replace hh0 : m_S_desk_insert_k1 N p_d v12 = some r := hh0
  unfold m_S_desk_insert_k1 at hh0; refine thA_n ?_; refine PC.seq ?_; obtain ⟨r18, h_19, hh0⟩ := bind_some hh0; refine PC.rg ?_; refine PL.op rfl (Rd.moveP rfl) ?_; refine PL.op rfl (Rd.nilCheckO rfl rfl) ?_; refine PL.op rfl (Rd.fieldO rfl rfl) ?_; refine PL.op rfl (Rd.loadBox rfl rfl rfl) ?_; refine PL.op rfl (Rd.moveO rfl) ?_; refine PL.frz hs 1 2 [(5, sL v12), (29, sL v12)] [some ⟨.mx [sL p_d.table.first, sL p_d.table.changes, sL p_d.table.rows], 56, 0⟩, none] rfl rfl ⟨(.own rfl (by decide) rfl rfl), (.own rfl (by decide) rfl rfl), trivial⟩ ⟨⟨rfl, .inl rfl⟩, trivial⟩ ?_; refine PL.callM false [] (w_S_InsertRow N p_d.table v12 r18 h_19) rfl Tryz.call61 rfl ⟨.aggL ⟨.t _, .t _, .t _, trivial⟩, .t _, trivial⟩ rfl trivial (fun h => by cases h) ?_; refine PL.nm (.tup [.agg [.os 2 0 r18.1.first.length, .os 3 0 r18.1.changes.length, .os 4 0 r18.1.rows.length], bA r18.2]) [some ⟨.mx [sL p_d.table.first, sL p_d.table.changes, sL p_d.table.rows], 56, 0⟩, none, some ⟨.tr (eL r18.1.first), 67, 4⟩, some ⟨.tr (eL r18.1.changes), 74, 6⟩, some ⟨.tr (eL r18.1.rows), 106, 2⟩] rfl rfl ?_; refine PL.op rfl (Rd.moveU rfl) ?_; (iterate 2 refine PL.op rfl (Rd.extract rfl rfl) ?_); refine PL.ef rfl (Ef.alloc rfl rfl) ?_; refine PL.nm (.op 5 0) [some ⟨.mx [sL p_d.table.first, sL p_d.table.changes, sL p_d.table.rows], 56, 0⟩, none, some ⟨.tr (eL r18.1.first), 67, 4⟩, some ⟨.tr (eL r18.1.changes), 74, 6⟩, some ⟨.tr (eL r18.1.rows), 106, 2⟩, some ⟨.mx [.t (.v (.slice none 0 0)), .t (.v (.slice none 0 0)), .t (.v (.slice none 0 0))], 41, 0⟩] rfl rfl ?_; refine PL.store rfl rfl rfl rfl rfl rfl rfl ?_; refine PL.nO [some ⟨.mx [sL p_d.table.first, sL p_d.table.changes, sL p_d.table.rows], 56, 0⟩, none, some ⟨.tr (eL r18.1.first), 67, 4⟩, some ⟨.tr (eL r18.1.changes), 74, 6⟩, some ⟨.tr (eL r18.1.rows), 106, 2⟩, some ⟨.mx [.os 2 0 r18.1.first.length, .os 3 0 r18.1.changes.length, .os 4 0 r18.1.rows.length], 41, 0⟩] rfl ?_; refine PL.aT rfl rfl ?_; refine PL.nn ?_; (iterate 2 refine PC.seq ?_); refine PC.rg ?_; refine PL.mT rfl rfl ?_; refine PL.op rfl (Rd.unnot rfl) ?_; refine PL.nn ?_; rcases cond_some hh0 with ⟨h_20, hh0⟩ | ⟨h_20, hh0⟩; rotate_left
  · refine PC.ct rfl (not_f h_20) ?_; refine PC.seq ?_; refine PC.rg ?_; refine PL.aT rfl rfl ?_; refine PL.nn ?_; refine PC.ret ?_; refine thA_r ?_; obtain rfl := some_in hh0; exact FinA.mk (r := sA (((ByteArray.mk #[110, 111]), p_d).1)) (bl := [⟨.mx [sL (((ByteArray.mk #[110, 111]), p_d).2.table.first), sL (((ByteArray.mk #[110, 111]), p_d).2.table.changes), sL (((ByteArray.mk #[110, 111]), p_d).2.table.rows)], 56, 0⟩]) [some 0] (.inl rfl) rfl (rl := [.tmp 4]) (.tmp .nil) rfl rfl rfl (.t _) ⟨⟨_, rfl, rfl, rfl, .mx ⟨.t _, .t _, .t _, trivial⟩⟩, trivial⟩ ⟨rfl, rfl⟩
  refine PC.cf rfl (not_t h_20) ?_; refine PC.skip ?_; refine thA_n ?_; refine PC.seq ?_; refine PC.rg ?_; refine PL.op rfl (Rd.moveP rfl) ?_; refine PL.op rfl (Rd.loadBox rfl rfl rfl) ?_; refine PL.op rfl (Rd.nilCheckO rfl rfl) ?_; refine PL.op rfl (Rd.fieldO rfl rfl) ?_; refine PL.store rfl rfl rfl rfl rfl rfl rfl ?_; refine PL.nO [some ⟨.mx [.os 2 0 r18.1.first.length, .os 3 0 r18.1.changes.length, .os 4 0 r18.1.rows.length], 56, 0⟩, none, some ⟨.tr (eL r18.1.first), 67, 4⟩, some ⟨.tr (eL r18.1.changes), 74, 6⟩, some ⟨.tr (eL r18.1.rows), 106, 2⟩, some ⟨.mx [.os 2 0 r18.1.first.length, .os 3 0 r18.1.changes.length, .os 4 0 r18.1.rows.length], 41, 0⟩] rfl ?_; refine PL.nn ?_; refine PC.seq ?_; refine PC.rg ?_; refine PL.aT rfl rfl ?_; refine PL.nn ?_; refine PC.ret ?_; obtain rfl := some_in hh0; exact FinA.mk (r := sA (((ByteArray.mk #[111, 107]), (S_desk.mk r18.1)).1)) (bl := [⟨.mx [sL (((ByteArray.mk #[111, 107]), (S_desk.mk r18.1)).2.table.first), sL (((ByteArray.mk #[111, 107]), (S_desk.mk r18.1)).2.table.changes), sL (((ByteArray.mk #[111, 107]), (S_desk.mk r18.1)).2.table.rows)], 56, 0⟩]) [some 0] (.inl rfl) rfl (rl := [.tmp 4]) (.tmp .nil) rfl rfl rfl (.t _) ⟨⟨_, rfl, rfl, rfl, .mx ⟨.own rfl (by first | decide | exact List.not_mem_nil) rfl rfl, .own rfl (by first | decide | exact List.not_mem_nil) rfl rfl, .own rfl (by first | decide | exact List.not_mem_nil) rfl rfl, trivial⟩⟩, trivial⟩ ⟨rfl, rfl⟩
def m_S_desk_rewrite (N : Nat) (p_d : S_desk) (p_many : Int) : Option (ByteArray × S_desk) :=
  (m_S_validTable N p_d.table).bind fun r1 =>
  cond r1
    (cond (decide (p_many < (0 : Int)))
      (some ((ByteArray.mk #[110, 111]), p_d))
      ((m_S_RewriteRows N p_d.table p_many).bind fun r5 =>
      some ((ByteArray.mk #[111, 107]), (S_desk.mk r5))))
    (some ((ByteArray.mk #[110, 111]), p_d))
theorem w_S_desk_rewrite (N : Nat) (p_d : S_desk) (p_many : Int) (r : ByteArray × S_desk) (hh0 : m_S_desk_rewrite N p_d p_many = some r) : FnX Tryz.prog 41 [⟨.mx [sL p_d.table.first, sL p_d.table.changes, sL p_d.table.rows], 56, 0⟩] [.op 0 0, iA p_many] (RE (sA r.1) [⟨.mx [sL r.2.table.first, sL r.2.table.changes, sL r.2.table.rows], 56, 0⟩]) := by
  unfold m_S_desk_rewrite at hh0; refine FnX.mk Tryz.func41 rfl rfl ?_; intro s hs; refine PC.seq ?_; refine PC.rg ?_; refine PL.aT rfl rfl ?_; refine PL.nn ?_; (iterate 2 refine PC.seq ?_); obtain ⟨r1, h_2, hh0⟩ := bind_some hh0; rcases cond_some hh0 with ⟨h_3, hh0⟩ | ⟨h_3, hh0⟩; rotate_left
  · refine PC.rg ?_; refine PL.op rfl (Rd.moveP rfl) ?_; refine PL.op rfl (Rd.nilCheckO rfl rfl) ?_; refine PL.op rfl (Rd.fieldO rfl rfl) ?_; refine PL.op rfl (Rd.loadBox rfl rfl rfl) ?_; refine PL.callM false [] (w_S_validTable N p_d.table r1 h_2) rfl Tryz.call62 rfl ⟨.aggL ⟨.t _, .t _, .t _, trivial⟩, trivial⟩ rfl trivial (fun h => by cases h) ?_; refine PL.op rfl (Rd.unnot rfl) ?_; refine PL.mT rfl rfl ?_; (iterate 2 refine PL.gf rfl rfl (not_f h_3) ?_); refine PL.op rfl (Rd.pick_t rfl (not_f h_3)) ?_; refine PL.nn ?_; refine PC.ct rfl rfl ?_; refine PC.seq ?_; refine PC.rg ?_; refine PL.aT rfl rfl ?_; refine PL.nn ?_; refine PC.ret ?_; refine thA_r ?_; obtain rfl := some_in hh0; exact FinA.mk (r := sA (((ByteArray.mk #[110, 111]), p_d).1)) (bl := [⟨.mx [sL (((ByteArray.mk #[110, 111]), p_d).2.table.first), sL (((ByteArray.mk #[110, 111]), p_d).2.table.changes), sL (((ByteArray.mk #[110, 111]), p_d).2.table.rows)], 56, 0⟩]) [some 0] (.inl rfl) rfl (rl := [.tmp 4]) (.tmp .nil) rfl rfl rfl (.t _) ⟨⟨_, rfl, rfl, rfl, .mx ⟨.t _, .t _, .t _, trivial⟩⟩, trivial⟩ ⟨rfl, rfl⟩
  refine PC.rg ?_; refine PL.op rfl (Rd.moveP rfl) ?_; refine PL.op rfl (Rd.nilCheckO rfl rfl) ?_; refine PL.op rfl (Rd.fieldO rfl rfl) ?_; refine PL.op rfl (Rd.loadBox rfl rfl rfl) ?_; refine PL.callM false [] (w_S_validTable N p_d.table r1 h_2) rfl Tryz.call62 rfl ⟨.aggL ⟨.t _, .t _, .t _, trivial⟩, trivial⟩ rfl trivial (fun h => by cases h) ?_; refine PL.op rfl (Rd.unnot rfl) ?_; refine PL.mT rfl rfl ?_; refine PL.gn rfl (not_t h_3) ?_; refine PL.mT rfl rfl ?_; refine PL.gn rfl (not_t h_3) ?_; refine PL.op rfl (Rd.lss rfl rfl) ?_; refine PL.op rfl (Rd.pick_f rfl (not_t h_3)) ?_; refine PL.nn ?_; rcases cond_some hh0 with ⟨h_4, hh0⟩ | ⟨h_4, hh0⟩
  · refine PC.ct rfl h_4 ?_; refine PC.seq ?_; refine PC.rg ?_; refine PL.aT rfl rfl ?_; refine PL.nn ?_; refine PC.ret ?_; refine thA_r ?_; obtain rfl := some_in hh0; exact FinA.mk (r := sA (((ByteArray.mk #[110, 111]), p_d).1)) (bl := [⟨.mx [sL (((ByteArray.mk #[110, 111]), p_d).2.table.first), sL (((ByteArray.mk #[110, 111]), p_d).2.table.changes), sL (((ByteArray.mk #[110, 111]), p_d).2.table.rows)], 56, 0⟩]) [some 0] (.inl rfl) rfl (rl := [.tmp 4]) (.tmp .nil) rfl rfl rfl (.t _) ⟨⟨_, rfl, rfl, rfl, .mx ⟨.t _, .t _, .t _, trivial⟩⟩, trivial⟩ ⟨rfl, rfl⟩
  refine PC.cf rfl h_4 ?_; refine PC.skip ?_; refine thA_n ?_; refine PC.seq ?_; obtain ⟨r5, h_6, hh0⟩ := bind_some hh0; refine PC.rg ?_; (iterate 2 refine PL.op rfl (Rd.moveP rfl) ?_); refine PL.op rfl (Rd.nilCheckO rfl rfl) ?_; refine PL.op rfl (Rd.fieldO rfl rfl) ?_; refine PL.op rfl (Rd.loadBox rfl rfl rfl) ?_; refine PL.mT rfl rfl ?_; refine PL.callM false [] (w_S_RewriteRows N p_d.table p_many r5 h_6) rfl Tryz.call63 rfl ⟨.aggL ⟨.t _, .t _, .t _, trivial⟩, .t _, trivial⟩ rfl trivial (fun h => by cases h) ?_; refine PL.nm (.agg [.os 1 0 r5.first.length, .os 2 0 r5.changes.length, .os 3 0 r5.rows.length]) [some ⟨.mx [sL p_d.table.first, sL p_d.table.changes, sL p_d.table.rows], 56, 0⟩, some ⟨.tr (eL r5.first), 67, 4⟩, some ⟨.tr (eL r5.changes), 74, 6⟩, some ⟨.tr (eL r5.rows), 106, 2⟩] rfl rfl ?_; refine PL.op rfl (Rd.nilCheckO rfl rfl) ?_; refine PL.op rfl (Rd.fieldO rfl rfl) ?_; refine PL.store rfl rfl rfl rfl rfl rfl rfl ?_; refine PL.nO [some ⟨.mx [.os 1 0 r5.first.length, .os 2 0 r5.changes.length, .os 3 0 r5.rows.length], 56, 0⟩, some ⟨.tr (eL r5.first), 67, 4⟩, some ⟨.tr (eL r5.changes), 74, 6⟩, some ⟨.tr (eL r5.rows), 106, 2⟩] rfl ?_; refine PL.nn ?_; refine PC.seq ?_; refine PC.rg ?_; refine PL.aT rfl rfl ?_; refine PL.nn ?_; refine PC.ret ?_; obtain rfl := some_in hh0; exact FinA.mk (r := sA (((ByteArray.mk #[111, 107]), (S_desk.mk r5)).1)) (bl := [⟨.mx [sL (((ByteArray.mk #[111, 107]), (S_desk.mk r5)).2.table.first), sL (((ByteArray.mk #[111, 107]), (S_desk.mk r5)).2.table.changes), sL (((ByteArray.mk #[111, 107]), (S_desk.mk r5)).2.table.rows)], 56, 0⟩]) [some 0] (.inl rfl) rfl (rl := [.tmp 4]) (.tmp .nil) rfl rfl rfl (.t _) ⟨⟨_, rfl, rfl, rfl, .mx ⟨.own rfl (by first | decide | exact List.not_mem_nil) rfl rfl, .own rfl (by first | decide | exact List.not_mem_nil) rfl rfl, .own rfl (by first | decide | exact List.not_mem_nil) rfl rfl, trivial⟩⟩, trivial⟩ ⟨rfl, rfl⟩
def m_S_wordOf (N : Nat) (p_v : I_Value) : Option (ByteArray) :=
  cond (decide (p_v.kind = (1 : Int)))
    ((m_S_decimal N p_v.num).bind fun r2 =>
    some r2)
    (cond (decide (p_v.kind = (2 : Int)))
      (some p_v.text)
      (some (ByteArray.mk #[45])))
theorem w_S_wordOf (N : Nat) (p_v : I_Value) (r : ByteArray) (hh0 : m_S_wordOf N p_v = some r) : FnX Tryz.prog 65 [] [.agg [iA p_v.kind, iA p_v.num, sA p_v.text]] (RE (sA r) []) := by
  unfold m_S_wordOf at hh0; refine FnX.mk Tryz.func65 rfl rfl ?_; intro s hs; refine PC.seq ?_; refine PC.rg ?_; refine PL.ef rfl (Ef.box rfl rfl rfl) ?_; refine PL.nm (.op 0 0) [some ⟨.mx [iA p_v.kind, iA p_v.num, sA p_v.text], 64, 0⟩] rfl rfl ?_; refine PL.aT rfl rfl ?_; refine PL.nn ?_; (iterate 2 refine PC.seq ?_); refine PC.rg ?_; refine PL.op rfl (Rd.fieldO rfl rfl) ?_; refine PL.op rfl (Rd.loadO rfl rfl rfl) ?_; refine PL.nn ?_; refine PC.block ?_; refine PC.seq ?_; refine PC.rg ?_; refine PL.op rfl (Rd.eql rfl rfl) ?_; refine PL.aT rfl rfl ?_; refine PL.nn ?_; rcases cond_some hh0 with ⟨h_1, hh0⟩ | ⟨h_1, hh0⟩
  · refine PC.ct rfl h_1 ?_; refine PC.seq ?_; obtain ⟨r2, h_3, hh0⟩ := bind_some hh0; refine PC.rg ?_; refine PL.op rfl (Rd.fieldO rfl rfl) ?_; refine PL.op rfl (Rd.loadO rfl rfl rfl) ?_; refine PL.callM false [] (w_S_decimal N p_v.num r2 h_3) rfl Tryz.call60 rfl ⟨.t _, trivial⟩ rfl trivial (fun h => by cases h) ?_; refine PL.aT rfl rfl ?_; refine PL.nn ?_; refine PC.ret ?_; refine inA_r ?_; refine thA_r ?_; obtain rfl := some_in hh0; exact FinA.mk (r := sA r2) (bl := []) [] (.inl rfl) rfl (rl := [.tmp 2]) (.tmp .nil) rfl rfl rfl (.t _) trivial ⟨rfl, rfl⟩
  refine PC.cf rfl h_1 ?_; refine PC.seq ?_; refine PC.rg ?_; refine PL.op rfl (Rd.eql rfl rfl) ?_; refine PL.aT rfl rfl ?_; refine PL.nn ?_; rcases cond_some hh0 with ⟨h_4, hh0⟩ | ⟨h_4, hh0⟩; rotate_left
  · refine PC.cf rfl h_4 ?_; refine PC.skip ?_; refine inA_n ?_; refine thA_n ?_; refine PC.seq ?_; refine PC.rg ?_; refine PL.aT rfl rfl ?_; refine PL.nn ?_; refine PC.ret ?_; obtain rfl := some_in hh0; exact FinA.mk (r := sA (ByteArray.mk #[45])) (bl := []) [] (.inl rfl) rfl (rl := [.tmp 2]) (.tmp .nil) rfl rfl rfl (.t _) trivial ⟨rfl, rfl⟩
  refine PC.ct rfl h_4 ?_; refine PC.seq ?_; refine PC.rg ?_; refine PL.op rfl (Rd.fieldO rfl rfl) ?_; refine PL.op rfl (Rd.loadO rfl rfl rfl) ?_; refine PL.aT rfl rfl ?_; refine PL.nn ?_; refine PC.ret ?_; refine inA_r ?_; refine thA_r ?_; obtain rfl := some_in hh0; exact FinA.mk (r := sA p_v.text) (bl := []) [] (.inl rfl) rfl (rl := [.tmp 2]) (.tmp .nil) rfl rfl rfl (.t _) trivial ⟨rfl, rfl⟩
def m_S_desk_rows_k3 (N : Nat) (p_d : S_desk) (list117 : ByteArray) : Option (ByteArray × S_desk) :=
  some (list117, p_d)
def m_S_desk_rows_k4 (N : Nat) (k4 : Int) (list151 : ByteArray) : Option ((ByteArray × Int) ⊕ ByteArray) :=
  (chk (k4 + (1 : Int))).bind fun n157 =>
  some (.inl (list151, n157))
def m_S_desk_rows_b4 (N : Nat) (r1 : ((List (List I_Value)))) (k4 : Int) (list127 : ByteArray) (i128 : Int) : Option ((ByteArray × Int) ⊕ ByteArray) :=
  (ixI r1 k4).bind fun x159 =>
  cond (decide (i128 < (x159.length : Int)))
    (cond (decide ((0 : Int) < i128))
      ((addS list127 (ByteArray.mk #[32])).bind fun s163 =>
      (ixI x159 i128).bind fun x165 =>
      (m_S_wordOf N x165).bind fun r167 =>
      (addS s163 r167).bind fun s169 =>
      (chk (i128 + (1 : Int))).bind fun n171 =>
      some (.inl (s169, n171)))
      ((ixI x159 i128).bind fun x173 =>
      (m_S_wordOf N x173).bind fun r175 =>
      (addS list127 r175).bind fun s177 =>
      (chk (i128 + (1 : Int))).bind fun n179 =>
      some (.inl (s177, n179))))
    (some (.inr list127))
def m_S_desk_rows_k5 (N : Nat) (k4 : Int) (list205 : ByteArray) : Option ((ByteArray × Int) ⊕ ByteArray) :=
  (chk (k4 + (1 : Int))).bind fun n211 =>
  some (.inl (list205, n211))
def m_S_desk_rows_b5 (N : Nat) (r1 : ((List (List I_Value)))) (k4 : Int) (list181 : ByteArray) (i182 : Int) : Option ((ByteArray × Int) ⊕ ByteArray) :=
  (ixI r1 k4).bind fun x213 =>
  cond (decide (i182 < (x213.length : Int)))
    (cond (decide ((0 : Int) < i182))
      ((addS list181 (ByteArray.mk #[32])).bind fun s217 =>
      (ixI x213 i182).bind fun x219 =>
      (m_S_wordOf N x219).bind fun r221 =>
      (addS s217 r221).bind fun s223 =>
      (chk (i182 + (1 : Int))).bind fun n225 =>
      some (.inl (s223, n225)))
      ((ixI x213 i182).bind fun x227 =>
      (m_S_wordOf N x227).bind fun r229 =>
      (addS list181 r229).bind fun s231 =>
      (chk (i182 + (1 : Int))).bind fun n233 =>
      some (.inl (s231, n233))))
    (some (.inr list181))
def m_S_desk_rows_b3 (N : Nat) (r1 : ((List (List I_Value)))) (list3 : ByteArray) (k4 : Int) : Option ((ByteArray × Int) ⊕ ByteArray) :=
  cond (decide (k4 < (r1.length : Int)))
    (cond (decide ((0 : Int) < k4))
      ((addS list3 (ByteArray.mk #[59])).bind fun s125 =>
      (loopM (β := ByteArray) (fun s : ByteArray × Int => m_S_desk_rows_b4 N r1 k4 s.1 s.2) N (s125, (0 : Int))).bind fun e =>
      m_S_desk_rows_k4 N k4 e)
      ((loopM (β := ByteArray) (fun s : ByteArray × Int => m_S_desk_rows_b5 N r1 k4 s.1 s.2) N (list3, (0 : Int))).bind fun e =>
      m_S_desk_rows_k5 N k4 e))
    (some (.inr list3))
def m_S_desk_rows (N : Nat) (p_d : S_desk) : Option (ByteArray × S_desk) :=
  (m_S_TableRows N p_d.table).bind fun r1 =>
  (loopM (β := ByteArray) (fun s : ByteArray × Int => m_S_desk_rows_b3 N r1 s.1 s.2) N (ByteArray.empty, (0 : Int))).bind fun e =>
  m_S_desk_rows_k3 N p_d e
theorem w_S_desk_rows (N : Nat) (p_d : S_desk) (r : ByteArray × S_desk) (hh0 : m_S_desk_rows N p_d = some r) : FnX Tryz.prog 42 [⟨.mx [sL p_d.table.first, sL p_d.table.changes, sL p_d.table.rows], 56, 0⟩] [.op 0 0] (RE (sA r.1) [⟨.mx [sL r.2.table.first, sL r.2.table.changes, sL r.2.table.rows], 56, 0⟩]) := by
  unfold m_S_desk_rows at hh0; refine FnX.mk Tryz.func42 rfl rfl ?_; intro s hs; refine PC.seq ?_; refine PC.rg ?_; refine PL.aT rfl rfl ?_; refine PL.nn ?_; refine PC.seq ?_; refine PC.rg ?_; refine PL.aT rfl rfl ?_; refine PL.nn ?_; refine PC.seq ?_; obtain ⟨r1, h_2, hh0⟩ := bind_some hh0; refine PC.rg ?_; refine PL.op rfl (Rd.moveP rfl) ?_; refine PL.op rfl (Rd.nilCheckO rfl rfl) ?_; refine PL.op rfl (Rd.fieldO rfl rfl) ?_; refine PL.op rfl (Rd.loadBox rfl rfl rfl) ?_; refine PL.callM false [] (w_S_TableRows N p_d.table r1 h_2) rfl Tryz.call64 rfl ⟨.aggL ⟨.t _, .t _, .t _, trivial⟩, trivial⟩ rfl trivial (fun h => by cases h) ?_; refine PL.nm (.os 1 0 r1.length) [some ⟨.mx [sL p_d.table.first, sL p_d.table.changes, sL p_d.table.rows], 56, 0⟩, some ⟨.tr (eL r1), 86, 1⟩] rfl rfl ?_; refine PL.op rfl (Rd.asnO rfl) ?_; refine PL.nn ?_; (iterate 2 refine PC.seq ?_); refine PC.rg ?_; refine PL.aT rfl rfl ?_; refine PL.nn ?_; obtain ⟨o118, h_119, hh0⟩ := bind_some hh0; refine PC.cutE hs (fun x : ByteArray => [(3, sA x)]) (fun x => [⟨.mx [sL p_d.table.first, sL p_d.table.changes, sL p_d.table.rows], 56, 0⟩]) (fun x => m_S_desk_rows_k3 N p_d x = some r) ?_ ?_
  · refine PC.block ?_; refine PC.loop hs (fun x : Nat × (ByteArray × Int) => [(3, sA x.2.1), (4, .os 1 0 r1.length), (5, iA x.2.2)]) (fun x => [⟨.mx [sL p_d.table.first, sL p_d.table.changes, sL p_d.table.rows], 56, 0⟩, ⟨.tr (eL r1), 86, 1⟩]) (fun x => loopM (β := ByteArray) (fun s : ByteArray × Int => m_S_desk_rows_b3 N r1 s.1 s.2) x.1 x.2 = some o118) (fun x => x.1) (N, (ByteArray.empty, (0 : Int))) [some 0, some 1] ⟨rfl, rfl, ⟨⟨_, rfl, rfl, rfl, .mx ⟨.t _, .t _, .t _, trivial⟩⟩, ⟨_, rfl, rfl, rfl, .tr _⟩, trivial⟩, ⟨.t _, .os rfl, .t _, trivial⟩⟩ h_119 ?_
    rintro ⟨f120_, list3, k4⟩ h_122
    obtain ⟨f120, y121, rfl, hh1, kk1⟩ := loopM_some h_122
    replace hh1 : m_S_desk_rows_b3 N r1 list3 k4 = some y121 := hh1
    unfold m_S_desk_rows_b3 at hh1; (iterate 2 refine PC.seq ?_); refine PC.rg ?_; refine PL.mT rfl rfl ?_; refine PL.op rfl (Rd.moveO rfl) ?_; refine PL.op rfl (Rd.lenO rfl rfl) ?_; refine PL.op rfl (Rd.lss rfl rfl) ?_; refine PL.nn ?_; rcases cond_some hh1 with ⟨h_123, hh1⟩ | ⟨h_123, hh1⟩; rotate_left
    · refine PC.cf rfl h_123 ?_; refine PC.exit ?_; (iterate 2 refine thA_e ?_); refine inA_eq rfl ?_; refine thA_n ?_; obtain rfl := some_in hh1; obtain rfl : (list3 : ByteArray) = o118 := kk1; exact ⟨list3, hh0, [some 0], ⟨rfl, rfl, ⟨⟨_, rfl, rfl, rfl, .mx ⟨.t _, .t _, .t _, trivial⟩⟩, trivial⟩, ⟨.t _, trivial⟩⟩⟩
    refine PC.ct rfl h_123 ?_; refine PC.skip ?_; refine thA_n ?_; refine PC.seq ?_; refine PC.block ?_; (iterate 2 refine PC.seq ?_); refine PC.rg ?_; refine PL.mT rfl rfl ?_; refine PL.op rfl (Rd.gtr rfl rfl) ?_; refine PL.nn ?_; rcases cond_some hh1 with ⟨h_124, hh1⟩ | ⟨h_124, hh1⟩; rotate_left
    · refine PC.cf rfl h_124 ?_; refine PC.skip ?_; refine thA_n ?_; refine PC.seq ?_; refine PC.rg ?_; refine PL.aT rfl rfl ?_; refine PL.nn ?_; obtain ⟨o206, h_207, hh1⟩ := bind_some hh1; refine PC.cutE hs (fun x : ByteArray => [(3, sA x), (4, .os 1 0 r1.length), (5, iA k4)]) (fun x => [⟨.mx [sL p_d.table.first, sL p_d.table.changes, sL p_d.table.rows], 56, 0⟩, ⟨.tr (eL r1), 86, 1⟩]) (fun x => m_S_desk_rows_k5 N k4 x = some y121) ?_ ?_
      · refine PC.block ?_; refine PC.loop hs (fun x : Nat × (ByteArray × Int) => [(3, sA x.2.1), (4, .os 1 0 r1.length), (5, iA k4), (6, iA x.2.2)]) (fun x => [⟨.mx [sL p_d.table.first, sL p_d.table.changes, sL p_d.table.rows], 56, 0⟩, ⟨.tr (eL r1), 86, 1⟩]) (fun x => loopM (β := ByteArray) (fun s : ByteArray × Int => m_S_desk_rows_b5 N r1 k4 s.1 s.2) x.1 x.2 = some o206) (fun x => x.1) (N, (list3, (0 : Int))) [some 0, some 1] ⟨rfl, rfl, ⟨⟨_, rfl, rfl, rfl, .mx ⟨.t _, .t _, .t _, trivial⟩⟩, ⟨_, rfl, rfl, rfl, .tr _⟩, trivial⟩, ⟨.t _, .os rfl, .t _, .t _, trivial⟩⟩ h_207 ?_
        rintro ⟨f208_, list181, i182⟩ h_210
        obtain ⟨f208, y209, rfl, hh2, kk2⟩ := loopM_some h_210
        replace hh2 : m_S_desk_rows_b5 N r1 k4 list181 i182 = some y209 := hh2
        unfold m_S_desk_rows_b5 at hh2; (iterate 2 refine PC.seq ?_); obtain ⟨x213, h_214, hh2⟩ := bind_some hh2; refine PC.rg ?_; refine PL.mT rfl rfl ?_; refine PL.op rfl (Rd.moveO rfl) ?_; refine PL.mT rfl rfl ?_; refine PL.op rfl (Rd.ixOM rfl rfl rfl (ixI_lt h_214)) ?_; refine PL.op rfl (Rd.owM1 rfl rfl h_214 rfl rfl) ?_; refine PL.op rfl (Rd.lenT rfl) ?_; refine PL.op rfl (Rd.lss rfl rfl) ?_; refine PL.nn ?_; rcases cond_some hh2 with ⟨h_215, hh2⟩ | ⟨h_215, hh2⟩; rotate_left
        · refine PC.cf rfl h_215 ?_; refine PC.exit ?_; (iterate 2 refine thA_e ?_); refine inA_eq rfl ?_; refine thA_n ?_; obtain rfl := some_in hh2; obtain rfl : (list181 : ByteArray) = o206 := kk2; exact ⟨list181, hh1, [some 0, some 1], ⟨rfl, rfl, ⟨⟨_, rfl, rfl, rfl, .mx ⟨.t _, .t _, .t _, trivial⟩⟩, ⟨_, rfl, rfl, rfl, .tr _⟩, trivial⟩, ⟨.t _, .os rfl, .t _, trivial⟩⟩⟩
        refine PC.ct rfl h_215 ?_; refine PC.skip ?_; refine thA_n ?_; refine PC.seq ?_; refine PC.block ?_; (iterate 2 refine PC.seq ?_); refine PC.rg ?_; refine PL.mT rfl rfl ?_; refine PL.op rfl (Rd.gtr rfl rfl) ?_; refine PL.nn ?_; rcases cond_some hh2 with ⟨h_216, hh2⟩ | ⟨h_216, hh2⟩; rotate_left
        · refine PC.cf rfl h_216 ?_; refine PC.skip ?_; refine thA_n ?_; obtain ⟨x227, h_228, hh2⟩ := bind_some hh2; obtain ⟨r229, h_230, hh2⟩ := bind_some hh2; obtain ⟨s231, h_232, hh2⟩ := bind_some hh2; refine PC.rg ?_; refine PL.mT rfl rfl ?_; refine PL.op rfl (Rd.moveO rfl) ?_; refine PL.mT rfl rfl ?_; refine PL.op rfl (Rd.ixOM rfl rfl rfl (ixI_lt h_214)) ?_; refine PL.op rfl (Rd.owM1 rfl rfl h_214 rfl rfl) ?_; refine PL.mT rfl rfl ?_; refine PL.op rfl (Rd.ixM rfl rfl h_228) ?_; refine PL.op rfl (Rd.elMR rfl h_228 rfl rfl) ?_; refine PL.callM false [] (w_S_wordOf N x227 r229 h_230) rfl Tryz.call65 rfl ⟨.aggL ⟨.t _, .t _, .t _, trivial⟩, trivial⟩ rfl trivial (fun h => by cases h) ?_; refine PL.op rfl (Rd.addSM rfl rfl h_232) ?_; refine PL.aT rfl rfl ?_; refine PL.nil ?_; refine inA_n ?_; refine thA_n ?_; obtain ⟨n233, h_234, hh2⟩ := bind_some hh2; refine PC.rg ?_; refine PL.mT rfl rfl ?_; refine PL.op rfl (Rd.addM rfl rfl h_234) ?_; refine PL.aT rfl rfl ?_; refine PL.nil ?_; obtain rfl := some_in hh2; refine thA_n ?_; exact ⟨(f208, (s231, n233)), Nat.lt_succ_self _, kk2, [some 0, some 1], ⟨rfl, rfl, ⟨⟨_, rfl, rfl, rfl, .mx ⟨.t _, .t _, .t _, trivial⟩⟩, ⟨_, rfl, rfl, rfl, .tr _⟩, trivial⟩, ⟨.t _, .os rfl, .t _, .t _, trivial⟩⟩⟩
        refine PC.ct rfl h_216 ?_; obtain ⟨s217, h_218, hh2⟩ := bind_some hh2; refine PC.rg ?_; refine PL.mT rfl rfl ?_; refine PL.op rfl (Rd.addSM rfl rfl h_218) ?_; refine PL.aT rfl rfl ?_; refine PL.nn ?_; obtain ⟨x219, h_220, hh2⟩ := bind_some hh2; obtain ⟨r221, h_222, hh2⟩ := bind_some hh2; obtain ⟨s223, h_224, hh2⟩ := bind_some hh2; refine PC.rg ?_; refine PL.mT rfl rfl ?_; refine PL.op rfl (Rd.moveO rfl) ?_; refine PL.mT rfl rfl ?_; refine PL.op rfl (Rd.ixOM rfl rfl rfl (ixI_lt h_214)) ?_; refine PL.op rfl (Rd.owM1 rfl rfl h_214 rfl rfl) ?_; refine PL.mT rfl rfl ?_; refine PL.op rfl (Rd.ixM rfl rfl h_220) ?_; refine PL.op rfl (Rd.elMR rfl h_220 rfl rfl) ?_; refine PL.callM false [] (w_S_wordOf N x219 r221 h_222) rfl Tryz.call65 rfl ⟨.aggL ⟨.t _, .t _, .t _, trivial⟩, trivial⟩ rfl trivial (fun h => by cases h) ?_; refine PL.op rfl (Rd.addSM rfl rfl h_224) ?_; refine PL.aT rfl rfl ?_; refine PL.nil ?_; refine inA_n ?_; refine thA_n ?_; obtain ⟨n225, h_226, hh2⟩ := bind_some hh2; refine PC.rg ?_; refine PL.mT rfl rfl ?_; refine PL.op rfl (Rd.addM rfl rfl h_226) ?_; refine PL.aT rfl rfl ?_; refine PL.nil ?_; obtain rfl := some_in hh2; refine thA_n ?_; exact ⟨(f208, (s223, n225)), Nat.lt_succ_self _, kk2, [some 0, some 1], ⟨rfl, rfl, ⟨⟨_, rfl, rfl, rfl, .mx ⟨.t _, .t _, .t _, trivial⟩⟩, ⟨_, rfl, rfl, rfl, .tr _⟩, trivial⟩, ⟨.t _, .os rfl, .t _, .t _, trivial⟩⟩⟩
      clear hh1
      rintro list205 hh1
      replace hh1 : m_S_desk_rows_k5 N k4 list205 = some y121 := hh1
      unfold m_S_desk_rows_k5 at hh1; refine inA_n ?_; refine thA_n ?_; obtain ⟨n211, h_212, hh1⟩ := bind_some hh1; refine PC.rg ?_; refine PL.mT rfl rfl ?_; refine PL.op rfl (Rd.addM rfl rfl h_212) ?_; refine PL.aT rfl rfl ?_; refine PL.nil ?_; obtain rfl := some_in hh1; refine thA_n ?_; exact ⟨(f120, (list205, n211)), Nat.lt_succ_self _, kk1, [some 0, some 1], ⟨rfl, rfl, ⟨⟨_, rfl, rfl, rfl, .mx ⟨.t _, .t _, .t _, trivial⟩⟩, ⟨_, rfl, rfl, rfl, .tr _⟩, trivial⟩, ⟨.t _, .os rfl, .t _, trivial⟩⟩⟩
    refine PC.ct rfl h_124 ?_; obtain ⟨s125, h_126, hh1⟩ := bind_some hh1; refine PC.rg ?_; refine PL.mT rfl rfl ?_; refine PL.op rfl (Rd.addSM rfl rfl h_126) ?_; refine PL.aT rfl rfl ?_; refine PL.nn ?_; refine PC.seq ?_; refine PC.rg ?_; refine PL.aT rfl rfl ?_; refine PL.nn ?_; obtain ⟨o152, h_153, hh1⟩ := bind_some hh1; refine PC.cutE hs (fun x : ByteArray => [(3, sA x), (4, .os 1 0 r1.length), (5, iA k4)]) (fun x => [⟨.mx [sL p_d.table.first, sL p_d.table.changes, sL p_d.table.rows], 56, 0⟩, ⟨.tr (eL r1), 86, 1⟩]) (fun x => m_S_desk_rows_k4 N k4 x = some y121) ?_ ?_
    · refine PC.block ?_; refine PC.loop hs (fun x : Nat × (ByteArray × Int) => [(3, sA x.2.1), (4, .os 1 0 r1.length), (5, iA k4), (6, iA x.2.2)]) (fun x => [⟨.mx [sL p_d.table.first, sL p_d.table.changes, sL p_d.table.rows], 56, 0⟩, ⟨.tr (eL r1), 86, 1⟩]) (fun x => loopM (β := ByteArray) (fun s : ByteArray × Int => m_S_desk_rows_b4 N r1 k4 s.1 s.2) x.1 x.2 = some o152) (fun x => x.1) (N, (s125, (0 : Int))) [some 0, some 1] ⟨rfl, rfl, ⟨⟨_, rfl, rfl, rfl, .mx ⟨.t _, .t _, .t _, trivial⟩⟩, ⟨_, rfl, rfl, rfl, .tr _⟩, trivial⟩, ⟨.t _, .os rfl, .t _, .t _, trivial⟩⟩ h_153 ?_
      rintro ⟨f154_, list127, i128⟩ h_156
      obtain ⟨f154, y155, rfl, hh2, kk2⟩ := loopM_some h_156
      replace hh2 : m_S_desk_rows_b4 N r1 k4 list127 i128 = some y155 := hh2
      unfold m_S_desk_rows_b4 at hh2; (iterate 2 refine PC.seq ?_); obtain ⟨x159, h_160, hh2⟩ := bind_some hh2; refine PC.rg ?_; refine PL.mT rfl rfl ?_; refine PL.op rfl (Rd.moveO rfl) ?_; refine PL.mT rfl rfl ?_; refine PL.op rfl (Rd.ixOM rfl rfl rfl (ixI_lt h_160)) ?_; refine PL.op rfl (Rd.owM1 rfl rfl h_160 rfl rfl) ?_; refine PL.op rfl (Rd.lenT rfl) ?_; refine PL.op rfl (Rd.lss rfl rfl) ?_; refine PL.nn ?_; rcases cond_some hh2 with ⟨h_161, hh2⟩ | ⟨h_161, hh2⟩; rotate_left
      · refine PC.cf rfl h_161 ?_; refine PC.exit ?_; (iterate 2 refine thA_e ?_); refine inA_eq rfl ?_; refine thA_n ?_; obtain rfl := some_in hh2; obtain rfl : (list127 : ByteArray) = o152 := kk2; exact ⟨list127, hh1, [some 0, some 1], ⟨rfl, rfl, ⟨⟨_, rfl, rfl, rfl, .mx ⟨.t _, .t _, .t _, trivial⟩⟩, ⟨_, rfl, rfl, rfl, .tr _⟩, trivial⟩, ⟨.t _, .os rfl, .t _, trivial⟩⟩⟩
      refine PC.ct rfl h_161 ?_; refine PC.skip ?_; refine thA_n ?_; refine PC.seq ?_; refine PC.block ?_; (iterate 2 refine PC.seq ?_); refine PC.rg ?_; refine PL.mT rfl rfl ?_; refine PL.op rfl (Rd.gtr rfl rfl) ?_; refine PL.nn ?_; rcases cond_some hh2 with ⟨h_162, hh2⟩ | ⟨h_162, hh2⟩; rotate_left
      · refine PC.cf rfl h_162 ?_; refine PC.skip ?_; refine thA_n ?_; obtain ⟨x173, h_174, hh2⟩ := bind_some hh2; obtain ⟨r175, h_176, hh2⟩ := bind_some hh2; obtain ⟨s177, h_178, hh2⟩ := bind_some hh2; refine PC.rg ?_; refine PL.mT rfl rfl ?_; refine PL.op rfl (Rd.moveO rfl) ?_; refine PL.mT rfl rfl ?_; refine PL.op rfl (Rd.ixOM rfl rfl rfl (ixI_lt h_160)) ?_; refine PL.op rfl (Rd.owM1 rfl rfl h_160 rfl rfl) ?_; refine PL.mT rfl rfl ?_; refine PL.op rfl (Rd.ixM rfl rfl h_174) ?_; refine PL.op rfl (Rd.elMR rfl h_174 rfl rfl) ?_; refine PL.callM false [] (w_S_wordOf N x173 r175 h_176) rfl Tryz.call65 rfl ⟨.aggL ⟨.t _, .t _, .t _, trivial⟩, trivial⟩ rfl trivial (fun h => by cases h) ?_; refine PL.op rfl (Rd.addSM rfl rfl h_178) ?_; refine PL.aT rfl rfl ?_; refine PL.nil ?_; refine inA_n ?_; refine thA_n ?_; obtain ⟨n179, h_180, hh2⟩ := bind_some hh2; refine PC.rg ?_; refine PL.mT rfl rfl ?_; refine PL.op rfl (Rd.addM rfl rfl h_180) ?_; refine PL.aT rfl rfl ?_; refine PL.nil ?_; obtain rfl := some_in hh2; refine thA_n ?_; exact ⟨(f154, (s177, n179)), Nat.lt_succ_self _, kk2, [some 0, some 1], ⟨rfl, rfl, ⟨⟨_, rfl, rfl, rfl, .mx ⟨.t _, .t _, .t _, trivial⟩⟩, ⟨_, rfl, rfl, rfl, .tr _⟩, trivial⟩, ⟨.t _, .os rfl, .t _, .t _, trivial⟩⟩⟩
      refine PC.ct rfl h_162 ?_; obtain ⟨s163, h_164, hh2⟩ := bind_some hh2; refine PC.rg ?_; refine PL.mT rfl rfl ?_; refine PL.op rfl (Rd.addSM rfl rfl h_164) ?_; refine PL.aT rfl rfl ?_; refine PL.nn ?_; obtain ⟨x165, h_166, hh2⟩ := bind_some hh2; obtain ⟨r167, h_168, hh2⟩ := bind_some hh2; obtain ⟨s169, h_170, hh2⟩ := bind_some hh2; refine PC.rg ?_; refine PL.mT rfl rfl ?_; refine PL.op rfl (Rd.moveO rfl) ?_; refine PL.mT rfl rfl ?_; refine PL.op rfl (Rd.ixOM rfl rfl rfl (ixI_lt h_160)) ?_; refine PL.op rfl (Rd.owM1 rfl rfl h_160 rfl rfl) ?_; refine PL.mT rfl rfl ?_; refine PL.op rfl (Rd.ixM rfl rfl h_166) ?_; refine PL.op rfl (Rd.elMR rfl h_166 rfl rfl) ?_; refine PL.callM false [] (w_S_wordOf N x165 r167 h_168) rfl Tryz.call65 rfl ⟨.aggL ⟨.t _, .t _, .t _, trivial⟩, trivial⟩ rfl trivial (fun h => by cases h) ?_; refine PL.op rfl (Rd.addSM rfl rfl h_170) ?_; refine PL.aT rfl rfl ?_; refine PL.nil ?_; refine inA_n ?_; refine thA_n ?_; obtain ⟨n171, h_172, hh2⟩ := bind_some hh2; refine PC.rg ?_; refine PL.mT rfl rfl ?_; refine PL.op rfl (Rd.addM rfl rfl h_172) ?_; refine PL.aT rfl rfl ?_; refine PL.nil ?_; obtain rfl := some_in hh2; refine thA_n ?_; exact ⟨(f154, (s169, n171)), Nat.lt_succ_self _, kk2, [some 0, some 1], ⟨rfl, rfl, ⟨⟨_, rfl, rfl, rfl, .mx ⟨.t _, .t _, .t _, trivial⟩⟩, ⟨_, rfl, rfl, rfl, .tr _⟩, trivial⟩, ⟨.t _, .os rfl, .t _, .t _, trivial⟩⟩⟩
    clear hh1
    rintro list151 hh1
    replace hh1 : m_S_desk_rows_k4 N k4 list151 = some y121 := hh1
    unfold m_S_desk_rows_k4 at hh1; refine inA_n ?_; refine thA_n ?_; obtain ⟨n157, h_158, hh1⟩ := bind_some hh1; refine PC.rg ?_; refine PL.mT rfl rfl ?_; refine PL.op rfl (Rd.addM rfl rfl h_158) ?_; refine PL.aT rfl rfl ?_; refine PL.nil ?_; obtain rfl := some_in hh1; refine thA_n ?_; exact ⟨(f120, (list151, n157)), Nat.lt_succ_self _, kk1, [some 0, some 1], ⟨rfl, rfl, ⟨⟨_, rfl, rfl, rfl, .mx ⟨.t _, .t _, .t _, trivial⟩⟩, ⟨_, rfl, rfl, rfl, .tr _⟩, trivial⟩, ⟨.t _, .os rfl, .t _, trivial⟩⟩⟩
  clear hh0
  rintro list117 hh0
  replace hh0 : m_S_desk_rows_k3 N p_d list117 = some r := hh0
  unfold m_S_desk_rows_k3 at hh0; refine thA_n ?_; refine PC.seq ?_; refine PC.rg ?_; refine PL.mT rfl rfl ?_; refine PL.aT rfl rfl ?_; refine PL.nn ?_; refine PC.ret ?_; obtain rfl := some_in hh0; exact FinA.mk (r := sA ((list117, p_d).1)) (bl := [⟨.mx [sL ((list117, p_d).2.table.first), sL ((list117, p_d).2.table.changes), sL ((list117, p_d).2.table.rows)], 56, 0⟩]) [some 0] (.inl rfl) rfl (rl := [.tmp 2]) (.tmp .nil) rfl rfl rfl (.t _) ⟨⟨_, rfl, rfl, rfl, .mx ⟨.t _, .t _, .t _, trivial⟩⟩, trivial⟩ ⟨rfl, rfl⟩
def m_S_desk_old (N : Nat) (p_d : S_desk) : Option (ByteArray × S_desk) :=
  (m_S_validTable N p_d.table).bind fun r1 =>
  cond r1
    ((m_S_OldRows N p_d.table).bind fun r4 =>
    (m_S_decimal N r4).bind fun r6 =>
    some (r6, p_d))
    (some ((ByteArray.mk #[110, 111]), p_d))
theorem w_S_desk_old (N : Nat) (p_d : S_desk) (r : ByteArray × S_desk) (hh0 : m_S_desk_old N p_d = some r) : FnX Tryz.prog 43 [⟨.mx [sL p_d.table.first, sL p_d.table.changes, sL p_d.table.rows], 56, 0⟩] [.op 0 0] (RE (sA r.1) [⟨.mx [sL r.2.table.first, sL r.2.table.changes, sL r.2.table.rows], 56, 0⟩]) := by
  unfold m_S_desk_old at hh0; refine FnX.mk Tryz.func43 rfl rfl ?_; intro s hs; refine PC.seq ?_; refine PC.rg ?_; refine PL.aT rfl rfl ?_; refine PL.nn ?_; (iterate 2 refine PC.seq ?_); obtain ⟨r1, h_2, hh0⟩ := bind_some hh0; refine PC.rg ?_; refine PL.op rfl (Rd.moveP rfl) ?_; refine PL.op rfl (Rd.nilCheckO rfl rfl) ?_; refine PL.op rfl (Rd.fieldO rfl rfl) ?_; refine PL.op rfl (Rd.loadBox rfl rfl rfl) ?_; refine PL.callM false [] (w_S_validTable N p_d.table r1 h_2) rfl Tryz.call62 rfl ⟨.aggL ⟨.t _, .t _, .t _, trivial⟩, trivial⟩ rfl trivial (fun h => by cases h) ?_; refine PL.op rfl (Rd.unnot rfl) ?_; refine PL.nn ?_; rcases cond_some hh0 with ⟨h_3, hh0⟩ | ⟨h_3, hh0⟩; rotate_left
  · refine PC.ct rfl (not_f h_3) ?_; refine PC.seq ?_; refine PC.rg ?_; refine PL.aT rfl rfl ?_; refine PL.nn ?_; refine PC.ret ?_; refine thA_r ?_; obtain rfl := some_in hh0; exact FinA.mk (r := sA (((ByteArray.mk #[110, 111]), p_d).1)) (bl := [⟨.mx [sL (((ByteArray.mk #[110, 111]), p_d).2.table.first), sL (((ByteArray.mk #[110, 111]), p_d).2.table.changes), sL (((ByteArray.mk #[110, 111]), p_d).2.table.rows)], 56, 0⟩]) [some 0] (.inl rfl) rfl (rl := [.tmp 2]) (.tmp .nil) rfl rfl rfl (.t _) ⟨⟨_, rfl, rfl, rfl, .mx ⟨.t _, .t _, .t _, trivial⟩⟩, trivial⟩ ⟨rfl, rfl⟩
  refine PC.cf rfl (not_t h_3) ?_; refine PC.skip ?_; refine thA_n ?_; refine PC.seq ?_; obtain ⟨r4, h_5, hh0⟩ := bind_some hh0; obtain ⟨r6, h_7, hh0⟩ := bind_some hh0; refine PC.rg ?_; refine PL.op rfl (Rd.moveP rfl) ?_; refine PL.op rfl (Rd.nilCheckO rfl rfl) ?_; refine PL.op rfl (Rd.fieldO rfl rfl) ?_; refine PL.op rfl (Rd.loadBox rfl rfl rfl) ?_; refine PL.callM false [] (w_S_OldRows N p_d.table r4 h_5) rfl Tryz.call66 rfl ⟨.aggL ⟨.t _, .t _, .t _, trivial⟩, trivial⟩ rfl trivial (fun h => by cases h) ?_; refine PL.callM false [] (w_S_decimal N r4 r6 h_7) rfl Tryz.call60 rfl ⟨.t _, trivial⟩ rfl trivial (fun h => by cases h) ?_; refine PL.aT rfl rfl ?_; refine PL.nn ?_; refine PC.ret ?_; obtain rfl := some_in hh0; exact FinA.mk (r := sA ((r6, p_d).1)) (bl := [⟨.mx [sL ((r6, p_d).2.table.first), sL ((r6, p_d).2.table.changes), sL ((r6, p_d).2.table.rows)], 56, 0⟩]) [some 0] (.inl rfl) rfl (rl := [.tmp 2]) (.tmp .nil) rfl rfl rfl (.t _) ⟨⟨_, rfl, rfl, rfl, .mx ⟨.t _, .t _, .t _, trivial⟩⟩, trivial⟩ ⟨rfl, rfl⟩
def m_S_desk_line (N : Nat) (p_d : S_desk) (p_line : ByteArray) : Option (ByteArray × S_desk) :=
  (m_S_splitWords N p_line).bind fun r1 =>
  (ixI r1 (0 : Int)).bind fun x3 =>
  cond ((x3.toList == (ByteArray.mk #[116, 97, 98, 108, 101]).toList) && decide ((1 : Int) < (r1.length : Int)))
    ((V.subM r1 (1 : Int) (r1.length : Int)).bind fun xs7 =>
    (m_S_desk_create N p_d xs7).bind fun r9 =>
    some (r9.1, r9.2))
    ((ixI r1 (0 : Int)).bind fun x11 =>
    cond ((x11.toList == (ByteArray.mk #[97, 100, 100]).toList) && decide ((r1.length : Int) = (4 : Int)))
      ((ixI r1 (1 : Int)).bind fun x15 =>
      (m_S_parseInt N x15).bind fun r17 =>
      (ixI r1 (2 : Int)).bind fun x19 =>
      (m_S_kindOf N x19).bind fun r21 =>
      (ixI r1 (3 : Int)).bind fun x23 =>
      (m_S_valueOf N x23).bind fun r25 =>
      (m_S_desk_alter N p_d (I_Change.mk (1 : Int) r17 (I_Column.mk r21 r25))).bind fun r27 =>
      some (r27.1, r27.2))
      ((ixI r1 (0 : Int)).bind fun x29 =>
      cond ((x29.toList == (ByteArray.mk #[100, 114, 111, 112]).toList) && decide ((r1.length : Int) = (2 : Int)))
        ((ixI r1 (1 : Int)).bind fun x33 =>
        (m_S_parseInt N x33).bind fun r35 =>
        (m_S_desk_alter N p_d (I_Change.mk (2 : Int) r35 (I_Column.mk (0 : Int) (I_Value.mk (0 : Int) (0 : Int) ByteArray.empty)))).bind fun r37 =>
        some (r37.1, r37.2))
        ((ixI r1 (0 : Int)).bind fun x39 =>
        cond ((x39.toList == (ByteArray.mk #[119, 105, 100, 101, 110]).toList) && decide ((r1.length : Int) = (2 : Int)))
          ((ixI r1 (1 : Int)).bind fun x43 =>
          (m_S_parseInt N x43).bind fun r45 =>
          (m_S_desk_alter N p_d (I_Change.mk (3 : Int) r45 (I_Column.mk (0 : Int) (I_Value.mk (0 : Int) (0 : Int) ByteArray.empty)))).bind fun r47 =>
          some (r47.1, r47.2))
          ((ixI r1 (0 : Int)).bind fun x49 =>
          cond ((x49.toList == (ByteArray.mk #[105, 110, 115, 101, 114, 116]).toList) && decide ((1 : Int) < (r1.length : Int)))
            ((V.subM r1 (1 : Int) (r1.length : Int)).bind fun xs53 =>
            (m_S_desk_insert N p_d xs53).bind fun r55 =>
            some (r55.1, r55.2))
            ((ixI r1 (0 : Int)).bind fun x57 =>
            cond ((x57.toList == (ByteArray.mk #[114, 101, 119, 114, 105, 116, 101]).toList) && decide ((r1.length : Int) = (2 : Int)))
              ((ixI r1 (1 : Int)).bind fun x61 =>
              (m_S_parseInt N x61).bind fun r63 =>
              (m_S_desk_rewrite N p_d r63).bind fun r65 =>
              some (r65.1, r65.2))
              (cond (p_line.toList == (ByteArray.mk #[114, 111, 119, 115]).toList)
                ((m_S_desk_rows N p_d).bind fun r68 =>
                some (r68.1, r68.2))
                (cond (p_line.toList == (ByteArray.mk #[111, 108, 100]).toList)
                  ((m_S_desk_old N p_d).bind fun r71 =>
                  some (r71.1, r71.2))
                  (some ((ByteArray.mk #[119, 104, 97, 116]), p_d)))))))))
theorem w_S_desk_line (N : Nat) (p_d : S_desk) (p_line : ByteArray) (r : ByteArray × S_desk) (hh0 : m_S_desk_line N p_d p_line = some r) : FnX Tryz.prog 22 [⟨.mx [sL p_d.table.first, sL p_d.table.changes, sL p_d.table.rows], 56, 0⟩] [.op 0 0, sA p_line] (RE (sA r.1) [⟨.mx [sL r.2.table.first, sL r.2.table.changes, sL r.2.table.rows], 56, 0⟩]) := by
  unfold m_S_desk_line at hh0; refine FnX.mk Tryz.func22 rfl rfl ?_; intro s hs; refine PC.seq ?_; refine PC.rg ?_; refine PL.aT rfl rfl ?_; refine PL.nn ?_; refine PC.seq ?_; obtain ⟨r1, h_2, hh0⟩ := bind_some hh0; refine PC.rg ?_; refine PL.mT rfl rfl ?_; refine PL.callM false [] (w_S_splitWords N p_line r1 h_2) rfl Tryz.call34 rfl ⟨.t _, trivial⟩ rfl trivial (fun h => by cases h) ?_; refine PL.nm (.os 1 0 r1.length) [some ⟨.mx [sL p_d.table.first, sL p_d.table.changes, sL p_d.table.rows], 56, 0⟩, some ⟨.tr (eL r1), 9, 1⟩] rfl rfl ?_; refine PL.op rfl (Rd.asnO rfl) ?_; refine PL.nn ?_; refine PC.seq ?_; refine PC.block ?_; obtain ⟨x3, h_4, hh0⟩ := bind_some hh0; refine PC.cut hs (fun _ : Unit => [(0, .op 0 0), (1, sA p_line), (5, .os 1 0 r1.length), (8, bA ((x3.toList == (ByteArray.mk #[116, 97, 98, 108, 101]).toList) && decide ((1 : Int) < (r1.length : Int))))]) (fun _ => [⟨.mx [sL p_d.table.first, sL p_d.table.changes, sL p_d.table.rows], 56, 0⟩, ⟨.tr (eL r1), 9, 1⟩]) (fun _ => True) ?_ ?_
  · rcases bool_tf ((x3.toList == (ByteArray.mk #[116, 97, 98, 108, 101]).toList)) with h_5 | h_5; rotate_left
    · refine PC.rg ?_; refine PL.op rfl (Rd.moveO rfl) ?_; refine PL.op rfl (Rd.ixOM rfl rfl rfl (ixI_lt h_4)) ?_; refine PL.op rfl (Rd.owM1 rfl rfl h_4 rfl rfl) ?_; refine PL.op rfl (Rd.eqlS rfl rfl) ?_; refine PL.mT rfl rfl ?_; (iterate 3 refine PL.gf rfl rfl h_5 ?_); refine PL.op rfl (Rd.pick_f rfl h_5) ?_; refine PL.aT rfl rfl ?_; refine PL.nn ?_; exact ⟨(), trivial, [some 0, some 1], ⟨rfl, rfl, ⟨⟨_, rfl, rfl, rfl, .mx ⟨.t _, .t _, .t _, trivial⟩⟩, ⟨_, rfl, rfl, rfl, .tr _⟩, trivial⟩, ⟨.op rfl, .t _, .os rfl, (Sb.tB (and_f h_5)), trivial⟩⟩⟩
    refine PC.rg ?_; refine PL.op rfl (Rd.moveO rfl) ?_; refine PL.op rfl (Rd.ixOM rfl rfl rfl (ixI_lt h_4)) ?_; refine PL.op rfl (Rd.owM1 rfl rfl h_4 rfl rfl) ?_; refine PL.op rfl (Rd.eqlS rfl rfl) ?_; refine PL.mT rfl rfl ?_; refine PL.gn rfl h_5 ?_; refine PL.op rfl (Rd.moveO rfl) ?_; refine PL.gn rfl h_5 ?_; refine PL.op rfl (Rd.lenO rfl rfl) ?_; refine PL.gn rfl h_5 ?_; refine PL.op rfl (Rd.gtr rfl rfl) ?_; refine PL.op rfl (Rd.pick_t rfl h_5) ?_; refine PL.aT rfl rfl ?_; refine PL.nn ?_; exact ⟨(), trivial, [some 0, some 1], ⟨rfl, rfl, ⟨⟨_, rfl, rfl, rfl, .mx ⟨.t _, .t _, .t _, trivial⟩⟩, ⟨_, rfl, rfl, rfl, .tr _⟩, trivial⟩, ⟨.op rfl, .t _, .os rfl, (Sb.tB (and_t h_5)), trivial⟩⟩⟩
  rintro ⟨⟩ -
  rcases cond_some hh0 with ⟨h_6, hh0⟩ | ⟨h_6, hh0⟩
  · refine PC.ct rfl h_6 ?_; refine PC.seq ?_; obtain ⟨xs7, h_8, hh0⟩ := bind_some hh0; obtain ⟨r9, h_10, hh0⟩ := bind_some hh0; refine PC.rg ?_; refine PL.op rfl (Rd.moveP rfl) ?_; refine PL.op rfl (Rd.moveO rfl) ?_; refine PL.frz hs 1 2 [(5, sL r1), (19, sL r1)] [some ⟨.mx [sL p_d.table.first, sL p_d.table.changes, sL p_d.table.rows], 56, 0⟩, none] rfl rfl ⟨(.own rfl (by decide) rfl rfl), (.own rfl (by decide) rfl rfl), trivial⟩ ⟨⟨rfl, .inl rfl⟩, trivial⟩ ?_; refine PL.op rfl (Rd.subTML rfl rfl h_8) ?_; refine PL.nm (sL xs7) [some ⟨.mx [sL p_d.table.first, sL p_d.table.changes, sL p_d.table.rows], 56, 0⟩, none] rfl rfl ?_; refine PL.callM false [0] (w_S_desk_create N p_d xs7 r9 h_10) rfl Tryz.call35 rfl ⟨.op rfl, .t _, trivial⟩ rfl ⟨⟨_, rfl, rfl, rfl, .mx ⟨.t _, .t _, .t _, trivial⟩⟩, trivial⟩ (fun h => by cases h) ?_; refine PL.nm (sA r9.1) [some ⟨.mx [sL r9.2.table.first, sL r9.2.table.changes, sL r9.2.table.rows], 56, 0⟩, none] rfl rfl ?_; refine PL.aT rfl rfl ?_; refine PL.nn ?_; refine PC.ret ?_; refine inA_r ?_; refine thA_r ?_; obtain rfl := some_in hh0; exact FinA.mk (r := sA ((r9.1, r9.2).1)) (bl := [⟨.mx [sL ((r9.1, r9.2).2.table.first), sL ((r9.1, r9.2).2.table.changes), sL ((r9.1, r9.2).2.table.rows)], 56, 0⟩]) [some 0] (.inl rfl) rfl (rl := [.tmp 4]) (.tmp .nil) rfl rfl rfl (.t _) ⟨⟨_, rfl, rfl, rfl, .mx ⟨.t _, .t _, .t _, trivial⟩⟩, trivial⟩ ⟨rfl, rfl⟩
  refine PC.cf rfl h_6 ?_; obtain ⟨x11, h_12, hh0⟩ := bind_some hh0; refine PC.cut hs (fun _ : Unit => [(0, .op 0 0), (1, sA p_line), (5, .os 1 0 r1.length), (22, bA ((x11.toList == (ByteArray.mk #[97, 100, 100]).toList) && decide ((r1.length : Int) = (4 : Int))))]) (fun _ => [⟨.mx [sL p_d.table.first, sL p_d.table.changes, sL p_d.table.rows], 56, 0⟩, ⟨.tr (eL r1), 9, 1⟩]) (fun _ => True) ?_ ?_
  · rcases bool_tf ((x11.toList == (ByteArray.mk #[97, 100, 100]).toList)) with h_13 | h_13; rotate_left
    · refine PC.rg ?_; refine PL.op rfl (Rd.moveO rfl) ?_; refine PL.op rfl (Rd.ixOM rfl rfl rfl (ixI_lt h_12)) ?_; refine PL.op rfl (Rd.owM1 rfl rfl h_12 rfl rfl) ?_; refine PL.op rfl (Rd.eqlS rfl rfl) ?_; refine PL.mT rfl rfl ?_; (iterate 3 refine PL.gf rfl rfl h_13 ?_); refine PL.op rfl (Rd.pick_f rfl h_13) ?_; refine PL.aT rfl rfl ?_; refine PL.nn ?_; exact ⟨(), trivial, [some 0, some 1], ⟨rfl, rfl, ⟨⟨_, rfl, rfl, rfl, .mx ⟨.t _, .t _, .t _, trivial⟩⟩, ⟨_, rfl, rfl, rfl, .tr _⟩, trivial⟩, ⟨.op rfl, .t _, .os rfl, (Sb.tB (and_f h_13)), trivial⟩⟩⟩
    refine PC.rg ?_; refine PL.op rfl (Rd.moveO rfl) ?_; refine PL.op rfl (Rd.ixOM rfl rfl rfl (ixI_lt h_12)) ?_; refine PL.op rfl (Rd.owM1 rfl rfl h_12 rfl rfl) ?_; refine PL.op rfl (Rd.eqlS rfl rfl) ?_; refine PL.mT rfl rfl ?_; refine PL.gn rfl h_13 ?_; refine PL.op rfl (Rd.moveO rfl) ?_; refine PL.gn rfl h_13 ?_; refine PL.op rfl (Rd.lenO rfl rfl) ?_; refine PL.gn rfl h_13 ?_; refine PL.op rfl (Rd.eql rfl rfl) ?_; refine PL.op rfl (Rd.pick_t rfl h_13) ?_; refine PL.aT rfl rfl ?_; refine PL.nn ?_; exact ⟨(), trivial, [some 0, some 1], ⟨rfl, rfl, ⟨⟨_, rfl, rfl, rfl, .mx ⟨.t _, .t _, .t _, trivial⟩⟩, ⟨_, rfl, rfl, rfl, .tr _⟩, trivial⟩, ⟨.op rfl, .t _, .os rfl, (Sb.tB (and_t h_13)), trivial⟩⟩⟩
  rintro ⟨⟩ -
  rcases cond_some hh0 with ⟨h_14, hh0⟩ | ⟨h_14, hh0⟩
  · refine PC.ct rfl h_14 ?_; refine PC.seq ?_; obtain ⟨x15, h_16, hh0⟩ := bind_some hh0; obtain ⟨r17, h_18, hh0⟩ := bind_some hh0; obtain ⟨x19, h_20, hh0⟩ := bind_some hh0; obtain ⟨r21, h_22, hh0⟩ := bind_some hh0; obtain ⟨x23, h_24, hh0⟩ := bind_some hh0; obtain ⟨r25, h_26, hh0⟩ := bind_some hh0; obtain ⟨r27, h_28, hh0⟩ := bind_some hh0; refine PC.any (id := 5) 17 (.seg [0, 1, 2, 3, 5, 6, 7, 9, 10, 11, 4, 8, 12, 13, 14, 15, 16] .done) [0] rfl (by kernel_rfl) rfl ?_; refine PT.seg ?_; refine PR.op rfl (Rd.moveP rfl) ?_; refine PR.op rfl (Rd.moveO rfl) ?_; refine PR.ixOM rfl rfl rfl rfl (ixI_lt h_16) ?_; refine PR.op rfl (Rd.owM1 rfl rfl h_16 rfl rfl) ?_; refine PR.op rfl (Rd.moveO rfl) ?_; refine PR.ixOM rfl rfl rfl rfl (ixI_lt h_20) ?_; refine PR.op rfl (Rd.owM1 rfl rfl h_20 rfl rfl) ?_; refine PR.op rfl (Rd.moveO rfl) ?_; refine PR.ixOM rfl rfl rfl rfl (ixI_lt h_24) ?_; refine PR.op rfl (Rd.owM1 rfl rfl h_24 rfl rfl) ?_; refine PR.callM false [] (w_S_parseInt N x15 r17 h_18) rfl Tryz.call37 rfl ⟨.t _, trivial⟩ rfl trivial (fun h => by cases h) rfl ?_; refine PR.callM false [] (w_S_kindOf N x19 r21 h_22) rfl Tryz.call38 rfl ⟨.t _, trivial⟩ rfl trivial (fun h => by cases h) rfl ?_; refine PR.callM false [] (w_S_valueOf N x23 r25 h_26) rfl Tryz.call39 rfl ⟨.t _, trivial⟩ rfl trivial (fun h => by cases h) rfl ?_; (iterate 2 refine PR.op rfl (Rd.build rfl rfl rfl rfl) ?_); refine PR.callM false [0] (w_S_desk_alter N p_d (I_Change.mk (1 : Int) r17 (I_Column.mk r21 r25)) r27 h_28) rfl Tryz.call36 rfl ⟨.op rfl, .aggL ⟨.t _, .t _, .t _, .t _, .t _, .t _, trivial⟩, trivial⟩ rfl ⟨⟨_, rfl, rfl, rfl, .mx ⟨.t _, .t _, .t _, trivial⟩⟩, trivial⟩ (fun h => by cases h) rfl ?_; refine PR.nm (sA r27.1) [some ⟨.mx [sL r27.2.table.first, sL r27.2.table.changes, sL r27.2.table.rows], 56, 0⟩, some ⟨.tr (eL r1), 9, 1⟩] rfl rfl ?_; refine PR.op rfl (Rd.asnT rfl) ?_; refine PR.nil ?_; refine PT.done ?_; refine PL.nn ?_; refine PC.ret ?_; refine inA_r ?_; refine thA_r ?_; obtain rfl := some_in hh0; exact FinA.mk (r := sA ((r27.1, r27.2).1)) (bl := [⟨.mx [sL ((r27.1, r27.2).2.table.first), sL ((r27.1, r27.2).2.table.changes), sL ((r27.1, r27.2).2.table.rows)], 56, 0⟩]) [some 0] (.inl rfl) rfl (rl := [.tmp 4]) (.tmp .nil) rfl rfl rfl (.t _) ⟨⟨_, rfl, rfl, rfl, .mx ⟨.t _, .t _, .t _, trivial⟩⟩, trivial⟩ ⟨rfl, rfl⟩
  refine PC.cf rfl h_14 ?_; obtain ⟨x29, h_30, hh0⟩ := bind_some hh0; refine PC.cut hs (fun _ : Unit => [(0, .op 0 0), (1, sA p_line), (5, .os 1 0 r1.length), (48, bA ((x29.toList == (ByteArray.mk #[100, 114, 111, 112]).toList) && decide ((r1.length : Int) = (2 : Int))))]) (fun _ => [⟨.mx [sL p_d.table.first, sL p_d.table.changes, sL p_d.table.rows], 56, 0⟩, ⟨.tr (eL r1), 9, 1⟩]) (fun _ => True) ?_ ?_
  · rcases bool_tf ((x29.toList == (ByteArray.mk #[100, 114, 111, 112]).toList)) with h_31 | h_31; rotate_left
    · refine PC.rg ?_; refine PL.op rfl (Rd.moveO rfl) ?_; refine PL.op rfl (Rd.ixOM rfl rfl rfl (ixI_lt h_30)) ?_; refine PL.op rfl (Rd.owM1 rfl rfl h_30 rfl rfl) ?_; refine PL.op rfl (Rd.eqlS rfl rfl) ?_; refine PL.mT rfl rfl ?_; (iterate 3 refine PL.gf rfl rfl h_31 ?_); refine PL.op rfl (Rd.pick_f rfl h_31) ?_; refine PL.aT rfl rfl ?_; refine PL.nn ?_; exact ⟨(), trivial, [some 0, some 1], ⟨rfl, rfl, ⟨⟨_, rfl, rfl, rfl, .mx ⟨.t _, .t _, .t _, trivial⟩⟩, ⟨_, rfl, rfl, rfl, .tr _⟩, trivial⟩, ⟨.op rfl, .t _, .os rfl, (Sb.tB (and_f h_31)), trivial⟩⟩⟩
    refine PC.rg ?_; refine PL.op rfl (Rd.moveO rfl) ?_; refine PL.op rfl (Rd.ixOM rfl rfl rfl (ixI_lt h_30)) ?_; refine PL.op rfl (Rd.owM1 rfl rfl h_30 rfl rfl) ?_; refine PL.op rfl (Rd.eqlS rfl rfl) ?_; refine PL.mT rfl rfl ?_; refine PL.gn rfl h_31 ?_; refine PL.op rfl (Rd.moveO rfl) ?_; refine PL.gn rfl h_31 ?_; refine PL.op rfl (Rd.lenO rfl rfl) ?_; refine PL.gn rfl h_31 ?_; refine PL.op rfl (Rd.eql rfl rfl) ?_; refine PL.op rfl (Rd.pick_t rfl h_31) ?_; refine PL.aT rfl rfl ?_; refine PL.nn ?_; exact ⟨(), trivial, [some 0, some 1], ⟨rfl, rfl, ⟨⟨_, rfl, rfl, rfl, .mx ⟨.t _, .t _, .t _, trivial⟩⟩, ⟨_, rfl, rfl, rfl, .tr _⟩, trivial⟩, ⟨.op rfl, .t _, .os rfl, (Sb.tB (and_t h_31)), trivial⟩⟩⟩
  rintro ⟨⟩ -
  rcases cond_some hh0 with ⟨h_32, hh0⟩ | ⟨h_32, hh0⟩
  · refine PC.ct rfl h_32 ?_; refine PC.seq ?_; obtain ⟨x33, h_34, hh0⟩ := bind_some hh0; obtain ⟨r35, h_36, hh0⟩ := bind_some hh0; obtain ⟨r37, h_38, hh0⟩ := bind_some hh0; refine PC.rg ?_; refine PL.op rfl (Rd.moveP rfl) ?_; refine PL.op rfl (Rd.moveO rfl) ?_; refine PL.op rfl (Rd.ixOM rfl rfl rfl (ixI_lt h_34)) ?_; refine PL.op rfl (Rd.owM1 rfl rfl h_34 rfl rfl) ?_; refine PL.callM false [] (w_S_parseInt N x33 r35 h_36) rfl Tryz.call37 rfl ⟨.t _, trivial⟩ rfl trivial (fun h => by cases h) ?_; refine PL.op rfl (Rd.build rfl rfl rfl rfl) ?_; refine PL.callM false [0] (w_S_desk_alter N p_d (I_Change.mk (2 : Int) r35 (I_Column.mk (0 : Int) (I_Value.mk (0 : Int) (0 : Int) ByteArray.empty))) r37 h_38) rfl Tryz.call36 rfl ⟨.op rfl, .aggL ⟨.t _, .t _, .t _, .t _, .t _, .t _, trivial⟩, trivial⟩ rfl ⟨⟨_, rfl, rfl, rfl, .mx ⟨.t _, .t _, .t _, trivial⟩⟩, trivial⟩ (fun h => by cases h) ?_; refine PL.nm (sA r37.1) [some ⟨.mx [sL r37.2.table.first, sL r37.2.table.changes, sL r37.2.table.rows], 56, 0⟩, some ⟨.tr (eL r1), 9, 1⟩] rfl rfl ?_; refine PL.aT rfl rfl ?_; refine PL.nn ?_; refine PC.ret ?_; refine inA_r ?_; refine thA_r ?_; obtain rfl := some_in hh0; exact FinA.mk (r := sA ((r37.1, r37.2).1)) (bl := [⟨.mx [sL ((r37.1, r37.2).2.table.first), sL ((r37.1, r37.2).2.table.changes), sL ((r37.1, r37.2).2.table.rows)], 56, 0⟩]) [some 0] (.inl rfl) rfl (rl := [.tmp 4]) (.tmp .nil) rfl rfl rfl (.t _) ⟨⟨_, rfl, rfl, rfl, .mx ⟨.t _, .t _, .t _, trivial⟩⟩, trivial⟩ ⟨rfl, rfl⟩
  refine PC.cf rfl h_32 ?_; obtain ⟨x39, h_40, hh0⟩ := bind_some hh0; refine PC.cut hs (fun _ : Unit => [(0, .op 0 0), (1, sA p_line), (5, .os 1 0 r1.length), (65, bA ((x39.toList == (ByteArray.mk #[119, 105, 100, 101, 110]).toList) && decide ((r1.length : Int) = (2 : Int))))]) (fun _ => [⟨.mx [sL p_d.table.first, sL p_d.table.changes, sL p_d.table.rows], 56, 0⟩, ⟨.tr (eL r1), 9, 1⟩]) (fun _ => True) ?_ ?_
  · rcases bool_tf ((x39.toList == (ByteArray.mk #[119, 105, 100, 101, 110]).toList)) with h_41 | h_41; rotate_left
    · refine PC.rg ?_; refine PL.op rfl (Rd.moveO rfl) ?_; refine PL.op rfl (Rd.ixOM rfl rfl rfl (ixI_lt h_40)) ?_; refine PL.op rfl (Rd.owM1 rfl rfl h_40 rfl rfl) ?_; refine PL.op rfl (Rd.eqlS rfl rfl) ?_; refine PL.mT rfl rfl ?_; (iterate 3 refine PL.gf rfl rfl h_41 ?_); refine PL.op rfl (Rd.pick_f rfl h_41) ?_; refine PL.aT rfl rfl ?_; refine PL.nn ?_; exact ⟨(), trivial, [some 0, some 1], ⟨rfl, rfl, ⟨⟨_, rfl, rfl, rfl, .mx ⟨.t _, .t _, .t _, trivial⟩⟩, ⟨_, rfl, rfl, rfl, .tr _⟩, trivial⟩, ⟨.op rfl, .t _, .os rfl, (Sb.tB (and_f h_41)), trivial⟩⟩⟩
    refine PC.rg ?_; refine PL.op rfl (Rd.moveO rfl) ?_; refine PL.op rfl (Rd.ixOM rfl rfl rfl (ixI_lt h_40)) ?_; refine PL.op rfl (Rd.owM1 rfl rfl h_40 rfl rfl) ?_; refine PL.op rfl (Rd.eqlS rfl rfl) ?_; refine PL.mT rfl rfl ?_; refine PL.gn rfl h_41 ?_; refine PL.op rfl (Rd.moveO rfl) ?_; refine PL.gn rfl h_41 ?_; refine PL.op rfl (Rd.lenO rfl rfl) ?_; refine PL.gn rfl h_41 ?_; refine PL.op rfl (Rd.eql rfl rfl) ?_; refine PL.op rfl (Rd.pick_t rfl h_41) ?_; refine PL.aT rfl rfl ?_; refine PL.nn ?_; exact ⟨(), trivial, [some 0, some 1], ⟨rfl, rfl, ⟨⟨_, rfl, rfl, rfl, .mx ⟨.t _, .t _, .t _, trivial⟩⟩, ⟨_, rfl, rfl, rfl, .tr _⟩, trivial⟩, ⟨.op rfl, .t _, .os rfl, (Sb.tB (and_t h_41)), trivial⟩⟩⟩
  rintro ⟨⟩ -
  rcases cond_some hh0 with ⟨h_42, hh0⟩ | ⟨h_42, hh0⟩
  · refine PC.ct rfl h_42 ?_; refine PC.seq ?_; obtain ⟨x43, h_44, hh0⟩ := bind_some hh0; obtain ⟨r45, h_46, hh0⟩ := bind_some hh0; obtain ⟨r47, h_48, hh0⟩ := bind_some hh0; refine PC.rg ?_; refine PL.op rfl (Rd.moveP rfl) ?_; refine PL.op rfl (Rd.moveO rfl) ?_; refine PL.op rfl (Rd.ixOM rfl rfl rfl (ixI_lt h_44)) ?_; refine PL.op rfl (Rd.owM1 rfl rfl h_44 rfl rfl) ?_; refine PL.callM false [] (w_S_parseInt N x43 r45 h_46) rfl Tryz.call37 rfl ⟨.t _, trivial⟩ rfl trivial (fun h => by cases h) ?_; refine PL.op rfl (Rd.build rfl rfl rfl rfl) ?_; refine PL.callM false [0] (w_S_desk_alter N p_d (I_Change.mk (3 : Int) r45 (I_Column.mk (0 : Int) (I_Value.mk (0 : Int) (0 : Int) ByteArray.empty))) r47 h_48) rfl Tryz.call36 rfl ⟨.op rfl, .aggL ⟨.t _, .t _, .t _, .t _, .t _, .t _, trivial⟩, trivial⟩ rfl ⟨⟨_, rfl, rfl, rfl, .mx ⟨.t _, .t _, .t _, trivial⟩⟩, trivial⟩ (fun h => by cases h) ?_; refine PL.nm (sA r47.1) [some ⟨.mx [sL r47.2.table.first, sL r47.2.table.changes, sL r47.2.table.rows], 56, 0⟩, some ⟨.tr (eL r1), 9, 1⟩] rfl rfl ?_; refine PL.aT rfl rfl ?_; refine PL.nn ?_; refine PC.ret ?_; refine inA_r ?_; refine thA_r ?_; obtain rfl := some_in hh0; exact FinA.mk (r := sA ((r47.1, r47.2).1)) (bl := [⟨.mx [sL ((r47.1, r47.2).2.table.first), sL ((r47.1, r47.2).2.table.changes), sL ((r47.1, r47.2).2.table.rows)], 56, 0⟩]) [some 0] (.inl rfl) rfl (rl := [.tmp 4]) (.tmp .nil) rfl rfl rfl (.t _) ⟨⟨_, rfl, rfl, rfl, .mx ⟨.t _, .t _, .t _, trivial⟩⟩, trivial⟩ ⟨rfl, rfl⟩
  refine PC.cf rfl h_42 ?_; obtain ⟨x49, h_50, hh0⟩ := bind_some hh0; refine PC.cut hs (fun _ : Unit => [(0, .op 0 0), (1, sA p_line), (5, .os 1 0 r1.length), (82, bA ((x49.toList == (ByteArray.mk #[105, 110, 115, 101, 114, 116]).toList) && decide ((1 : Int) < (r1.length : Int))))]) (fun _ => [⟨.mx [sL p_d.table.first, sL p_d.table.changes, sL p_d.table.rows], 56, 0⟩, ⟨.tr (eL r1), 9, 1⟩]) (fun _ => True) ?_ ?_
  · rcases bool_tf ((x49.toList == (ByteArray.mk #[105, 110, 115, 101, 114, 116]).toList)) with h_51 | h_51; rotate_left
    · refine PC.rg ?_; refine PL.op rfl (Rd.moveO rfl) ?_; refine PL.op rfl (Rd.ixOM rfl rfl rfl (ixI_lt h_50)) ?_; refine PL.op rfl (Rd.owM1 rfl rfl h_50 rfl rfl) ?_; refine PL.op rfl (Rd.eqlS rfl rfl) ?_; refine PL.mT rfl rfl ?_; (iterate 3 refine PL.gf rfl rfl h_51 ?_); refine PL.op rfl (Rd.pick_f rfl h_51) ?_; refine PL.aT rfl rfl ?_; refine PL.nn ?_; exact ⟨(), trivial, [some 0, some 1], ⟨rfl, rfl, ⟨⟨_, rfl, rfl, rfl, .mx ⟨.t _, .t _, .t _, trivial⟩⟩, ⟨_, rfl, rfl, rfl, .tr _⟩, trivial⟩, ⟨.op rfl, .t _, .os rfl, (Sb.tB (and_f h_51)), trivial⟩⟩⟩
    refine PC.rg ?_; refine PL.op rfl (Rd.moveO rfl) ?_; refine PL.op rfl (Rd.ixOM rfl rfl rfl (ixI_lt h_50)) ?_; refine PL.op rfl (Rd.owM1 rfl rfl h_50 rfl rfl) ?_; refine PL.op rfl (Rd.eqlS rfl rfl) ?_; refine PL.mT rfl rfl ?_; refine PL.gn rfl h_51 ?_; refine PL.op rfl (Rd.moveO rfl) ?_; refine PL.gn rfl h_51 ?_; refine PL.op rfl (Rd.lenO rfl rfl) ?_; refine PL.gn rfl h_51 ?_; refine PL.op rfl (Rd.gtr rfl rfl) ?_; refine PL.op rfl (Rd.pick_t rfl h_51) ?_; refine PL.aT rfl rfl ?_; refine PL.nn ?_; exact ⟨(), trivial, [some 0, some 1], ⟨rfl, rfl, ⟨⟨_, rfl, rfl, rfl, .mx ⟨.t _, .t _, .t _, trivial⟩⟩, ⟨_, rfl, rfl, rfl, .tr _⟩, trivial⟩, ⟨.op rfl, .t _, .os rfl, (Sb.tB (and_t h_51)), trivial⟩⟩⟩
  rintro ⟨⟩ -
  rcases cond_some hh0 with ⟨h_52, hh0⟩ | ⟨h_52, hh0⟩
  · refine PC.ct rfl h_52 ?_; refine PC.seq ?_; obtain ⟨xs53, h_54, hh0⟩ := bind_some hh0; obtain ⟨r55, h_56, hh0⟩ := bind_some hh0; refine PC.rg ?_; refine PL.op rfl (Rd.moveP rfl) ?_; refine PL.op rfl (Rd.moveO rfl) ?_; refine PL.frz hs 1 2 [(5, sL r1), (93, sL r1)] [some ⟨.mx [sL p_d.table.first, sL p_d.table.changes, sL p_d.table.rows], 56, 0⟩, none] rfl rfl ⟨(.own rfl (by decide) rfl rfl), (.own rfl (by decide) rfl rfl), trivial⟩ ⟨⟨rfl, .inl rfl⟩, trivial⟩ ?_; refine PL.op rfl (Rd.subTML rfl rfl h_54) ?_; refine PL.nm (sL xs53) [some ⟨.mx [sL p_d.table.first, sL p_d.table.changes, sL p_d.table.rows], 56, 0⟩, none] rfl rfl ?_; refine PL.callM false [0] (w_S_desk_insert N p_d xs53 r55 h_56) rfl Tryz.call40 rfl ⟨.op rfl, .t _, trivial⟩ rfl ⟨⟨_, rfl, rfl, rfl, .mx ⟨.t _, .t _, .t _, trivial⟩⟩, trivial⟩ (fun h => by cases h) ?_; refine PL.nm (sA r55.1) [some ⟨.mx [sL r55.2.table.first, sL r55.2.table.changes, sL r55.2.table.rows], 56, 0⟩, none] rfl rfl ?_; refine PL.aT rfl rfl ?_; refine PL.nn ?_; refine PC.ret ?_; refine inA_r ?_; refine thA_r ?_; obtain rfl := some_in hh0; exact FinA.mk (r := sA ((r55.1, r55.2).1)) (bl := [⟨.mx [sL ((r55.1, r55.2).2.table.first), sL ((r55.1, r55.2).2.table.changes), sL ((r55.1, r55.2).2.table.rows)], 56, 0⟩]) [some 0] (.inl rfl) rfl (rl := [.tmp 4]) (.tmp .nil) rfl rfl rfl (.t _) ⟨⟨_, rfl, rfl, rfl, .mx ⟨.t _, .t _, .t _, trivial⟩⟩, trivial⟩ ⟨rfl, rfl⟩
  refine PC.cf rfl h_52 ?_; obtain ⟨x57, h_58, hh0⟩ := bind_some hh0; refine PC.cut hs (fun _ : Unit => [(0, .op 0 0), (1, sA p_line), (5, .os 1 0 r1.length), (96, bA ((x57.toList == (ByteArray.mk #[114, 101, 119, 114, 105, 116, 101]).toList) && decide ((r1.length : Int) = (2 : Int))))]) (fun _ => [⟨.mx [sL p_d.table.first, sL p_d.table.changes, sL p_d.table.rows], 56, 0⟩, ⟨.tr (eL r1), 9, 1⟩]) (fun _ => True) ?_ ?_
  · rcases bool_tf ((x57.toList == (ByteArray.mk #[114, 101, 119, 114, 105, 116, 101]).toList)) with h_59 | h_59; rotate_left
    · refine PC.rg ?_; refine PL.op rfl (Rd.moveO rfl) ?_; refine PL.op rfl (Rd.ixOM rfl rfl rfl (ixI_lt h_58)) ?_; refine PL.op rfl (Rd.owM1 rfl rfl h_58 rfl rfl) ?_; refine PL.op rfl (Rd.eqlS rfl rfl) ?_; refine PL.mT rfl rfl ?_; (iterate 3 refine PL.gf rfl rfl h_59 ?_); refine PL.op rfl (Rd.pick_f rfl h_59) ?_; refine PL.aT rfl rfl ?_; refine PL.nn ?_; exact ⟨(), trivial, [some 0, some 1], ⟨rfl, rfl, ⟨⟨_, rfl, rfl, rfl, .mx ⟨.t _, .t _, .t _, trivial⟩⟩, ⟨_, rfl, rfl, rfl, .tr _⟩, trivial⟩, ⟨.op rfl, .t _, .os rfl, (Sb.tB (and_f h_59)), trivial⟩⟩⟩
    refine PC.rg ?_; refine PL.op rfl (Rd.moveO rfl) ?_; refine PL.op rfl (Rd.ixOM rfl rfl rfl (ixI_lt h_58)) ?_; refine PL.op rfl (Rd.owM1 rfl rfl h_58 rfl rfl) ?_; refine PL.op rfl (Rd.eqlS rfl rfl) ?_; refine PL.mT rfl rfl ?_; refine PL.gn rfl h_59 ?_; refine PL.op rfl (Rd.moveO rfl) ?_; refine PL.gn rfl h_59 ?_; refine PL.op rfl (Rd.lenO rfl rfl) ?_; refine PL.gn rfl h_59 ?_; refine PL.op rfl (Rd.eql rfl rfl) ?_; refine PL.op rfl (Rd.pick_t rfl h_59) ?_; refine PL.aT rfl rfl ?_; refine PL.nn ?_; exact ⟨(), trivial, [some 0, some 1], ⟨rfl, rfl, ⟨⟨_, rfl, rfl, rfl, .mx ⟨.t _, .t _, .t _, trivial⟩⟩, ⟨_, rfl, rfl, rfl, .tr _⟩, trivial⟩, ⟨.op rfl, .t _, .os rfl, (Sb.tB (and_t h_59)), trivial⟩⟩⟩
  rintro ⟨⟩ -
  rcases cond_some hh0 with ⟨h_60, hh0⟩ | ⟨h_60, hh0⟩
  · refine PC.ct rfl h_60 ?_; refine PC.seq ?_; obtain ⟨x61, h_62, hh0⟩ := bind_some hh0; obtain ⟨r63, h_64, hh0⟩ := bind_some hh0; obtain ⟨r65, h_66, hh0⟩ := bind_some hh0; refine PC.rg ?_; refine PL.op rfl (Rd.moveP rfl) ?_; refine PL.op rfl (Rd.moveO rfl) ?_; refine PL.op rfl (Rd.ixOM rfl rfl rfl (ixI_lt h_62)) ?_; refine PL.op rfl (Rd.owM1 rfl rfl h_62 rfl rfl) ?_; refine PL.callM false [] (w_S_parseInt N x61 r63 h_64) rfl Tryz.call37 rfl ⟨.t _, trivial⟩ rfl trivial (fun h => by cases h) ?_; refine PL.callM false [0] (w_S_desk_rewrite N p_d r63 r65 h_66) rfl Tryz.call41 rfl ⟨.op rfl, .t _, trivial⟩ rfl ⟨⟨_, rfl, rfl, rfl, .mx ⟨.t _, .t _, .t _, trivial⟩⟩, trivial⟩ (fun h => by cases h) ?_; refine PL.nm (sA r65.1) [some ⟨.mx [sL r65.2.table.first, sL r65.2.table.changes, sL r65.2.table.rows], 56, 0⟩, some ⟨.tr (eL r1), 9, 1⟩] rfl rfl ?_; refine PL.aT rfl rfl ?_; refine PL.nn ?_; refine PC.ret ?_; refine inA_r ?_; refine thA_r ?_; obtain rfl := some_in hh0; exact FinA.mk (r := sA ((r65.1, r65.2).1)) (bl := [⟨.mx [sL ((r65.1, r65.2).2.table.first), sL ((r65.1, r65.2).2.table.changes), sL ((r65.1, r65.2).2.table.rows)], 56, 0⟩]) [some 0] (.inl rfl) rfl (rl := [.tmp 4]) (.tmp .nil) rfl rfl rfl (.t _) ⟨⟨_, rfl, rfl, rfl, .mx ⟨.t _, .t _, .t _, trivial⟩⟩, trivial⟩ ⟨rfl, rfl⟩
  refine PC.cf rfl h_60 ?_; refine PC.seq ?_; refine PC.rg ?_; refine PL.mT rfl rfl ?_; refine PL.op rfl (Rd.eqlS rfl rfl) ?_; refine PL.aT rfl rfl ?_; refine PL.nn ?_; rcases cond_some hh0 with ⟨h_67, hh0⟩ | ⟨h_67, hh0⟩
  · refine PC.ct rfl h_67 ?_; refine PC.seq ?_; obtain ⟨r68, h_69, hh0⟩ := bind_some hh0; refine PC.rg ?_; refine PL.op rfl (Rd.moveP rfl) ?_; refine PL.callM false [0] (w_S_desk_rows N p_d r68 h_69) rfl Tryz.call42 rfl ⟨.op rfl, trivial⟩ rfl ⟨⟨_, rfl, rfl, rfl, .mx ⟨.t _, .t _, .t _, trivial⟩⟩, trivial⟩ (fun h => by cases h) ?_; refine PL.nm (sA r68.1) [some ⟨.mx [sL r68.2.table.first, sL r68.2.table.changes, sL r68.2.table.rows], 56, 0⟩, some ⟨.tr (eL r1), 9, 1⟩] rfl rfl ?_; refine PL.aT rfl rfl ?_; refine PL.nn ?_; refine PC.ret ?_; refine inA_r ?_; refine thA_r ?_; obtain rfl := some_in hh0; exact FinA.mk (r := sA ((r68.1, r68.2).1)) (bl := [⟨.mx [sL ((r68.1, r68.2).2.table.first), sL ((r68.1, r68.2).2.table.changes), sL ((r68.1, r68.2).2.table.rows)], 56, 0⟩]) [some 0] (.inl rfl) rfl (rl := [.tmp 4]) (.tmp .nil) rfl rfl rfl (.t _) ⟨⟨_, rfl, rfl, rfl, .mx ⟨.t _, .t _, .t _, trivial⟩⟩, trivial⟩ ⟨rfl, rfl⟩
  refine PC.cf rfl h_67 ?_; refine PC.seq ?_; refine PC.rg ?_; refine PL.mT rfl rfl ?_; refine PL.op rfl (Rd.eqlS rfl rfl) ?_; refine PL.aT rfl rfl ?_; refine PL.nn ?_; rcases cond_some hh0 with ⟨h_70, hh0⟩ | ⟨h_70, hh0⟩; rotate_left
  · refine PC.cf rfl h_70 ?_; refine PC.skip ?_; refine inA_n ?_; refine thA_n ?_; refine PC.seq ?_; refine PC.rg ?_; refine PL.aT rfl rfl ?_; refine PL.nn ?_; refine PC.ret ?_; obtain rfl := some_in hh0; exact FinA.mk (r := sA (((ByteArray.mk #[119, 104, 97, 116]), p_d).1)) (bl := [⟨.mx [sL (((ByteArray.mk #[119, 104, 97, 116]), p_d).2.table.first), sL (((ByteArray.mk #[119, 104, 97, 116]), p_d).2.table.changes), sL (((ByteArray.mk #[119, 104, 97, 116]), p_d).2.table.rows)], 56, 0⟩]) [some 0] (.inl rfl) rfl (rl := [.tmp 4]) (.tmp .nil) rfl rfl rfl (.t _) ⟨⟨_, rfl, rfl, rfl, .mx ⟨.t _, .t _, .t _, trivial⟩⟩, trivial⟩ ⟨rfl, rfl⟩
  refine PC.ct rfl h_70 ?_; refine PC.seq ?_; obtain ⟨r71, h_72, hh0⟩ := bind_some hh0; refine PC.rg ?_; refine PL.op rfl (Rd.moveP rfl) ?_; refine PL.callM false [0] (w_S_desk_old N p_d r71 h_72) rfl Tryz.call43 rfl ⟨.op rfl, trivial⟩ rfl ⟨⟨_, rfl, rfl, rfl, .mx ⟨.t _, .t _, .t _, trivial⟩⟩, trivial⟩ (fun h => by cases h) ?_; refine PL.nm (sA r71.1) [some ⟨.mx [sL r71.2.table.first, sL r71.2.table.changes, sL r71.2.table.rows], 56, 0⟩, some ⟨.tr (eL r1), 9, 1⟩] rfl rfl ?_; refine PL.aT rfl rfl ?_; refine PL.nn ?_; refine PC.ret ?_; refine inA_r ?_; refine thA_r ?_; obtain rfl := some_in hh0; exact FinA.mk (r := sA ((r71.1, r71.2).1)) (bl := [⟨.mx [sL ((r71.1, r71.2).2.table.first), sL ((r71.1, r71.2).2.table.changes), sL ((r71.1, r71.2).2.table.rows)], 56, 0⟩]) [some 0] (.inl rfl) rfl (rl := [.tmp 4]) (.tmp .nil) rfl rfl rfl (.t _) ⟨⟨_, rfl, rfl, rfl, .mx ⟨.t _, .t _, .t _, trivial⟩⟩, trivial⟩ ⟨rfl, rfl⟩
end V
end Go.Proofs.YtemmcidmcojjjaaGreatDoor
namespace Go.Proofs.YtemmcidmcojjjaaGreatDoor
namespace V
open Enc (enc)
set_option maxRecDepth 100000
open Go.RowKit
abbrev Gh := AV → Value → Prop
def lftG (s : Bs) (G : Gh) (Q : APost) : Post := fun e σc w => ∃ M U σ O, Mem s M O U w ∧ Rels w U M σ σc ∧ (∀ c z, G c z → Rel w U M c z) ∧ Q e σ O
structure GC (P : Program) (n : Nat) (s : Bs) (G : Gh) (c : Code) (Q : APost) (σ : Fr) (O : Obs) : Prop where
  h : ∀ M U σc w, Mem s M O U w → Rels w U M σ σc → (∀ c z, G c z → Rel w U M c z) → CW P n c (lftG s G Q) σc w
structure GL (P : Program) (n : Nat) (s : Bs) (G : Gh) (ops : Array Oper) (l : List Oper) (Q : APost) (σ : Fr) (O : Obs) : Prop where
  h : ∀ M U σc w, Mem s M O U w → Rels w U M σ σc → (∀ c z, G c z → Rel w U M c z) → LW P n ops l (lftG s G Q) σc w
def Eff (P : Program) (s : Bs) (O : Obs) (σ : Fr) (op : Op) (ty : TypeId) (x : AV) (O' : Obs) : Prop :=
  ∀ M U w σc, Mem s M O U w → Rels w U M σ σc → ∃ y w' M', Yl P σc op ty w y w' ∧ Mem s M' O' U w' ∧ Rel w' U M' x y ∧ (∀ c z, Rel w U M c z → Rel w' U M' c z)
section
variable {P : Program} {n : Nat} {s : Bs} {G : Gh} {Q : APost} {σ : Fr} {O : Obs} {ops : Array Oper} {rest : List Oper} {d : Nat} {ty : TypeId} {pos : String} {after : Array Edge}
theorem GC.seq {x y : Code} (h : GC P n s G x (thA (GC P n s G y Q) Q) σ O) : GC P n s G (.seq x y) Q σ O := by
  refine ⟨fun M U σc w S hσ hG => CW.seq ((h.h M U σc w S hσ hG).mono ?_)⟩
  rintro e τ w' ⟨M', U', σ', O', S', hσ', hG', hq⟩
  unfold thn
  cases e with
  | normal => exact GC.h hq _ _ _ _ S' hσ' hG'
  | _ => exact ⟨M', U', σ', O', S', hσ', hG', hq⟩
theorem GC.ret (h : Q .ret σ O) : GC P n s G .ret Q σ O := ⟨fun M U σc w S hσ hG => CW.ret ⟨M, U, σ, O, S, hσ, hG, h⟩⟩
theorem GC.region {id : Nat} {l : List Oper} (h : GL P n s G l.toArray l Q σ O) : GC P n s G (.region id l.toArray false) Q σ O :=
  ⟨fun M U σc w S hσ hG => CW.region (h.h M U σc w S hσ hG)⟩
theorem GL.nil (h : Q .normal σ O) : GL P n s G ops [] Q σ O := ⟨fun M U σc w S hσ hG => LW.nil ⟨M, U, σ, O, S, hσ, hG, h⟩⟩
theorem GL.op {op : Op} {x : AV} (hd : Nat.blt d n = true) (hr : Rd P s O σ op ty x) (k : GL P n s G ops rest Q (updA σ d x) O) : GL P n s G ops (⟨some d, op, ty, pos, after, none⟩ :: rest) Q σ O := by
  refine ⟨fun M U σc w S hσ hG => ?_⟩
  obtain ⟨y, hy, hrun⟩ := hr M U w σc S hσ
  exact LW.op hd (hrun w (Agr'.refl _ _ _)) (k.h M U _ w S (hσ.upd d hy) hG)
theorem GL.eff {op : Op} {x : AV} {O' : Obs} (hd : Nat.blt d n = true) (h : Eff P s O σ op ty x O') (k : GL P n s G ops rest Q (updA σ d x) O') : GL P n s G ops (⟨some d, op, ty, pos, after, none⟩ :: rest) Q σ O := by
  refine ⟨fun M U σc w S hσ hG => ?_⟩
  obtain ⟨y, w', M', hrun, S', hx, hall⟩ := h M U w σc S hσ
  have hσ' : Rels w' U M' σ σc := fun t => hall _ _ (hσ t)
  exact LW.op hd hrun (k.h M' U _ w' S' (hσ'.upd d hx) (fun c z h => hall _ _ (hG c z h)))
theorem Ef.toEff {op : Op} {x : AV} {O' : Obs} (h : Ef P s O σ op ty x O') : Eff P s O σ op ty x O' := fun M U w σc S hσ => by
  obtain ⟨y, w', p, h1, h2, h3, h4, _⟩ := h M U w σc S hσ
  exact ⟨y, w', _, h1, h2, h3, h4⟩
theorem GL.store {t : TypeId} {x y : Operand} {b j m : Nat} {ob ob' : Ob} {v : AV} {cs : List AV} [Z : CS P t m] (hx : evA σ x = .op b j) (hy : evA σ y = v) (hw : wholeA v = true) (hc : cellsA v = cs) (hm : cs.length = m) (hO : O[b]? = some (some ob)) (hj : j + m ≤ ob.cells.length)
    (hc' : ob'.cells = ob.cells.take j ++ cs ++ ob.cells.drop (j + m)) (ht' : ob'.ty = ob.ty) (hk' : ob'.k = ob.k)
    (k : GL P n s G ops rest Q σ (O.set b (some ob'))) : GL P n s G ops (⟨none, .store t x y, ty, pos, after, none⟩ :: rest) Q σ O := by
  refine ⟨fun M U σc w S hσ hG => ?_⟩
  obtain ⟨w', L, hrun, S', hall, _⟩ := store_core (P := P) (t := t) (ty := ty) (pos := pos) (after := after) hx hy hw hc hm hO hj hc' ht' hk' S hσ
  exact LW.op0 (w' := w') hrun (k.h M U σc _ S' (fun t => hall _ _ (hσ t)) (fun c z h => hall _ _ (hG c z h)))
theorem GL.call (κ : List Nat) {f : FuncId} {O0 : List Ob} {args ds : List AV} {rv : AV} {rb : List Ob} {xs : List Operand} {ats : Array TypeId} (hc : FnX P f O0 args (RE rv rb)) (hd : Nat.blt d n = true)
    (hr : ∀ args w, (callFunc f args).run P w = .ok (.enter f args) w) (ha : xs.map (evA σ) = ds) (hs : SbL false O (κ.map some) args ds) (hnd : nodupB (κ.map some) = true) (hb : BlkL false O (κ.map some) (κ.map some) O0)
    (k : GL P n s G ops rest Q (updA σ d (rv.ren (thet κ O.length))) (setK (O ++ (rb.drop κ.length).map (fun o => some (o.ren (thet κ O.length)))) κ (rb.map (·.ren (thet κ O.length))))) :
    GL P n s G ops (⟨some d, .call { callee := .value (.func f), args := xs.toArray, argTypes := ats }, ty, pos, after, none⟩ :: rest) Q σ O := by
  refine ⟨fun M U σc w S hσ hG => LW.call hd (f := f) (run_fcall hr rfl) (call_core false κ hc ha hs hnd hb (fun h => by cases h) S hσ) ?_⟩
  rintro e w' ⟨v, r, bl, M2, U2, X, rfl, ⟨rfl, rfl⟩, S2, h1, h2, _⟩
  exact ⟨v, rfl, k.h M2 U2 _ w' S2 (Rels.upd (fun t => h1 _ _ (hσ t)) d h2) (fun c z h => h1 _ _ (hG c z h))⟩
def FinG (P : Program) (fn : Func) (K : AV → Obs → Prop) : APost := fun e σ O => (e = .ret ∨ e = .normal) ∧ ∃ vs, RVA P σ O fn.results.toList vs ∧ K (packA vs) O
theorem fin_vals {fn : Func} {R : Ending → World → Prop} {e : Exit} {vs : List AV} {M : Mp} {U : Nat → Prop} {w : World} {σc : Nat → Value} (he : e = .ret ∨ e = .normal) (hv : RVA P σ O fn.results.toList vs) (S : Mem s M O U w) (hσ : Rels w U M σ σc) (hR : ∀ v, Rel w U M (packA vs) v → R (.returned v) w) : Fin P fn R e σc w := by
  obtain ⟨ys, hrv, hyl, hyr⟩ := hv.rv S hσ
  have hlen : vs.length = fn.results.toList.length := hv.len
  match hvs : vs, hys : ys, hyl with
  | [v], [y], _ =>
    have hr1 : ∃ rv, fn.results = #[rv] := by
      match hq : fn.results.toList, hlen with
      | [rv], _ => exact ⟨rv, by rw [← Array.toArray_toList (xs := fn.results), hq]⟩
    obtain ⟨rv', hrv'⟩ := hr1
    rw [hrv'] at hrv
    exact Fin.rets1 (l := rv') he hrv' (by simpa using hrv) (hR _ (hyr 0 _ _ rfl rfl))
  | [], [], _ =>
    have h0 : fn.results = #[] := by
      have : fn.results.toList = [] := List.eq_nil_of_length_eq_zero (by simpa using hlen.symm)
      rw [← Array.toArray_toList (xs := fn.results), this]
    refine Fin.ret (v := .tuple #[]) he (fun a ha => ?_) (hR _ (.tup [] [] rfl (fun j c y h => by simp at h)))
    rw [results_eq, h0]; simp
  | v1 :: v2 :: vs', y1 :: y2 :: ys', hyl =>
    exact Fin.rets (l := fn.results.toList) he (by simp) (by rw [← hlen]; rfl) hrv (hR _ (.tup _ _ hyl hyr))
theorem PL.inl {f : FuncId} {fn : Func} {c : Code} {xs : List Operand} {args : List AV} {ats : Array TypeId} {K : AV → Obs → Prop} (hf : P.funcs[f]? = some fn) (hb : fn.body = some c) (hn : Nat.ble args.length fn.ntmps = true) (hd : Nat.blt d n = true)
    (hr : ∀ args w, (callFunc f args).run P w = .ok (.enter f args) w) (ha : xs.map (evA σ) = args) (h : ∀ G, GC P fn.ntmps s G c (FinG P fn K) (iniA args) O)
    (k : ∀ r O', K r O' → PL P n s ops rest Q (updA σ d r) O') :
    PL P n s ops (⟨some d, .call { callee := .value (.func f), args := xs.toArray, argTypes := ats }, ty, pos, after, none⟩ :: rest) Q σ O := by
  refine ⟨fun M U σc w S hσ => ?_⟩
  have hal : (xs.map (ev σc)).length = args.length := by rw [← ha]; simp
  refine LW.call (R := fun e w' => ∃ v r O' M' U', e = .returned v ∧ K r O' ∧ Mem s M' O' U' w' ∧ Rel w' U' M' r v ∧ ∀ c z, Rel w U M c z → Rel w' U' M' c z) hd (f := f) (run_fcall hr rfl) ?_ ?_
  · refine calls hf hb (by rw [hal]; exact hn) ?_
    have hσ2 : Rels w U M (iniA args) (ini (xs.map (ev σc))) := by
      intro t
      unfold iniA ini
      simp only [List.getD_eq_getElem?_getD]
      rcases Nat.lt_or_ge t xs.length with h1 | h1
      · have e1 : args[t]? = some (evA σ xs[t]) := by rw [← ha]; simp [h1]
        have e2 : (xs.map (ev σc))[t]? = some (ev σc xs[t]) := by simp [h1]
        rw [e1, e2]
        exact evA_rel hσ _
      · have e1 : args[t]? = none := List.getElem?_eq_none (by rw [← ha]; simpa using h1)
        rw [e1]; exact .any _
    refine ((h (fun c z => Rel w U M c z)).h M U _ w S hσ2 (fun c z h => h)).mono ?_
    rintro e τ w' ⟨M', U', σ', O', S', hσ', hG', he, vs, hv, hK⟩
    exact fin_vals he hv S' hσ' fun v hr => ⟨v, _, O', M', U', rfl, hK, S', hr, hG'⟩
  · rintro e w' ⟨v, r, O', M', U', rfl, hK, S', hr', hall⟩
    exact ⟨v, rfl, (k r O' hK).h M' U' _ w' S' (Rels.upd (fun t => hall _ _ (hσ t)) d hr')⟩
theorem Eff.app {m0 : Nat} (hm : s.L.length = m0) {t e : TypeId} {x y : Operand} {b n0 m k bytes : Nat} {ya : AV} {cs cs0 ds cs' : List Tr} [T : CSl P t e] [Z : CE P e k bytes] (hx : evA σ x = .os b 0 n0) (hO : O[b]? = some (some ⟨.tr cs, e, k⟩)) (hy : evA σ y = ya)
    (hsrc : SrcA s (O.set b none) ya k m ds) (hb : Nat.ble m0 b = true) (hcs : cs.take (n0 * k) = cs0) (hl : cs0.length = n0 * k) (hbytes : (n0 + m) * bytes ≤ 140737488355328) (h63 : n0 + m ≤ 4611686018427387904) (hr : cs0 ++ ds = cs') :
    Eff P s O σ (.call { callee := .builtin .append, args := #[x, y], argTypes := #[t, t] }) ty (.os O.length 0 (n0 + m)) (O.set b none ++ [some ⟨.tr cs', e, k⟩]) := by
  subst hr
  intro M U w σc S hσ
  have hb' : s.L.length ≤ b := by rw [hm]; exact Nat.le_of_ble_eq_true hb
  have ex := evA_rel hσ x; rw [hx] at ex
  have ey := evA_rel hσ y; rw [hy] at ey
  obtain ⟨S1, hk⟩ := S.kill hb'
  obtain ⟨olds, hg, ho1, ho2, ho3⟩ := S.grw hb' hO hcs hl ex
  obtain ⟨ad, c, news, hyv, hnl, hnc, hn1, hn2⟩ := hsrc.2 _ _ _ _ S1 (hk _ _ ey)
  obtain ⟨v', w', p, hrun, S', hrel, hres, _⟩ := append_core (P := P) (t := t) (ty := ty) S1 hg hnl hnc hn1 ho2 ho1.symm (by rw [hsrc.1, hnl]) ho3 hn2 hbytes h63 (c := c)
  refine ⟨v', w', _, Yl.mk fun d pos after g => ?_, S', by simpa using hres, fun c z h => hrel _ _ (hk _ _ h)⟩
  simp [execOp, resolve, invoke, builtin, hyv, hrun]
theorem Eff.apS {m0 : Nat} (hm : s.L.length = m0) {t e' tx : TypeId} {x y : Operand} {b n0 : Nat} {xs zs : List UInt8} {v : ByteArray} [T : CSl P t e'] [Z : CE P e' 1 1] (hx : evA σ x = .os b 0 n0) (hO : O[b]? = some (some ⟨.tr (eL xs), e', 1⟩)) (hy : evA σ y = .t (.v (.string v)))
    (htx : P.underlying tx = some .string) (hb : Nat.ble m0 b = true) (hn : n0 = xs.length) (h : appM 1 xs (bytesL v) = some zs) :
    Eff P s O σ (.call { callee := .builtin .append, args := #[x, y], argTypes := #[t, tx] }) ty (.os O.length 0 zs.length) (O.set b none ++ [some ⟨.tr (eL zs), e', 1⟩]) := by
  obtain ⟨rfl, h2, h3⟩ := appM_spec h
  subst hn
  intro M U w σc S hσ
  have hb' : s.L.length ≤ b := by rw [hm]; exact Nat.le_of_ble_eq_true hb
  have ex := evA_rel hσ x; rw [hx] at ex
  have ey := evA_rel hσ y; rw [hy] at ey
  have hyv : ev σc y = .string v := Rel.int ey
  obtain ⟨S1, hk⟩ := S.kill hb'
  obtain ⟨olds, hg, ho1, ho2, ho3⟩ := S.grw hb' hO (eL_all xs) (eL_len xs) ex
  have hs := Src.ofString (P := P) w htx v
  have hbl := bytesL_len v
  obtain ⟨v', w', p, hrun, S', hrel, hres, _⟩ := append_coreG (P := P) (t := t) (ty := ty) (k := 1) S1 hg hs ho2 ho1.symm (ds := eL (bytesL v)) (by rw [eL_len, byteCells_length, hbl]; exact Nat.mul_one _) ho3 (fun j c y h1 h2 => byteCells_get h1 h2) (by rw [hbl] at h2; exact h2) (by rw [hbl] at h3; exact h3)
  refine ⟨v', w', _, Yl.mk fun d pos after g => ?_, by rw [eL_app]; exact S', ?_, fun c z h => hrel _ _ (hk _ _ h)⟩
  · simp [execOp, resolve, invoke, builtin, hyv, hrun]
  · rw [List.length_append, hbl]; simpa using hres
theorem Ef.allocB {t : TypeId} [Z : CZ P t (.agg #[.pointer none, .slice none 0 0])] : Ef P s O σ (.alloc t) ty (.op O.length 0) (O ++ [some ⟨.mx [.bp false O.length, .t (.v (.slice none 0 0))], t, 0⟩]) := by
  intro M U w σc S hσ
  have hl : M.length = O.length := S.len
  let w' := w.alloc (.cells (Value.agg #[.pointer none, .slice none 0 0]).cells t)
  have hbel : Below w.heap.size w w' := (Below.refl _ _).alloc (Nat.le_refl _) _
  obtain ⟨S', hall⟩ := S.insY (X := []) (w' := w') (p := .ad ⟨w.heap.size, 2, 0⟩) (ob := ⟨.mx [.bp false O.length, .t (.v (.slice none 0 0))], t, 0⟩) (BelowX.of _ hbel) (fun B h => by simp at h)
    (fun B h => by
      have h : w.heap.size = B := h
      subst h
      exact ⟨fun h => by have := S.lt _ h; omega, fun h => by have := (S.u _ h).1.1; omega, S.base.size, by simp [w']⟩) (fun F e => by cases e)
    ⟨rfl, Nat.le_refl 2, #[.pointer none, .slice none 0 0], heap_alloc_new _ _, rfl, fun j c hj => by
      match j, hj with
      | 0, hj =>
        have hj : some (AV.bp false O.length) = some c := hj
        cases hj
        exact ⟨.pointer none, rfl, rfl, .bpn _ ⟨w.heap.size, 2, 0⟩ (snoc_new hl.symm) rfl⟩
      | 1, hj =>
        have hj : some (AV.t (.v (.slice none 0 0))) = some c := hj
        cases hj
        exact ⟨.slice none 0 0, rfl, rfl, .t _ _ (.v _ rfl)⟩
      | j + 2, hj => simp [Ob.cells, Cs.list] at hj⟩
  refine ⟨.pointer (some ⟨w.heap.size, 0, none⟩), _, _, Yl.mk fun d pos after g => ?_, S', ?_, hall, BelowX.of _ hbel, fun B h => Nat.le_of_eq h⟩
  · simp [execOp, Instr.alloc, Z.run, newVar, newRow, w']
  · have := Rel.op (w := w') (U := U) (M := M ++ [.ad ⟨w.heap.size, 2, 0⟩]) O.length 0 ⟨w.heap.size, 2, 0⟩ (snoc_new hl.symm)
    exact this
end
theorem w_copyCheck (f : Bool) (m : Nat) (l : List UInt8) : FnX Tryz.prog 23 [⟨.mx [.bp f 0, .os 1 0 m], 46, 0⟩, ⟨.tr (eL l), 5, 1⟩] [.op 0 0] (RE (.tup []) [⟨.mx [.bp true 0, .os 1 0 m], 46, 0⟩, ⟨.tr (eL l), 5, 1⟩]) := by
  intro s U av S hV ha
  obtain ⟨hal, har⟩ := ha
  obtain ⟨y, rfl⟩ : ∃ y, av = [y] := List.length_eq_one_iff.1 hal
  have hy := har 0 _ y rfl rfl
  have hsl : s.L.length = 2 := by rw [S.len]; rfl
  cases hy with
  | opd _ _ _ _ hM => exact (S.own 0 _ _ rfl hM).elim
  | op _ _ L hM =>
    obtain ⟨hk, hle, cur, hcur, hsz, hr⟩ := S.own 0 _ _ rfl hM
    obtain ⟨y0, hy0, _, hR0⟩ := hr 0 (.bp f 0) rfl
    obtain ⟨y1, hy1, h11, hR1⟩ := hr 1 (.os 1 0 m) rfl
    have hoff : L.off = 0 := rfl
    simp only [hoff, Nat.zero_add] at hy0 hy1 hle
    have h2 : L.size = 2 := by
      cases hR0 with
      | bpt _ L' hM' h2 => rw [hM] at hM'; cases hM'; exact h2
      | bpn _ L' hM' h2 => rw [hM] at hM'; cases hM'; exact h2
      | bpd _ _ _ _ hM' => rw [hM] at hM'; cases hM'
    have hc2 : cur.size = 2 := by rw [hsz, h2]
    have hlt := S.lt _ (.ad hM)
    -- memory behind it, whatever stood in the first cell
    have fin : ∀ w', BelowX [L.blk] s.w w' → (∃ cur' : Array Value, w'.heap[L.blk]? = some (.cells cur' 46 (0, 0)) ∧ cur'.size = L.size ∧ cur'[0]? = some (.pointer (some ⟨L.blk, 0, none⟩)) ∧ cur'[1]? = some y1) →
        ∃ v r bl M' U', Ending.returned (.tuple #[]) = .returned v ∧ RE (.tup []) [⟨.mx [.bp true 0, .os 1 0 m], 46, 0⟩, ⟨.tr (eL l), 5, 1⟩] r bl ∧ Rel w' U' M' r v ∧ Mem s M' (bl.map some) U' w' := by
      rintro w' hb ⟨cur', g1, g2, g3, g4⟩
      obtain ⟨S', _⟩ := S.turn (b := 0) (L := L) (ob' := ⟨.mx [.bp true 0, .os 1 0 m], 46, 0⟩) hM hb (by simp) ⟨hk, by simpa [Ob.cells, Cs.list, hoff] using hle, cur', g1, g2, fun j c hj => by
        match j, hj with
        | 0, hj =>
          have hj : some (AV.bp true 0) = some c := hj
          cases hj
          exact ⟨_, by simpa [hoff] using g3, rfl, .bpt 0 L hM h2⟩
        | 1, hj =>
          have hj : some (AV.os 1 0 m) = some c := hj
          cases hj
          exact ⟨_, by simpa [hoff] using g4, h11, hR1⟩
        | j + 2, hj => simp [Ob.cells, Cs.list] at hj⟩
      exact ⟨_, _, _, s.L, U, rfl, ⟨rfl, rfl⟩, .tup [] [] rfl (fun j c y h => by simp at h), S'⟩
    have hcell : ∀ j, s.w.cell? ⟨L.blk, j, none⟩ = cur[j]? := fun j => cell_of_row s.w _ _ cur _ _ hcur
    show Calls Tryz.prog _ #[.pointer (some ⟨L.blk, 0 + 0, none⟩)] _ _
    cases hR0 with
    | bpd _ _ _ _ hM' => rw [hM] at hM'; cases hM'
    | bpt _ L' hM' _ =>
      rw [hM] at hM'; cases hM'
      refine (Any.Builder_copyCheck_used { Tryz.lays156 with } Tryz.bx156.toX72 L.blk s.w (by rw [hcell, hy0])).mono ?_
      rintro e w' ⟨rfl, rfl⟩
      exact fin s.w (BelowX.refl _ _) ⟨cur, hcur, hsz, hy0, hy1⟩
    | bpn _ L' hM' _ =>
      refine (Any.Builder_copyCheck_fresh { Tryz.lays156 with } Tryz.bx156.toX72 L.blk s.w (by rw [hcell, hy0]) (by simp [World.shape?, hcur, hc2]; rfl) (by simp [World.frozen?, hcur])).mono ?_
      rintro e w' ⟨rfl, rfl⟩
      refine fin _ ⟨rfl, rfl, rfl, by simp [World.setCell], fun k hk hkx => ?_⟩ ⟨cur.setIfInBounds 0 (.pointer (some ⟨L.blk, 0, none⟩)), ?_, by simp [hsz], by simp [hc2], by simp [hy1]⟩
      · show (s.w.heap.modify L.blk _)[k]? = _
        rw [Array.getElem?_modify, if_neg (fun e => hkx (by simp [e]))]
      · show (s.w.heap.modify L.blk _)[L.blk]? = _
        rw [Array.getElem?_modify, if_pos rfl, hcur]; rfl
end V
end Go.Proofs.YtemmcidmcojjjaaGreatDoor
namespace Go.Proofs.YtemmcidmcojjjaaGreatDoor
namespace V
open Enc (enc)
set_option maxRecDepth 100000
open Go.RowKit
section
variable {n : Nat} {s : Bs} {Q : APost} {σ : Fr} {O : Obs} {ops : Array Oper} {rest : List Oper} {d : Nat} {ty : TypeId} {pos : String} {after : Array Edge}
abbrev bOb (b b2 n2 : Nat) (f : Bool) : Ob := ⟨.mx [.bp f b, .os b2 0 n2], 46, 0⟩
abbrev bBuf (l : List UInt8) : Ob := ⟨.tr (eL l), 5, 1⟩
abbrev bO1 (O : Obs) (b b2 n2 : Nat) (l : List UInt8) : Obs := ((O ++ []).set b (some (bOb b b2 n2 true))).set b2 (some (bBuf l))
theorem bO1_len (O : Obs) (b b2 n2 : Nat) (l : List UInt8) : (bO1 O b b2 n2 l).length = O.length := by simp [bO1]
theorem b_ne {b b2 n2 : Nat} {f : Bool} {l : List UInt8} (hO : O[b]? = some (some (bOb b b2 n2 f))) (hO2 : O[b2]? = some (some (bBuf l))) : b ≠ b2 := fun e => by
  subst e
  rw [hO] at hO2
  simp [bOb, bBuf] at hO2
theorem bO1_b {b b2 n2 : Nat} {f : Bool} {l : List UInt8} (hO : O[b]? = some (some (bOb b b2 n2 f))) (hne : b ≠ b2) : (bO1 O b b2 n2 l)[b]? = some (some (bOb b b2 n2 true)) := by
  have hlt := (List.getElem?_eq_some_iff.1 hO).1
  unfold bO1
  rw [List.getElem?_set_ne hne.symm, List.getElem?_set_self (by simpa using hlt)]
theorem bO1_b2 {b b2 n2 : Nat} {l : List UInt8} (hO2 : O[b2]? = some (some (bBuf l))) : (bO1 O b b2 n2 l)[b2]? = some (some (bBuf l)) := by
  have hlt := (List.getElem?_eq_some_iff.1 hO2).1
  unfold bO1
  rw [List.getElem?_set_self (by simpa using hlt)]
theorem GL.check {G : Gh} {x : Operand} {b b2 n2 : Nat} {f : Bool} {l : List UInt8} {ats : Array TypeId} (hd : Nat.blt d n = true) (hx : evA σ x = .op b 0) (hO : O[b]? = some (some (bOb b b2 n2 f))) (hO2 : O[b2]? = some (some (bBuf l)))
    (k : GL Tryz.prog n s G ops rest Q (updA σ d (.tup [])) (bO1 O b b2 n2 l)) :
    GL Tryz.prog n s G ops (⟨some d, .call { callee := .value (.func 23), args := #[x], argTypes := ats }, ty, pos, after, none⟩ :: rest) Q σ O := by
  have hne := b_ne hO hO2
  exact GL.call (xs := [x]) [b, b2] (w_copyCheck f n2 l) hd Tryz.call23 (by simp [hx] : [x].map (evA σ) = [.op b 0]) ⟨.op rfl, trivial⟩ (by simp [nodupB, hne]) ⟨⟨_, hO, rfl, rfl, .mx ⟨.bp rfl, .os rfl, trivial⟩⟩, ⟨_, hO2, rfl, rfl, .tr _⟩, trivial⟩ k
abbrev bO3 (O : Obs) (b b2 n2 : Nat) (l r : List UInt8) : Obs := ((bO1 O b b2 n2 l).set b2 none ++ [some (bBuf r)]).set b (some (bOb b O.length r.length true))
abbrev bO4 (O : Obs) (b b2 n2 : Nat) (l r : List UInt8) (c : UInt8) : Obs := (((bO1 O b b2 n2 l) ++ [some (bBuf [c])]).set b2 none ++ [some (bBuf r)]).set b (some (bOb b (O.length + 1) r.length true))
theorem PL.bws {m0 : Nat} (hm : s.L.length = m0) {x y : Operand} {b b2 n2 : Nat} {f : Bool} {l r : List UInt8} {str : ByteArray} {ats : Array TypeId} (hd : Nat.blt d n = true) (hx : evA σ x = .op b 0) (hy : evA σ y = sA str) (hO : O[b]? = some (some (bOb b b2 n2 f))) (hO2 : O[b2]? = some (some (bBuf l)))
    (hb : Nat.ble m0 b2 = true) (hn : n2 = l.length) (h : appM 1 l (bytesL str) = some r)
    (k : PL Tryz.prog n s ops rest Q (updA σ d (.tup [iA (str.size : Int), .t (.v .nilIface)])) (bO3 O b b2 n2 l r)) :
    PL Tryz.prog n s ops (⟨some d, .call { callee := .value (.func 18), args := #[x, y], argTypes := ats }, ty, pos, after, none⟩ :: rest) Q σ O := by
  have hne := b_ne hO hO2
  have h1 := bO1_b (l := l) hO hne
  have h2 := bO1_b2 (b := b) (n2 := n2) hO2
  have hl := bO1_len O b b2 n2 l
  have hlt := (List.getElem?_eq_some_iff.1 hO).1
  refine PL.inl (xs := [x, y]) (args := [.op b 0, sA str]) (K := fun r' O' => r' = .tup [iA (str.size : Int), .t (.v .nilIface)] ∧ O' = bO3 O b b2 n2 l r) Tryz.func18 rfl rfl hd Tryz.call18 (by simp [hx, hy]) (fun G => ?_) (fun r' O' hK => by obtain ⟨rfl, rfl⟩ := hK; exact k)
  refine GC.seq ?_
  refine GC.region ?_
  refine GL.op rfl (Rd.asnT rfl) ?_
  refine GL.op rfl (Rd.asnT rfl) ?_
  refine GL.nil ?_
  refine thA_n ?_
  refine GC.seq ?_
  refine GC.region ?_
  refine GL.op rfl (Rd.moveP rfl) ?_
  refine GL.check rfl rfl hO hO2 ?_
  refine GL.nil ?_
  refine thA_n ?_
  refine GC.seq ?_
  refine GC.region ?_
  refine GL.op rfl (Rd.moveP rfl) ?_
  refine GL.op rfl (Rd.moveP rfl) ?_
  refine GL.op rfl (Rd.nilCheckO rfl h1) ?_
  refine GL.op rfl (Rd.fieldO rfl h1) ?_
  refine GL.op rfl (Rd.loadO rfl h1 rfl) ?_
  refine GL.op rfl (Rd.moveT rfl) ?_
  refine GL.eff rfl (Eff.apS hm rfl h2 rfl (by kernel_rfl) hb hn h) ?_
  have h3 : ((bO1 O b b2 n2 l).set b2 none ++ [some (bBuf r)])[b]? = some (some (bOb b b2 n2 true)) := by
    rw [List.getElem?_append_left (by rw [List.length_set, hl]; exact hlt), List.getElem?_set_ne hne.symm]; exact h1
  refine GL.op rfl (Rd.nilCheckO rfl h3) ?_
  refine GL.op rfl (Rd.fieldO rfl h3) ?_
  refine GL.store (ob' := bOb b O.length r.length true) rfl rfl rfl rfl rfl h3 (Nat.le_refl 2) (by rw [hl]; rfl) rfl rfl ?_
  refine GL.nil ?_
  refine thA_n ?_
  refine GC.seq ?_
  refine GC.region ?_
  refine GL.op rfl (Rd.moveT rfl) ?_
  refine GL.op rfl (Rd.lenSt rfl) ?_
  refine GL.op rfl (Rd.asnT rfl) ?_
  refine GL.op rfl (Rd.asnT rfl) ?_
  refine GL.nil ?_
  refine thA_n ?_
  refine GC.ret ?_
  exact ⟨.inl rfl, [_, _], (show RVA _ _ _ [.tmp 4, .tmp 5] _ from .tmp (.tmp .nil)), rfl, rfl⟩
theorem PL.bwb {m0 : Nat} (hm : s.L.length = m0) {x y : Operand} {b b2 n2 : Nat} {f : Bool} {l r : List UInt8} {c : UInt8} {ats : Array TypeId} (hd : Nat.blt d n = true) (hx : evA σ x = .op b 0) (hy : evA σ y = .t (.v (.int .u8 c.toNat))) (hO : O[b]? = some (some (bOb b b2 n2 f))) (hO2 : O[b2]? = some (some (bBuf l)))
    (hb : Nat.ble m0 b2 = true) (hn : n2 = l.length) (h : appM 1 l [c] = some r)
    (k : PL Tryz.prog n s ops rest Q (updA σ d (.t (.v .nilIface))) (bO4 O b b2 n2 l r c)) :
    PL Tryz.prog n s ops (⟨some d, .call { callee := .value (.func 20), args := #[x, y], argTypes := ats }, ty, pos, after, none⟩ :: rest) Q σ O := by
  have hne := b_ne hO hO2
  have h1 := bO1_b (l := l) hO hne
  have h2 := bO1_b2 (b := b) (n2 := n2) hO2
  have hl := bO1_len O b b2 n2 l
  have hlt := (List.getElem?_eq_some_iff.1 hO).1
  have hlt2 := (List.getElem?_eq_some_iff.1 hO2).1
  obtain ⟨hr, hb1, hb2⟩ := appM_spec h
  refine PL.inl (xs := [x, y]) (args := [.op b 0, .t (.v (.int .u8 c.toNat))]) (K := fun r' O' => r' = .t (.v .nilIface) ∧ O' = bO4 O b b2 n2 l r c) Tryz.func20 rfl rfl hd Tryz.call20 (by simp [hx, hy]) (fun G => ?_) (fun r' O' hK => by obtain ⟨rfl, rfl⟩ := hK; exact k)
  refine GC.seq ?_
  refine GC.region ?_
  refine GL.op rfl (Rd.asnT rfl) ?_
  refine GL.nil ?_
  refine thA_n ?_
  refine GC.seq ?_
  refine GC.region ?_
  refine GL.op rfl (Rd.moveP rfl) ?_
  refine GL.check rfl rfl hO hO2 ?_
  refine GL.nil ?_
  refine thA_n ?_
  refine GC.seq ?_
  refine GC.region ?_
  refine GL.op rfl (Rd.moveP rfl) ?_
  refine GL.op rfl (Rd.moveP rfl) ?_
  refine GL.op rfl (Rd.nilCheckO rfl h1) ?_
  refine GL.op rfl (Rd.fieldO rfl h1) ?_
  refine GL.op rfl (Rd.loadO rfl h1 rfl) ?_
  refine GL.op rfl (Rd.moveT rfl) ?_
  refine GL.eff rfl (Ef.litM (α := UInt8) (q := 1) (len := 1) [c] [.t (.v (.int .u8 c.toNat))] rfl rfl (by decide) rfl rfl rfl rfl).toEff ?_
  have h4 : ((bO1 O b b2 n2 l) ++ [some (bBuf [c])])[b2]? = some (some (bBuf l)) := by
    rw [List.getElem?_append_left (by rw [hl]; exact hlt2)]; exact h2
  have h5 : (((bO1 O b b2 n2 l) ++ [some (bBuf [c])]).set b2 none)[(bO1 O b b2 n2 l).length]? = some (some (bBuf [c])) := by
    rw [List.getElem?_set_ne (by rw [hl]; omega), List.getElem?_append_right (Nat.le_refl _)]; simp
  subst hn
  refine GL.eff rfl (Eff.app (m := 1) (k := 1) (bytes := 1) (ya := .os (bO1 O b b2 l.length l).length 0 1) hm rfl h4 rfl (SrcA.ownE (m := 1) (ys := [c]) h5 rfl rfl) hb (eL_all l) (eL_len l) (by simpa using hb1) (by simpa using hb2) (eL_app l [c]).symm) ?_
  rw [← hr]
  have h3 : (((bO1 O b b2 l.length l) ++ [some (bBuf [c])]).set b2 none ++ [some (bBuf r)])[b]? = some (some (bOb b b2 l.length true)) := by
    rw [List.getElem?_append_left (by rw [List.length_set, List.length_append, hl]; omega), List.getElem?_set_ne hne.symm, List.getElem?_append_left (by rw [hl]; exact hlt)]; exact h1
  have hrl : r.length = l.length + 1 := by rw [hr]; simp
  refine GL.op rfl (Rd.nilCheckO rfl h3) ?_
  refine GL.op rfl (Rd.fieldO rfl h3) ?_
  refine GL.store (ob' := bOb b (O.length + 1) r.length true) rfl rfl rfl rfl rfl h3 (Nat.le_refl 2) (by rw [List.length_append, hl, hrl]; rfl) rfl rfl ?_
  refine GL.nil ?_
  refine thA_n ?_
  refine GC.seq ?_
  refine GC.region ?_
  refine GL.op rfl (Rd.asnT rfl) ?_
  refine GL.nil ?_
  refine thA_n ?_
  refine GC.ret ?_
  exact ⟨.inl rfl, [_], (show RVA _ _ _ [.tmp 4] _ from .tmp .nil), rfl, rfl⟩
end
end V
end Go.Proofs.YtemmcidmcojjjaaGreatDoor
namespace Go.Proofs.YtemmcidmcojjjaaGreatDoor
namespace V
open Enc (enc)
set_option maxRecDepth 100000
open Go.RowKit Go.Shelf
theorem bx_drew (X : List Nat) (w : World) : BelowX X w w.drew := ⟨rfl, rfl, rfl, Nat.le_refl _, fun _ _ _ => rfl⟩
theorem bx_alloc (X : List Nat) (w : World) (o : Obj) : BelowX X w (w.drew.alloc o) := ⟨rfl, rfl, rfl, by show w.heap.size ≤ (w.heap.push o).size; rw [Array.size_push]; omega, fun k hk _ => Lib.alloc_old w.drew o k hk⟩
theorem bx_freeze (w : World) (g m : Nat) : BelowX [g] w (w.drew.freeze ⟨g, 0, none⟩ m) := by
  unfold World.freeze
  split
  · exact bx_drew _ _
  · refine ⟨rfl, rfl, rfl, by show w.heap.size ≤ (w.heap.modify g _).size; rw [Array.size_modify]; exact Nat.le_refl _, fun k hk hx => ?_⟩
    show (w.heap.modify g _)[k]? = _
    rw [Array.getElem?_modify, if_neg (fun e => hx (by simp [e]))]
section
variable {P : Program} {ρ : Ren}
set_option maxHeartbeats 2000000 in
theorem bstr_some (L : Lays.n169 P ρ) (X : Builder.Extra P ρ) (b g cap : Nat) (cur : Array Value) (l : List UInt8) (w : World) (hbc : w.cell? ⟨b, 1, none⟩ = some (.slice (some ⟨g, 0, none⟩) l.length cap)) (h0 : l ≠ []) (hnc : l.length ≤ cap) (hcm : cap ≤ maxLen)
    (hg : w.heap[g]? = some (.cells cur (ρ.t 5) (0, 0))) (hcs : l.length ≤ cur.size) (hcell : ∀ (j : Nat) x, l[j]? = some x → w.cell? ⟨g, 0 + j, none⟩ = some (.int .u8 x.toNat)) :
    Calls P (ρ.f 169) #[.pointer (some ⟨b, 0, none⟩)] w fun e w' => e = .returned (.string ⟨l.toArray⟩) ∧ BelowX [g] w w' := by
  have hl0 : l.length ≠ 0 := by simpa using h0
  have c1 : w.drew.cell? ⟨b, 1, none⟩ = some (.slice (some ⟨g, 0, none⟩) l.length cap) := hbc
  have hSD : (Builtin.unsafeSliceData_ #[(ρ.t 37)] (ρ.t 127) #[.slice (some ⟨g, 0, none⟩) l.length cap]).run P w.drew = .ok (.pointer (some ⟨g, 0, none⟩)) w.drew :=
    Lib.run_unsafeSliceData_row _ _ _ _ _ _ (by omega)
  have hUS : (Builtin.unsafeString_ #[(ρ.t 127), (ρ.t 3)] (ρ.t 9) #[.pointer (some ⟨g, 0, none⟩), .int .i64 l.length]).run P w.drew = .ok (.string ⟨l.toArray⟩) (w.drew.freeze ⟨g, 0, none⟩ l.length) := by
    refine Lib.run_unsafeString_row w.drew (ρ.t 127) (ρ.t 3) (ρ.t 9) (ρ.t 5) L.t127 X.cellsByte g cur.size (by have hg' : w.drew.heap[g]? = some (.cells cur (ρ.t 5) (0, 0)) := hg; simp [World.shape?, hg']) l h0 hcs (by unfold maxLen at hcm; omega) ?_
    intro j x hx
    have := hcell j x hx
    rw [Rd.addr_add]
    exact this
  have mixed := L.mixed
  have t72 := L.t72; have a72 := L.a72; have z72 := L.z72; have v72 := L.v72; have u72 := run_underlying L.t72
  have t70 := L.t70; have a70 := L.a70; have z70 := L.z70; have v70 := L.v70; have u70 := run_underlying L.t70
  have t37 := L.t37; have a37 := L.a37; have z37 := L.z37; have v37 := L.v37; have u37 := run_underlying L.t37
  have t127 := L.t127; have a127 := L.a127; have z127 := L.z127; have v127 := L.v127; have u127 := run_underlying L.t127
  have t3 := L.t3; have a3 := L.a3; have z3 := L.z3; have v3 := L.v3; have u3 := run_underlying L.t3
  have t9 := L.t9; have a9 := L.a9; have z9 := L.z9; have v9 := L.v9; have u9 := run_underlying L.t9
  have t5 := X.t5; have a5 := X.a5; have z5 := X.z5; have v5 := X.v5; have u5 := run_underlying X.t5
  go_enter L.f169, Body.n169_ntmps ρ
  go_wp2
  go_region_o
  all_goals (go_wp2; go_ret; exact ⟨rfl, bx_freeze _ _ _⟩)
set_option maxHeartbeats 2000000 in
theorem bstr_nil (L : Lays.n169 P ρ) (X : Builder.Extra P ρ) (b : Nat) (w : World) (hbc : w.cell? ⟨b, 1, none⟩ = some (.slice none 0 0)) :
    Calls P (ρ.f 169) #[.pointer (some ⟨b, 0, none⟩)] w fun e w' => e = .returned (.string ⟨#[]⟩) ∧ BelowX [] w w' := by
  have hUS := Any.unsafeString_none L X
  have c1 : w.drew.cell? ⟨b, 1, none⟩ = some (.slice none 0 0) := hbc
  have hSD : (Builtin.unsafeSliceData_ #[(ρ.t 37)] (ρ.t 127) #[.slice none 0 0]).run P w.drew = .ok (.pointer none) w.drew := rfl
  have mixed := L.mixed
  have t72 := L.t72; have a72 := L.a72; have z72 := L.z72; have v72 := L.v72; have u72 := run_underlying L.t72
  have t70 := L.t70; have a70 := L.a70; have z70 := L.z70; have v70 := L.v70; have u70 := run_underlying L.t70
  have t37 := L.t37; have a37 := L.a37; have z37 := L.z37; have v37 := L.v37; have u37 := run_underlying L.t37
  have t127 := L.t127; have a127 := L.a127; have z127 := L.z127; have v127 := L.v127; have u127 := run_underlying L.t127
  have t3 := L.t3; have a3 := L.a3; have z3 := L.z3; have v3 := L.v3; have u3 := run_underlying L.t3
  have t9 := L.t9; have a9 := L.a9; have z9 := L.z9; have v9 := L.v9; have u9 := run_underlying L.t9
  have t5 := X.t5; have a5 := X.a5; have z5 := X.z5; have v5 := X.v5; have u5 := run_underlying X.t5
  go_enter L.f169, Body.n169_ntmps ρ
  go_wp2
  go_region_o
  all_goals (go_wp2; go_ret; exact ⟨rfl, bx_drew _ _⟩)
set_option maxHeartbeats 2000000 in
theorem bstr_room (L : Lays.n169 P ρ) (X : Builder.Extra P ρ) (b cap : Nat) (a : Addr) (w : World) (hc0 : cap ≠ 0) (hbc : w.cell? ⟨b, 1, none⟩ = some (.slice (some a) 0 cap)) :
    Calls P (ρ.f 169) #[.pointer (some ⟨b, 0, none⟩)] w fun e w' => e = .returned (.string ⟨#[]⟩) ∧ BelowX [] w w' := by
  have hUS := Any.unsafeString_none L X
  have c1 : w.drew.cell? ⟨b, 1, none⟩ = some (.slice (some a) 0 cap) := hbc
  have hSD : (Builtin.unsafeSliceData_ #[(ρ.t 37)] (ρ.t 127) #[.slice (some a) 0 cap]).run P w.drew = .ok (.pointer (some a)) w.drew := Lib.run_unsafeSliceData_row _ _ _ _ _ _ hc0
  clear hc0
  have mixed := L.mixed
  have t72 := L.t72; have a72 := L.a72; have z72 := L.z72; have v72 := L.v72; have u72 := run_underlying L.t72
  have t70 := L.t70; have a70 := L.a70; have z70 := L.z70; have v70 := L.v70; have u70 := run_underlying L.t70
  have t37 := L.t37; have a37 := L.a37; have z37 := L.z37; have v37 := L.v37; have u37 := run_underlying L.t37
  have t127 := L.t127; have a127 := L.a127; have z127 := L.z127; have v127 := L.v127; have u127 := run_underlying L.t127
  have t3 := L.t3; have a3 := L.a3; have z3 := L.z3; have v3 := L.v3; have u3 := run_underlying L.t3
  have t9 := L.t9; have a9 := L.a9; have z9 := L.z9; have v9 := L.v9; have u9 := run_underlying L.t9
  have t5 := X.t5; have a5 := X.a5; have z5 := X.z5; have v5 := X.v5; have u5 := run_underlying X.t5
  go_enter L.f169, Body.n169_ntmps ρ
  go_wp2
  go_region_o
  all_goals (go_wp2; go_ret; exact ⟨rfl, bx_drew _ _⟩)
set_option maxHeartbeats 2000000 in
theorem bstr_noroom (L : Lays.n169 P ρ) (X : Builder.Extra P ρ) (b : Nat) (a : Addr) (sh : TypeId × Nat) (w : World) (hlt : b < w.heap.size) (hbc : w.cell? ⟨b, 1, none⟩ = some (.slice (some a) 0 0)) (hsh : w.shape? a.block = some sh) :
    Calls P (ρ.f 169) #[.pointer (some ⟨b, 0, none⟩)] w fun e w' => e = .returned (.string ⟨#[]⟩) ∧ BelowX [] w w' := by
  have hUS := Any.unsafeString_none L X
  have c1 : w.drew.cell? ⟨b, 1, none⟩ = some (.slice (some a) 0 0) := hbc
  have hSD : (Builtin.unsafeSliceData_ #[(ρ.t 37)] (ρ.t 127) #[.slice (some a) 0 0]).run P w.drew = .ok (.pointer (some ⟨w.drew.heap.size, 0, none⟩)) (w.drew.alloc (.view a (ρ.t 5))) :=
    Lib.run_unsafeSliceData_zero w.drew _ _ (ρ.t 5) L.t127 a 0 sh hsh
  have c2 : (w.drew.alloc (.view a (ρ.t 5))).cell? ⟨b, 1, none⟩ = some (.slice (some a) 0 0) := by
    have e : (w.drew.alloc (.view a (ρ.t 5))).cell? ⟨b, 1, none⟩ = w.drew.cell? ⟨b, 1, none⟩ := cell_eq (Lib.alloc_old w.drew _ b hlt)
    rw [e]; exact c1
  have c3 : (w.alloc (.view a (ρ.t 5))).drew.cell? ⟨b, 1, none⟩ = some (.slice (some a) 0 0) := c2
  have c0 : w.cell? ⟨b, 1, none⟩ = some (.slice (some a) 0 0) := c1
  have mixed := L.mixed
  have t72 := L.t72; have a72 := L.a72; have z72 := L.z72; have v72 := L.v72; have u72 := run_underlying L.t72
  have t70 := L.t70; have a70 := L.a70; have z70 := L.z70; have v70 := L.v70; have u70 := run_underlying L.t70
  have t37 := L.t37; have a37 := L.a37; have z37 := L.z37; have v37 := L.v37; have u37 := run_underlying L.t37
  have t127 := L.t127; have a127 := L.a127; have z127 := L.z127; have v127 := L.v127; have u127 := run_underlying L.t127
  have t3 := L.t3; have a3 := L.a3; have z3 := L.z3; have v3 := L.v3; have u3 := run_underlying L.t3
  have t9 := L.t9; have a9 := L.a9; have z9 := L.z9; have v9 := L.v9; have u9 := run_underlying L.t9
  have t5 := X.t5; have a5 := X.a5; have z5 := X.z5; have v5 := X.v5; have u5 := run_underlying X.t5
  go_enter L.f169, Body.n169_ntmps ρ
  go_wp2
  go_region_o
  all_goals (go_wp2; go_ret; exact ⟨rfl, bx_alloc _ _ _⟩)
end
section
variable {n : Nat} {s : Bs} {Q : APost} {σ : Fr} {O : Obs} {ops : Array Oper} {rest : List Oper} {d : Nat} {ty : TypeId} {pos : String} {after : Array Edge}
theorem PL.bst {m0 : Nat} (hm : s.L.length = m0) {x : Operand} {b b2 n2 : Nat} {f : Bool} {l : List UInt8} {ats : Array TypeId} (hd : Nat.blt d n = true) (hx : evA σ x = .op b 0) (hO : O[b]? = some (some (bOb b b2 n2 f))) (hO2 : O[b2]? = some (some (bBuf l)))
    (hb : Nat.ble m0 b2 = true) (hn : n2 = l.length)
    (k : PL Tryz.prog n s ops rest Q (updA σ d (sA (b2s l))) (O.set b2 none ++ [some (bBuf [])])) :
    PL Tryz.prog n s ops (⟨some d, .call { callee := .value (.func 21), args := #[x], argTypes := ats }, ty, pos, after, none⟩ :: rest) Q σ O := by
  refine ⟨fun M U σc w S hσ => ?_⟩
  have hb' : s.L.length ≤ b2 := by rw [hm]; exact Nat.le_of_ble_eq_true hb
  have e := evA_rel hσ x; rw [hx] at e
  generalize hxv : ev σc x = u at e
  cases e with
  | opd _ _ _ _ hM => exact (S.own _ _ _ hO hM).elim
  | op _ _ L hM =>
    obtain ⟨hk, hle, cur, hcur, hsz, hr⟩ := S.own b _ _ hO hM
    obtain ⟨y1, hy1, _, hR1⟩ := hr 1 (.os b2 0 n2) rfl
    have hc1 : w.cell? ⟨L.blk, 1, none⟩ = some y1 := by rw [cell_of_row w _ _ cur _ _ hcur]; exact hy1
    have hlt := S.lt _ (.ad hM)
    have hbl : (bBuf l).cells.length = l.length := by simp only [bBuf, Ob.cells, Cs.list, List.length_map, eL_len]; exact Nat.mul_one _
    have main : Calls Tryz.prog 21 #[.pointer (some ⟨L.blk, 0, none⟩)] w fun e w' => e = .returned (.string (b2s l)) ∧ BelowX (vBlk y1) w w' := by
      have nilc : n2 = 0 → l = [] := fun h => List.eq_nil_of_length_eq_zero (by omega)
      have fin : ∀ {X : List Nat}, l = [] → (∀ w', BelowX [] w w' → BelowX X w w') → Calls Tryz.prog 21 #[.pointer (some ⟨L.blk, 0, none⟩)] w (fun e w' => e = .returned (.string ⟨#[]⟩) ∧ BelowX [] w w') → Calls Tryz.prog 21 #[.pointer (some ⟨L.blk, 0, none⟩)] w fun e w' => e = .returned (.string (b2s l)) ∧ BelowX X w w' := by
        intro X hl hX h
        subst hl
        exact h.mono fun e w' ⟨h1, h2⟩ => ⟨h1, hX w' h2⟩
      have wide : ∀ (X : List Nat) w', BelowX [] w w' → BelowX X w w' := fun X w' h => ⟨h.os, h.tape, h.output, h.size, fun k hk _ => h.block k hk (by simp)⟩
      cases hR1 with
      | osd _ _ _ _ _ hM2 => exact (S.own _ _ _ hO2 hM2).elim
      | osn _ hM2 => exact fin (nilc rfl) (wide _) (bstr_nil (P := Tryz.prog) { Tryz.lays156 with } Tryz.bx156 L.blk w hc1)
      | osz _ _ o L2 hM2 =>
        obtain ⟨hk2, hle2, cur2, hcur2, hsz2, hr2⟩ := S.own b2 _ _ hO2 hM2
        exact fin (nilc rfl) (wide _) (bstr_noroom (P := Tryz.prog) { Tryz.lays156 with } Tryz.bx156 L.blk _ _ w hlt hc1 (by simp only [World.shape?, hcur2]; rfl))
      | os _ _ _ cap L2 hM2 hcap hnc hcm =>
        obtain ⟨hk2, hle2, cur2, hcur2, hsz2, hr2⟩ := S.own b2 _ _ hO2 hM2
        by_cases h0 : l = []
        · have hz : n2 = 0 := by rw [hn, h0]; rfl
          subst hz
          by_cases hc : cap = 0
          · subst hc
            exact fin h0 (wide _) (bstr_noroom (P := Tryz.prog) { Tryz.lays156 with } Tryz.bx156 L.blk _ _ w hlt hc1 (by simp only [World.shape?, hcur2]; rfl))
          · exact fin h0 (wide _) (bstr_room (P := Tryz.prog) { Tryz.lays156 with } Tryz.bx156 L.blk cap _ w hc hc1)
        · subst hn
          refine bstr_some (P := Tryz.prog) { Tryz.lays156 with } Tryz.bx156 L.blk L2.blk cap cur2 l w hc1 h0 hnc hcm hcur2 (by rw [hsz2, ← hbl]; simpa [Loc.off] using hle2) fun j x hx => ?_
          have hj : (bBuf l).cells[j]? = some (.t (.v (.int .u8 x.toNat))) := by
            have hjl := (List.getElem?_eq_some_iff.1 hx).1
            have hget := eL_get (xs := l) (i := j) (f := 0) hjl (by decide)
            have e1 : j * Enc.k UInt8 + 0 = j := Nat.mul_one j
            rw [e1] at hget
            simp only [bBuf, Ob.cells, Cs.list, List.getElem?_map, hget]
            rw [← (List.getElem?_eq_some_iff.1 hx).2]; rfl
          obtain ⟨z, hz, _, hzR⟩ := hr2 j _ hj
          rw [cell_of_row w _ _ cur2 _ _ hcur2, ← Rel.int hzR]
          exact hz
    have hR1' : Rel w U M (.os b2 0 n2) y1 := hR1
    obtain ⟨S1, hk1⟩ := S.kill hb'
    subst hn
    obtain ⟨olds, hg, _⟩ := S.grw hb' hO2 (eL_all l) (eL_len l) hR1'
    refine LW.call hd (f := 21) (run_fcall (xs := [x]) Tryz.call21 rfl) (by
      have e : [x].map (ev σc) = [.pointer (some ⟨L.blk, 0, none⟩)] := by simp [hxv]; rfl
      rw [e]; exact main) ?_
    rintro e w' ⟨rfl, hbx⟩
    obtain ⟨S2, hrel⟩ := S1.insY (p := .nl) (ob := bBuf []) hbx (fun B hB => by
      rcases hg.2 with ⟨hv, _⟩ | ⟨B2, o, cap, cur2, hv, _, _, _, g1, g2, g3, _⟩
      · rw [hv] at hB; simp [vBlk] at hB
      · rw [hv] at hB
        have hB : B = B2 := by simpa [vBlk] using hB
        subst hB; exact ⟨g1, g2, g3⟩) (fun B h => h.elim) (fun F e => by cases e) rfl
    exact ⟨_, rfl, k.h _ U _ w' S2 (Rels.upd (fun t => hrel _ _ (hk1 _ _ (hσ t))) d (.t _ _ (.v _ rfl)))⟩
end
end V
end Go.Proofs.YtemmcidmcojjjaaGreatDoor
namespace Go.Proofs.YtemmcidmcojjjaaGreatDoor
namespace V
open Enc (enc)
set_option maxHeartbeats 4000000
set_option maxRecDepth 100000
open Go.RowKit
attribute [local irreducible] thA inA FinA eL
def m_I_RunSession_k1 (N : Nat) (v21 : Bool) (v22 : (List UInt8)) : Option (ByteArray) :=
  some (b2s v22)
def m_I_RunSession_b1 (N : Nat) (xs1 : (List ByteArray)) (i3 : Int) (v4 : (List I_Column)) (v5 : (List I_Change)) (v6 : (List I_Tagged)) (v7 : Bool) (v8 : Bool) (v9 : (List UInt8)) : Option ((Int × (List I_Column) × (List I_Change) × (List I_Tagged) × Bool × Bool × (List UInt8)) ⊕ (Bool × (List UInt8))) :=
  cond (decide (i3 < (xs1.length : Int)))
    ((ixI xs1 i3).bind fun x29 =>
    (m_I_session_run N (I_session.mk (I_Table.mk v4 v5 v6) v7) x29).bind fun r31 =>
    (appM 1 v9 (bytesL r31.1)).bind fun xs33 =>
    (appM 1 xs33 [(10 : UInt8)]).bind fun xs35 =>
    (chk (i3 + (1 : Int))).bind fun n37 =>
    some (.inl (n37, r31.2.table.first, r31.2.table.changes, r31.2.table.rows, r31.2.has, true, xs35)))
    (some (.inr (v8, v9)))
def m_I_RunSession (N : Nat) (p_lines : (List ByteArray)) : Option (ByteArray) :=
  (V.subM p_lines (0 : Int) (min (p_lines.length : Int) (24 : Int))).bind fun xs1 =>
  (loopM (β := Bool × (List UInt8)) (fun s : Int × (List I_Column) × (List I_Change) × (List I_Tagged) × Bool × Bool × (List UInt8) => m_I_RunSession_b1 N xs1 s.1 s.2.1 s.2.2.1 s.2.2.2.1 s.2.2.2.2.1 s.2.2.2.2.2.1 s.2.2.2.2.2.2) N ((0 : Int), ([] : List I_Column), ([] : List I_Change), ([] : List I_Tagged), false, false, ([] : List UInt8))).bind fun e =>
  m_I_RunSession_k1 N e.1 e.2
theorem w_I_RunSession (N : Nat) (p_lines : (List ByteArray)) (r : ByteArray) (hh0 : m_I_RunSession N p_lines = some r) : FnX Tryz.prog 8 [] [sL p_lines] (RE (sA r) []) := by
  unfold m_I_RunSession at hh0; refine FnX.mk Tryz.func8 rfl rfl ?_; intro s hs; refine PC.seq ?_; refine PC.rg ?_; refine PL.aT rfl rfl ?_; refine PL.nn ?_; refine PC.seq ?_; refine PC.rg ?_; refine PL.ef rfl (Ef.alloc rfl rfl) ?_; refine PL.nm (.op 0 0) [some ⟨.mx [.t (.v (.slice none 0 0)), .t (.v (.slice none 0 0)), .t (.v (.slice none 0 0)), bA false], 43, 0⟩] rfl rfl ?_; refine PL.nn ?_; refine PC.seq ?_; refine PC.rg ?_; refine PL.ef rfl Ef.allocB ?_; refine PL.nm (.op 1 0) [some ⟨.mx [.t (.v (.slice none 0 0)), .t (.v (.slice none 0 0)), .t (.v (.slice none 0 0)), bA false], 43, 0⟩, some ⟨.mx [.bp false 1, .t (.v (.slice none 0 0))], 46, 0⟩] rfl rfl ?_; refine PL.nn ?_; (iterate 2 refine PC.seq ?_); obtain ⟨xs1, h_2, hh0⟩ := bind_some hh0; refine PC.rg ?_; (iterate 2 refine PL.mT rfl rfl ?_); refine PL.op rfl (Rd.lenT rfl) ?_; refine PL.op rfl (Rd.min2 rfl rfl) ?_; refine PL.op rfl (Rd.subTMH rfl rfl h_2) ?_; refine PL.op rfl (Rd.lenT rfl) ?_; refine PL.mT rfl rfl ?_; refine PL.nn ?_; obtain ⟨o23, h_24, hh0⟩ := bind_some hh0; refine PC.cutE hs (fun x : Bool × (List UInt8) => [(4, .op 0 0)]) (fun x => [⟨.mx [.bp x.1 0, .os 1 0 x.2.length], 46, 0⟩, ⟨.tr (eL x.2), 5, 1⟩]) (fun x => m_I_RunSession_k1 N x.1 x.2 = some r) ?_ ?_
  · refine PC.block ?_; refine PC.loop hs (fun x : Nat × (Int × (List I_Column) × (List I_Change) × (List I_Tagged) × Bool × Bool × (List UInt8)) => [(3, .op 0 0), (4, .op 1 0), (11, sL xs1), (12, iA (xs1.length : Int)), (13, iA x.2.1)]) (fun x => [⟨.mx [sL x.2.2.1, sL x.2.2.2.1, sL x.2.2.2.2.1, bA x.2.2.2.2.2.1], 43, 0⟩, ⟨.mx [.bp x.2.2.2.2.2.2.1 1, .os 2 0 x.2.2.2.2.2.2.2.length], 46, 0⟩, ⟨.tr (eL x.2.2.2.2.2.2.2), 5, 1⟩]) (fun x => loopM (β := Bool × (List UInt8)) (fun s : Int × (List I_Column) × (List I_Change) × (List I_Tagged) × Bool × Bool × (List UInt8) => m_I_RunSession_b1 N xs1 s.1 s.2.1 s.2.2.1 s.2.2.2.1 s.2.2.2.2.1 s.2.2.2.2.2.1 s.2.2.2.2.2.2) x.1 x.2 = some o23) (fun x => x.1) (N, ((0 : Int), ([] : List I_Column), ([] : List I_Change), ([] : List I_Tagged), false, false, ([] : List UInt8))) [some 0, some 1, none] ⟨rfl, rfl, ⟨⟨_, rfl, rfl, rfl, .mx ⟨Sb.nilE, Sb.nilE, Sb.nilE, .t _, trivial⟩⟩, ⟨_, rfl, rfl, rfl, .mx ⟨.bp rfl, .osn rfl, trivial⟩⟩, ow_nil _, trivial⟩, ⟨.op rfl, .op rfl, .t _, .t _, .t _, trivial⟩⟩ h_24 ?_
    rintro ⟨f25_, i3, v4, v5, v6, v7, v8, v9⟩ h_27
    obtain ⟨f25, y26, rfl, hh1, kk1⟩ := loopM_some h_27
    replace hh1 : m_I_RunSession_b1 N xs1 i3 v4 v5 v6 v7 v8 v9 = some y26 := hh1
    unfold m_I_RunSession_b1 at hh1; refine PC.seq ?_; refine PC.rg ?_; refine PL.op rfl (Rd.lss rfl rfl) ?_; refine PL.nn ?_; refine PC.seq ?_; rcases cond_some hh1 with ⟨h_28, hh1⟩ | ⟨h_28, hh1⟩; rotate_left
    · refine PC.cf rfl h_28 ?_; refine PC.exit ?_; (iterate 2 refine thA_e ?_); refine inA_eq rfl ?_; refine thA_n ?_; obtain rfl := some_in hh1; obtain rfl : ((v8, v9) : Bool × (List UInt8)) = o23 := kk1; exact ⟨(v8, v9), hh0, [some 1, some 2], ⟨rfl, rfl, ⟨⟨_, rfl, rfl, rfl, .mx ⟨.bp rfl, .os rfl, trivial⟩⟩, ⟨_, rfl, rfl, rfl, .tr _⟩, trivial⟩, ⟨.op rfl, trivial⟩⟩⟩
    refine PC.ct rfl h_28 ?_; refine PC.skip ?_; refine thA_n ?_; refine PC.seq ?_; refine PC.block ?_; refine PC.seq ?_; obtain ⟨x29, h_30, hh1⟩ := bind_some hh1; refine PC.rg ?_; refine PL.op rfl (Rd.ixM rfl rfl h_30) ?_; refine PL.op rfl (Rd.elM1 rfl h_30 rfl rfl) ?_; refine PL.aT rfl rfl ?_; refine PL.nn ?_; refine PC.seq ?_; obtain ⟨r31, h_32, hh1⟩ := bind_some hh1; obtain ⟨xs33, h_34, hh1⟩ := bind_some hh1; refine PC.rg ?_; refine PL.mT rfl rfl ?_; refine PL.callM false [0] (w_I_session_run N (I_session.mk (I_Table.mk v4 v5 v6) v7) x29 r31 h_32) rfl Tryz.call19 rfl ⟨.op rfl, .t _, trivial⟩ rfl ⟨⟨_, rfl, rfl, rfl, .mx ⟨.t _, .t _, .t _, .t _, trivial⟩⟩, trivial⟩ (fun h => by cases h) ?_; refine PL.nm (sA r31.1) [some ⟨.mx [sL r31.2.table.first, sL r31.2.table.changes, sL r31.2.table.rows, bA r31.2.has], 43, 0⟩, some ⟨.mx [.bp v8 1, .os 2 0 v9.length], 46, 0⟩, some ⟨.tr (eL v9), 5, 1⟩] rfl rfl ?_; refine PL.bws hs rfl rfl rfl rfl rfl rfl rfl h_34 ?_; refine PL.nm (.tup [iA (r31.1.size : Int), .t (.v .nilIface)]) [some ⟨.mx [sL r31.2.table.first, sL r31.2.table.changes, sL r31.2.table.rows, bA r31.2.has], 43, 0⟩, some ⟨.mx [.bp true 1, .os 3 0 xs33.length], 46, 0⟩, none, some ⟨.tr (eL xs33), 5, 1⟩] rfl rfl ?_; refine PL.nn ?_; obtain ⟨xs35, h_36, hh1⟩ := bind_some hh1; refine PC.rg ?_; refine PL.bwb hs rfl rfl rfl rfl rfl rfl rfl h_36 ?_; refine PL.nm (.t (.v .nilIface)) [some ⟨.mx [sL r31.2.table.first, sL r31.2.table.changes, sL r31.2.table.rows, bA r31.2.has], 43, 0⟩, some ⟨.mx [.bp true 1, .os 5 0 xs35.length], 46, 0⟩, none, none, some ⟨.tr (eL [(10 : UInt8)]), 5, 1⟩, some ⟨.tr (eL xs35), 5, 1⟩] rfl rfl ?_; refine PL.nil ?_; refine inA_n ?_; refine thA_n ?_; obtain ⟨n37, h_38, hh1⟩ := bind_some hh1; refine PC.rg ?_; refine PL.op rfl (Rd.addM rfl rfl h_38) ?_; refine PL.mT rfl rfl ?_; refine PL.nil ?_; obtain rfl := some_in hh1; refine thA_n ?_; exact ⟨(f25, (n37, r31.2.table.first, r31.2.table.changes, r31.2.table.rows, r31.2.has, true, xs35)), Nat.lt_succ_self _, kk1, [some 0, some 1, some 5], ⟨rfl, rfl, ⟨⟨_, rfl, rfl, rfl, .mx ⟨.t _, .t _, .t _, .t _, trivial⟩⟩, ⟨_, rfl, rfl, rfl, .mx ⟨.bp rfl, .os rfl, trivial⟩⟩, ⟨_, rfl, rfl, rfl, .tr _⟩, trivial⟩, ⟨.op rfl, .op rfl, .t _, .t _, .t _, trivial⟩⟩⟩
  clear hh0
  rintro ⟨v21, v22⟩ hh0
  replace hh0 : m_I_RunSession_k1 N v21 v22 = some r := hh0
  unfold m_I_RunSession_k1 at hh0; refine thA_n ?_; refine PC.seq ?_; refine PC.rg ?_; refine PL.bst hs rfl rfl rfl rfl rfl rfl ?_; refine PL.nm (sA (b2s v22)) [some ⟨.mx [.bp v21 0, .os 1 0 v22.length], 46, 0⟩, none, some ⟨.tr (eL ([] : List UInt8)), 5, 1⟩] rfl rfl ?_; refine PL.aT rfl rfl ?_; refine PL.nn ?_; refine PC.ret ?_; obtain rfl := some_in hh0; exact FinA.mk (r := sA (b2s v22)) (bl := []) [] (.inl rfl) rfl (rl := [.tmp 2]) (.tmp .nil) rfl rfl rfl (.t _) trivial ⟨rfl, rfl⟩
def m_S_RunSession_k1 (N : Nat) (i18 : ByteArray) : Option (ByteArray) :=
  some i18
def m_S_RunSession_b1 (N : Nat) (p_lines : (List ByteArray)) (i1 : ByteArray) (i2 : Int) (v3 : (List I_Column)) (v4 : (List I_Change)) (v5 : (List I_Tagged)) : Option ((ByteArray × Int × (List I_Column) × (List I_Change) × (List I_Tagged)) ⊕ ByteArray) :=
  cond (decide (i2 < (p_lines.length : Int)))
    (cond (decide (i2 < (24 : Int)))
      ((ixI p_lines i2).bind fun x26 =>
      (m_S_desk_line N (S_desk.mk (I_Table.mk v3 v4 v5)) x26).bind fun r28 =>
      (addS i1 r28.1).bind fun s30 =>
      (addS s30 (ByteArray.mk #[10])).bind fun s32 =>
      (chk (i2 + (1 : Int))).bind fun n34 =>
      some (.inl (s32, n34, r28.2.table.first, r28.2.table.changes, r28.2.table.rows)))
      (some (.inr i1)))
    (some (.inr i1))
def m_S_RunSession (N : Nat) (p_lines : (List ByteArray)) : Option (ByteArray) :=
  (loopM (β := ByteArray) (fun s : ByteArray × Int × (List I_Column) × (List I_Change) × (List I_Tagged) => m_S_RunSession_b1 N p_lines s.1 s.2.1 s.2.2.1 s.2.2.2.1 s.2.2.2.2) N (ByteArray.empty, (0 : Int), ([] : List I_Column), ([] : List I_Change), ([] : List I_Tagged))).bind fun e =>
  m_S_RunSession_k1 N e
theorem w_S_RunSession (N : Nat) (p_lines : (List ByteArray)) (r : ByteArray) (hh0 : m_S_RunSession N p_lines = some r) : FnX Tryz.prog 9 [] [sL p_lines] (RE (sA r) []) := by
  unfold m_S_RunSession at hh0; refine FnX.mk Tryz.func9 rfl rfl ?_; intro s hs; refine PC.seq ?_; refine PC.rg ?_; refine PL.aT rfl rfl ?_; refine PL.nn ?_; refine PC.seq ?_; refine PC.rg ?_; refine PL.op rfl (Rd.build rfl rfl rfl rfl) ?_; refine PL.ef rfl (Ef.box rfl rfl rfl) ?_; refine PL.nm (.op 0 0) [some ⟨.mx [.t (.v (.slice none 0 0)), .t (.v (.slice none 0 0)), .t (.v (.slice none 0 0))], 56, 0⟩] rfl rfl ?_; refine PL.op rfl (Rd.asnP rfl) ?_; refine PL.nn ?_; refine PC.seq ?_; refine PC.rg ?_; refine PL.aT rfl rfl ?_; refine PL.nn ?_; (iterate 2 refine PC.seq ?_); refine PC.rg ?_; refine PL.aT rfl rfl ?_; refine PL.nn ?_; obtain ⟨o19, h_20, hh0⟩ := bind_some hh0; refine PC.cutE hs (fun x : ByteArray => [(4, sA x)]) (fun x => []) (fun x => m_S_RunSession_k1 N x = some r) ?_ ?_
  · refine PC.block ?_; refine PC.loop hs (fun x : Nat × (ByteArray × Int × (List I_Column) × (List I_Change) × (List I_Tagged)) => [(0, sL p_lines), (3, .op 0 0), (4, sA x.2.1), (5, iA x.2.2.1)]) (fun x => [⟨.mx [sL x.2.2.2.1, sL x.2.2.2.2.1, sL x.2.2.2.2.2], 56, 0⟩]) (fun x => loopM (β := ByteArray) (fun s : ByteArray × Int × (List I_Column) × (List I_Change) × (List I_Tagged) => m_S_RunSession_b1 N p_lines s.1 s.2.1 s.2.2.1 s.2.2.2.1 s.2.2.2.2) x.1 x.2 = some o19) (fun x => x.1) (N, (ByteArray.empty, (0 : Int), ([] : List I_Column), ([] : List I_Change), ([] : List I_Tagged))) [some 0] ⟨rfl, rfl, ⟨⟨_, rfl, rfl, rfl, .mx ⟨Sb.nilE, Sb.nilE, Sb.nilE, trivial⟩⟩, trivial⟩, ⟨.t _, .op rfl, .t _, .t _, trivial⟩⟩ h_20 ?_
    rintro ⟨f21_, i1, i2, v3, v4, v5⟩ h_23
    obtain ⟨f21, y22, rfl, hh1, kk1⟩ := loopM_some h_23
    replace hh1 : m_S_RunSession_b1 N p_lines i1 i2 v3 v4 v5 = some y22 := hh1
    unfold m_S_RunSession_b1 at hh1; (iterate 2 refine PC.seq ?_); rcases cond_some hh1 with ⟨h_24, hh1⟩ | ⟨h_24, hh1⟩; rotate_left
    · refine PC.rg ?_; (iterate 2 refine PL.mT rfl rfl ?_); refine PL.op rfl (Rd.lenT rfl) ?_; refine PL.op rfl (Rd.lss rfl rfl) ?_; refine PL.mT rfl rfl ?_; (iterate 2 refine PL.gf rfl rfl h_24 ?_); refine PL.op rfl (Rd.pick_f rfl h_24) ?_; refine PL.nn ?_; refine PC.cf rfl rfl ?_; refine PC.exit ?_; (iterate 2 refine thA_e ?_); refine inA_eq rfl ?_; refine thA_n ?_; obtain rfl := some_in hh1; obtain rfl : (i1 : ByteArray) = o19 := kk1; exact ⟨i1, hh0, [], ⟨rfl, rfl, trivial, ⟨.t _, trivial⟩⟩⟩
    refine PC.rg ?_; (iterate 2 refine PL.mT rfl rfl ?_); refine PL.op rfl (Rd.lenT rfl) ?_; refine PL.op rfl (Rd.lss rfl rfl) ?_; refine PL.mT rfl rfl ?_; refine PL.gn rfl h_24 ?_; refine PL.mT rfl rfl ?_; refine PL.gn rfl h_24 ?_; refine PL.op rfl (Rd.lss rfl rfl) ?_; refine PL.op rfl (Rd.pick_t rfl h_24) ?_; refine PL.nn ?_; rcases cond_some hh1 with ⟨h_25, hh1⟩ | ⟨h_25, hh1⟩; rotate_left
    · refine PC.cf rfl h_25 ?_; refine PC.exit ?_; (iterate 2 refine thA_e ?_); refine inA_eq rfl ?_; refine thA_n ?_; obtain rfl := some_in hh1; obtain rfl : (i1 : ByteArray) = o19 := kk1; exact ⟨i1, hh0, [], ⟨rfl, rfl, trivial, ⟨.t _, trivial⟩⟩⟩
    refine PC.ct rfl h_25 ?_; refine PC.skip ?_; refine thA_n ?_; refine PC.seq ?_; refine PC.block ?_; obtain ⟨x26, h_27, hh1⟩ := bind_some hh1; obtain ⟨r28, h_29, hh1⟩ := bind_some hh1; obtain ⟨s30, h_31, hh1⟩ := bind_some hh1; obtain ⟨s32, h_33, hh1⟩ := bind_some hh1; refine PC.rg ?_; refine PL.mT rfl rfl ?_; refine PL.op rfl (Rd.moveP rfl) ?_; (iterate 2 refine PL.mT rfl rfl ?_); refine PL.op rfl (Rd.ixM rfl rfl h_27) ?_; refine PL.op rfl (Rd.elM1 rfl h_27 rfl rfl) ?_; refine PL.callM false [0] (w_S_desk_line N (S_desk.mk (I_Table.mk v3 v4 v5)) x26 r28 h_29) rfl Tryz.call22 rfl ⟨.op rfl, .t _, trivial⟩ rfl ⟨⟨_, rfl, rfl, rfl, .mx ⟨.t _, .t _, .t _, trivial⟩⟩, trivial⟩ (fun h => by cases h) ?_; refine PL.nm (sA r28.1) [some ⟨.mx [sL r28.2.table.first, sL r28.2.table.changes, sL r28.2.table.rows], 56, 0⟩] rfl rfl ?_; refine PL.op rfl (Rd.addSM rfl rfl h_31) ?_; refine PL.op rfl (Rd.addSM rfl rfl h_33) ?_; refine PL.aT rfl rfl ?_; refine PL.nil ?_; refine inA_n ?_; refine thA_n ?_; obtain ⟨n34, h_35, hh1⟩ := bind_some hh1; refine PC.rg ?_; refine PL.mT rfl rfl ?_; refine PL.op rfl (Rd.addM rfl rfl h_35) ?_; refine PL.aT rfl rfl ?_; refine PL.nil ?_; obtain rfl := some_in hh1; refine thA_n ?_; exact ⟨(f21, (s32, n34, r28.2.table.first, r28.2.table.changes, r28.2.table.rows)), Nat.lt_succ_self _, kk1, [some 0], ⟨rfl, rfl, ⟨⟨_, rfl, rfl, rfl, .mx ⟨.t _, .t _, .t _, trivial⟩⟩, trivial⟩, ⟨.t _, .op rfl, .t _, .t _, trivial⟩⟩⟩
  clear hh0
  rintro i18 hh0
  replace hh0 : m_S_RunSession_k1 N i18 = some r := hh0
  unfold m_S_RunSession_k1 at hh0; refine thA_n ?_; refine PC.seq ?_; refine PC.rg ?_; refine PL.mT rfl rfl ?_; refine PL.aT rfl rfl ?_; refine PL.nn ?_; refine PC.ret ?_; obtain rfl := some_in hh0; exact FinA.mk (r := sA i18) (bl := []) [] (.inl rfl) rfl (rl := [.tmp 2]) (.tmp .nil) rfl rfl rfl (.t _) trivial ⟨rfl, rfl⟩
end V
end Go.Proofs.YtemmcidmcojjjaaGreatDoor
namespace Go.Proofs.YtemmcidmcojjjaaGreatDoor
namespace V
open Enc (enc)
set_option maxHeartbeats 4000000
set_option maxRecDepth 100000
open Go.RowKit
attribute [local irreducible] thA inA FinA eL
def m_S_mutate (N : Nat) (p_r : S_reader) (p_s : ByteArray) : Option (ByteArray × S_reader) :=
  (chk ((p_s.size : Int) + (1 : Int))).bind fun n1 =>
  (m_S_reader_pick N p_r n1).bind fun r3 =>
  (m_S_reader_pick N r3.2 (5 : Int)).bind fun r5 =>
  cond (decide (r5.1 = (0 : Int)))
    (cond (decide (r3.1 < (p_s.size : Int)))
      ((subS p_s (0 : Int) r3.1).bind fun s9 =>
      (m_S_reader_of N r5.2 ([(ByteArray.mk #[48]), (ByteArray.mk #[49]), (ByteArray.mk #[32]), (ByteArray.mk #[45]), (ByteArray.mk #[97]), (ByteArray.mk #[98]), (ByteArray.mk #[99]), (ByteArray.mk #[1])])).bind fun r11 =>
      (addS s9 r11.1).bind fun s13 =>
      (chk (r3.1 + (1 : Int))).bind fun n15 =>
      (subS p_s n15 (p_s.size : Int)).bind fun s17 =>
      (addS s13 s17).bind fun s19 =>
      some (s19, r11.2))
      (some (p_s, r5.2)))
    (cond (decide (r5.1 = (1 : Int)))
      ((subS p_s (0 : Int) r3.1).bind fun s22 =>
      some (s22, r5.2))
      (cond (decide (r5.1 = (2 : Int)))
        ((m_S_reader_of N r5.2 ([(ByteArray.mk #[48]), (ByteArray.mk #[32]), (ByteArray.mk #[45]), (ByteArray.mk #[32, 116, 101, 120, 116]), (ByteArray.mk #[120]), (ByteArray.mk #[50])])).bind fun r25 =>
        (addS p_s r25.1).bind fun s27 =>
        some (s27, r25.2))
        (some (p_s, r5.2))))
def m_S_DrawRunSession_k1 (N : Nat) (v18 : (List UInt8)) (v19 : Int) (v20 : (List ByteArray)) : Option ((List ByteArray)) :=
  (m_S_reader_pick N (S_reader.mk v18 v19) (6 : Int)).bind fun r26 =>
  cond (decide (r26.1 = (0 : Int)))
    ((m_S_reader_pick N r26.2 (v20.length : Int)).bind fun r29 =>
    (ixI v20 r29.1).bind fun x31 =>
    (m_S_mutate N r29.2 x31).bind fun r33 =>
    some (v20.set r29.1.toNat r33.1))
    (some v20)
def m_S_DrawRunSession_b1 (N : Nat) (k7 : Int) (v8 : (List UInt8)) (v9 : Int) (v10 : (List ByteArray)) : Option ((Int × (List UInt8) × Int × (List ByteArray)) ⊕ ((List UInt8) × Int × (List ByteArray))) :=
  cond (decide ((0 : Int) < k7))
    ((m_S_reader_of N (S_reader.mk v8 v9) ([(ByteArray.mk #[105, 110, 115, 101, 114, 116, 32, 53, 32, 97, 98, 99]), (ByteArray.mk #[105, 110, 115, 101, 114, 116, 32, 55]), (ByteArray.mk #[105, 110, 115, 101, 114, 116, 32, 45, 32, 120]), (ByteArray.mk #[105, 110, 115, 101, 114, 116, 32, 120, 32, 53, 32, 54]), (ByteArray.mk #[105, 110, 115, 101, 114, 116, 32, 49, 32, 50, 32, 51]), (ByteArray.mk #[97, 100, 100, 32, 48, 32, 110, 117, 109, 32, 57]), (ByteArray.mk #[97, 100, 100, 32, 49, 32, 116, 101, 120, 116, 32, 104, 105]), (ByteArray.mk #[97, 100, 100, 32, 49, 32, 110, 117, 109, 32, 45]), (ByteArray.mk #[100, 114, 111, 112, 32, 48]), (ByteArray.mk #[100, 114, 111, 112, 32, 49]), (ByteArray.mk #[119, 105, 100, 101, 110, 32, 48]), (ByteArray.mk #[119, 105, 100, 101, 110, 32, 49]), (ByteArray.mk #[114, 101, 119, 114, 105, 116, 101, 32, 49]), (ByteArray.mk #[114, 101, 119, 114, 105, 116, 101, 32, 50]), (ByteArray.mk #[114, 111, 119, 115]), (ByteArray.mk #[111, 108, 100]), (ByteArray.mk #[114, 111, 119, 115]), (ByteArray.mk #[111, 108, 100]), ByteArray.empty, (ByteArray.mk #[104, 101, 108, 112]), (ByteArray.mk #[114, 101, 119, 114, 105, 116, 101, 32, 120]), (ByteArray.mk #[97, 100, 100, 32, 48, 32, 100, 97, 116, 101, 32, 49]), (ByteArray.mk #[116, 97, 98, 108, 101, 32, 110, 117, 109, 32, 110, 117, 109])])).bind fun r36 =>
    (appM 16 v10 [r36.1]).bind fun xs38 =>
    (chk (k7 - (1 : Int))).bind fun n40 =>
    some (.inl (n40, r36.2.b, r36.2.p, xs38)))
    (some (.inr (v8, v9, v10)))
def m_S_DrawRunSession (N : Nat) (p_code : (List UInt8)) : Option ((List ByteArray)) :=
  (m_S_newReader N p_code).bind fun r1 =>
  (m_S_reader_of N r1 ([(ByteArray.mk #[116, 97, 98, 108, 101, 32, 110, 117, 109, 32, 116, 101, 120, 116]), (ByteArray.mk #[116, 97, 98, 108, 101, 32, 110, 117, 109]), (ByteArray.mk #[116, 97, 98, 108, 101, 32, 116, 101, 120, 116, 32, 110, 117, 109, 32, 110, 117, 109]), (ByteArray.mk #[114, 111, 119, 115]), (ByteArray.mk #[116, 97, 98, 108, 101, 32, 100, 97, 116, 101])])).bind fun r3 =>
  (m_S_reader_one N r3.2 [(6 : Int), (10 : Int), (14 : Int), (3 : Int), (0 : Int)]).bind fun r5 =>
  (loopM (β := (List UInt8) × Int × (List ByteArray)) (fun s : Int × (List UInt8) × Int × (List ByteArray) => m_S_DrawRunSession_b1 N s.1 s.2.1 s.2.2.1 s.2.2.2) N (r5.1, r5.2.b, r5.2.p, [r3.1])).bind fun e =>
  m_S_DrawRunSession_k1 N e.1 e.2.1 e.2.2
end V
end Go.Proofs.YtemmcidmcojjjaaGreatDoor
namespace Go.Proofs.YtemmcidmcojjjaaGreatDoor
namespace V
open Enc (enc)
set_option maxHeartbeats 4000000
set_option maxRecDepth 100000
open Go.RowKit
attribute [local irreducible] thA inA FinA eL
def m_L_FnSessionPrefix_k1 (N : Nat) : Option (Bool) :=
  some true
def m_L_FnSessionPrefix_b1 (N : Nat) (r2 : ((List ByteArray))) (r4 : (ByteArray)) (part9 : Int) : Option (Int ⊕ (Unit ⊕ Bool)) :=
  cond (decide (part9 < (r2.length : Int)))
    ((V.subM r2 (0 : Int) part9).bind fun xs27 =>
    (m_I_RunSession N xs27).bind fun r29 =>
    cond (decide ((r4.size : Int) < (r29.size : Int)))
      (some (.inr (.inr false)))
      ((subS r4 (0 : Int) (r29.size : Int)).bind fun s32 =>
      cond (s32.toList == r29.toList)
        ((chk (part9 + (1 : Int))).bind fun n35 =>
        some (.inl n35))
        (some (.inr (.inr false)))))
    (some (.inr (.inl ())))
def m_L_FnSessionPrefix (N : Nat) (p_code : (List UInt8)) : Option (Bool) :=
  cond (decide ((1048576 : Int) < (p_code.length : Int)))
    (some true)
    ((m_S_DrawRunSession N p_code).bind fun r2 =>
    (m_I_RunSession N r2).bind fun r4 =>
    (m_S_RunSession N r2).bind fun r6 =>
    cond (r4.toList == r6.toList)
      ((loopM (β := Unit ⊕ Bool) (fun s : Int => m_L_FnSessionPrefix_b1 N r2 r4 s) N (0 : Int)).bind fun o => match o with
      | .inl e =>
        m_L_FnSessionPrefix_k1 N 
      | .inr v =>
        some v)
      (some false))
def m_L_szStringS_k1 (N : Nat) (left14 : Int) : Option (Int) :=
  some left14
def m_L_szStringS_b1 (N : Nat) (p_a : (List ByteArray)) (left4 : Int) (i5 : Int) : Option ((Int × Int) ⊕ (Int ⊕ Int)) :=
  cond (decide (i5 < (p_a.length : Int)))
    ((ixI p_a i5).bind fun x21 =>
    (chk (left4 - (x21.size : Int))).bind fun n23 =>
    cond (decide (n23 < (0 : Int)))
      (some (.inr (.inr (-1 : Int))))
      ((chk (i5 + (1 : Int))).bind fun n26 =>
      some (.inl (n23, n26))))
    (some (.inr (.inl left4)))
def m_L_szStringS (N : Nat) (p_a : (List ByteArray)) (p_left : Int) : Option (Int) :=
  (chk (p_left - (p_a.length : Int))).bind fun n1 =>
  cond (decide (n1 < (0 : Int)))
    (some (-1 : Int))
    ((loopM (β := Int ⊕ Int) (fun s : Int × Int => m_L_szStringS_b1 N p_a s.1 s.2) N (n1, (0 : Int))).bind fun o => match o with
    | .inl e =>
      m_L_szStringS_k1 N e
    | .inr v =>
      some v)
theorem w_L_szStringS (N : Nat) (p_a : (List ByteArray)) (p_left : Int) (r : Int) (hh0 : m_L_szStringS N p_a p_left = some r) : FnX Tryz.prog 10 [] [sL p_a, iA p_left] (RE (iA r) []) := by
  unfold m_L_szStringS at hh0; refine FnX.mk Tryz.func10 rfl rfl ?_; intro s hs; refine PC.seq ?_; refine PC.rg ?_; refine PL.aT rfl rfl ?_; refine PL.nn ?_; refine PC.seq ?_; obtain ⟨n1, h_2, hh0⟩ := bind_some hh0; refine PC.rg ?_; (iterate 2 refine PL.mT rfl rfl ?_); refine PL.op rfl (Rd.lenT rfl) ?_; refine PL.op rfl (Rd.subM rfl rfl h_2) ?_; refine PL.aT rfl rfl ?_; refine PL.nn ?_; (iterate 2 refine PC.seq ?_); refine PC.rg ?_; refine PL.mT rfl rfl ?_; refine PL.op rfl (Rd.lss rfl rfl) ?_; refine PL.nn ?_; rcases cond_some hh0 with ⟨h_3, hh0⟩ | ⟨h_3, hh0⟩
  · refine PC.ct rfl h_3 ?_; refine PC.seq ?_; refine PC.rg ?_; refine PL.aT rfl rfl ?_; refine PL.nn ?_; refine PC.ret ?_; refine thA_r ?_; obtain rfl := some_in hh0; exact FinA.mk (r := iA (-1 : Int)) (bl := []) [] (.inl rfl) rfl (rl := [.tmp 4]) (.tmp .nil) rfl rfl rfl (.t _) trivial ⟨rfl, rfl⟩
  refine PC.cf rfl h_3 ?_; refine PC.skip ?_; refine thA_n ?_; (iterate 2 refine PC.seq ?_); refine PC.rg ?_; refine PL.aT rfl rfl ?_; refine PL.nn ?_; obtain ⟨o15, h_16, hh0⟩ := bind_some hh0; refine PC.cutE hs (fun x : Int => [(1, iA x)]) (fun x => []) (fun x => m_L_szStringS_k1 N x = some r) ?_ ?_
  · refine PC.block ?_; refine PC.loop hs (fun x : Nat × (Int × Int) => [(0, sL p_a), (1, iA x.2.1), (5, iA x.2.2)]) (fun x => []) (fun x => loopM (β := Int ⊕ Int) (fun s : Int × Int => m_L_szStringS_b1 N p_a s.1 s.2) x.1 x.2 = some o15) (fun x => x.1) (N, (n1, (0 : Int))) [] ⟨rfl, rfl, trivial, ⟨.t _, .t _, .t _, trivial⟩⟩ h_16 ?_
    rintro ⟨f17_, left4, i5⟩ h_19
    obtain ⟨f17, y18, rfl, hh1, kk1⟩ := loopM_some h_19
    replace hh1 : m_L_szStringS_b1 N p_a left4 i5 = some y18 := hh1
    unfold m_L_szStringS_b1 at hh1; (iterate 2 refine PC.seq ?_); refine PC.rg ?_; (iterate 2 refine PL.mT rfl rfl ?_); refine PL.op rfl (Rd.lenT rfl) ?_; refine PL.op rfl (Rd.lss rfl rfl) ?_; refine PL.nn ?_; rcases cond_some hh1 with ⟨h_20, hh1⟩ | ⟨h_20, hh1⟩; rotate_left
    · refine PC.cf rfl h_20 ?_; refine PC.exit ?_; (iterate 2 refine thA_e ?_); refine inA_eq rfl ?_; refine thA_n ?_; obtain rfl := some_in hh1; obtain rfl : (.inl left4 : Int ⊕ Int) = o15 := kk1; exact ⟨left4, hh0, [], ⟨rfl, rfl, trivial, ⟨.t _, trivial⟩⟩⟩
    refine PC.ct rfl h_20 ?_; refine PC.skip ?_; refine thA_n ?_; refine PC.seq ?_; refine PC.block ?_; refine PC.seq ?_; obtain ⟨x21, h_22, hh1⟩ := bind_some hh1; obtain ⟨n23, h_24, hh1⟩ := bind_some hh1; refine PC.rg ?_; (iterate 3 refine PL.mT rfl rfl ?_); refine PL.op rfl (Rd.ixM rfl rfl h_22) ?_; refine PL.op rfl (Rd.elM1 rfl h_22 rfl rfl) ?_; refine PL.op rfl (Rd.lenSt rfl) ?_; refine PL.op rfl (Rd.subM rfl rfl h_24) ?_; refine PL.aT rfl rfl ?_; refine PL.nn ?_; refine PC.seq ?_; refine PC.rg ?_; refine PL.mT rfl rfl ?_; refine PL.op rfl (Rd.lss rfl rfl) ?_; refine PL.nn ?_; rcases cond_some hh1 with ⟨h_25, hh1⟩ | ⟨h_25, hh1⟩; rotate_left
    · refine PC.cf rfl h_25 ?_; refine PC.skip ?_; refine inA_n ?_; refine thA_n ?_; obtain ⟨n26, h_27, hh1⟩ := bind_some hh1; refine PC.rg ?_; refine PL.mT rfl rfl ?_; refine PL.op rfl (Rd.addM rfl rfl h_27) ?_; refine PL.aT rfl rfl ?_; refine PL.nil ?_; obtain rfl := some_in hh1; refine thA_n ?_; exact ⟨(f17, (n23, n26)), Nat.lt_succ_self _, kk1, [], ⟨rfl, rfl, trivial, ⟨.t _, .t _, .t _, trivial⟩⟩⟩
    refine PC.ct rfl h_25 ?_; refine PC.seq ?_; refine PC.rg ?_; refine PL.aT rfl rfl ?_; refine PL.nn ?_; refine PC.ret ?_; refine inA_r ?_; (iterate 2 refine thA_r ?_); refine inA_r ?_; refine thA_r ?_; obtain rfl := some_in hh1; obtain rfl : (.inr (-1 : Int) : Int ⊕ Int) = o15 := kk1; refine thA_r ?_; obtain rfl := some_in hh0; exact FinA.mk (r := iA (-1 : Int)) (bl := []) [] (.inl rfl) rfl (rl := [.tmp 4]) (.tmp .nil) rfl rfl rfl (.t _) trivial ⟨rfl, rfl⟩
  clear hh0
  rintro left14 hh0
  replace hh0 : m_L_szStringS_k1 N left14 = some r := hh0
  unfold m_L_szStringS_k1 at hh0; refine thA_n ?_; refine PC.seq ?_; refine PC.rg ?_; refine PL.mT rfl rfl ?_; refine PL.aT rfl rfl ?_; refine PL.nn ?_; refine PC.ret ?_; obtain rfl := some_in hh0; exact FinA.mk (r := iA left14) (bl := []) [] (.inl rfl) rfl (rl := [.tmp 4]) (.tmp .nil) rfl rfl rfl (.t _) trivial ⟨rfl, rfl⟩
def m_L_toStringS_k1 (N : Nat) (v12 : (List ByteArray)) : Option ((List ByteArray)) :=
  some v12
def m_L_toStringS_b1 (N : Nat) (p_a : (List ByteArray)) (i3 : Int) (v4 : (List ByteArray)) : Option ((Int × (List ByteArray)) ⊕ (List ByteArray)) :=
  cond (decide (i3 < (p_a.length : Int)))
    ((ixI p_a i3).bind fun x19 =>
    (ixI v4 i3).bind fun x21 =>
    (chk (i3 + (1 : Int))).bind fun n23 =>
    some (.inl (n23, (v4.set i3.toNat x19))))
    (some (.inr v4))
def m_L_toStringS (N : Nat) (p_a : (List ByteArray)) : Option ((List ByteArray)) :=
  (mkM 16 ByteArray.empty (p_a.length : Int)).bind fun xs1 =>
  (loopM (β := (List ByteArray)) (fun s : Int × (List ByteArray) => m_L_toStringS_b1 N p_a s.1 s.2) N ((0 : Int), xs1)).bind fun e =>
  m_L_toStringS_k1 N e
theorem w_L_toStringS (N : Nat) (p_a : (List ByteArray)) (r : (List ByteArray)) (hh0 : m_L_toStringS N p_a = some r) : FnX Tryz.prog 11 [] [sL p_a] (RE (.os 0 0 r.length) [⟨.tr (eL r), 9, 1⟩]) := by
  unfold m_L_toStringS at hh0; refine FnX.mk Tryz.func11 rfl rfl ?_; intro s hs; refine PC.seq ?_; refine PC.rg ?_; refine PL.aT rfl rfl ?_; refine PL.nn ?_; refine PC.seq ?_; obtain ⟨xs1, h_2, hh0⟩ := bind_some hh0; refine PC.rg ?_; refine PL.mT rfl rfl ?_; refine PL.op rfl (Rd.lenT rfl) ?_; refine PL.ef rfl (Ef.makeM ByteArray.empty rfl rfl h_2 rfl rfl rfl (by exact ⟨.inl ⟨rfl, rfl⟩, trivial⟩)) ?_; refine PL.nm (.os 0 0 xs1.length) [some ⟨.tr (eL xs1), 9, 1⟩] rfl rfl ?_; refine PL.op rfl (Rd.asnO rfl) ?_; refine PL.nn ?_; (iterate 2 refine PC.seq ?_); refine PC.rg ?_; refine PL.aT rfl rfl ?_; refine PL.nn ?_; obtain ⟨o13, h_14, hh0⟩ := bind_some hh0; refine PC.cutE hs (fun x : (List ByteArray) => [(3, .os 0 0 x.length)]) (fun x => [⟨.tr (eL x), 9, 1⟩]) (fun x => m_L_toStringS_k1 N x = some r) ?_ ?_
  · refine PC.block ?_; refine PC.loop hs (fun x : Nat × (Int × (List ByteArray)) => [(0, sL p_a), (3, .os 0 0 x.2.2.length), (4, iA x.2.1)]) (fun x => [⟨.tr (eL x.2.2), 9, 1⟩]) (fun x => loopM (β := (List ByteArray)) (fun s : Int × (List ByteArray) => m_L_toStringS_b1 N p_a s.1 s.2) x.1 x.2 = some o13) (fun x => x.1) (N, ((0 : Int), xs1)) [some 0] ⟨rfl, rfl, ⟨⟨_, rfl, rfl, rfl, .tr _⟩, trivial⟩, ⟨.t _, .os rfl, .t _, trivial⟩⟩ h_14 ?_
    rintro ⟨f15_, i3, v4⟩ h_17
    obtain ⟨f15, y16, rfl, hh1, kk1⟩ := loopM_some h_17
    replace hh1 : m_L_toStringS_b1 N p_a i3 v4 = some y16 := hh1
    unfold m_L_toStringS_b1 at hh1; (iterate 2 refine PC.seq ?_); refine PC.rg ?_; (iterate 2 refine PL.mT rfl rfl ?_); refine PL.op rfl (Rd.lenT rfl) ?_; refine PL.op rfl (Rd.lss rfl rfl) ?_; refine PL.nn ?_; rcases cond_some hh1 with ⟨h_18, hh1⟩ | ⟨h_18, hh1⟩; rotate_left
    · refine PC.cf rfl h_18 ?_; refine PC.exit ?_; (iterate 2 refine thA_e ?_); refine inA_eq rfl ?_; refine thA_n ?_; obtain rfl := some_in hh1; obtain rfl : (v4 : (List ByteArray)) = o13 := kk1; exact ⟨v4, hh0, [some 0], ⟨rfl, rfl, ⟨⟨_, rfl, rfl, rfl, .tr _⟩, trivial⟩, ⟨.os rfl, trivial⟩⟩⟩
    refine PC.ct rfl h_18 ?_; refine PC.skip ?_; refine thA_n ?_; refine PC.seq ?_; refine PC.block ?_; obtain ⟨x19, h_20, hh1⟩ := bind_some hh1; obtain ⟨x21, h_22, hh1⟩ := bind_some hh1; refine PC.rg ?_; refine PL.op rfl (Rd.moveO rfl) ?_; (iterate 3 refine PL.mT rfl rfl ?_); refine PL.op rfl (Rd.ixM rfl rfl h_20) ?_; refine PL.op rfl (Rd.elM1 rfl h_20 rfl rfl) ?_; refine PL.op rfl (Rd.ixOM rfl rfl rfl (ixI_lt h_22)) ?_; refine PL.stRM x19 rfl rfl rfl rfl rfl h_22 rfl ?_; refine PL.nO [some ⟨.tr (eL (v4.set i3.toNat x19)), 9, 1⟩] rfl ?_; refine PL.nil ?_; refine inA_n ?_; refine thA_n ?_; obtain ⟨n23, h_24, hh1⟩ := bind_some hh1; refine PC.rg ?_; refine PL.mT rfl rfl ?_; refine PL.op rfl (Rd.addM rfl rfl h_24) ?_; refine PL.aT rfl rfl ?_; refine PL.nil ?_; obtain rfl := some_in hh1; refine thA_n ?_; exact ⟨(f15, (n23, (v4.set i3.toNat x19))), Nat.lt_succ_self _, kk1, [some 0], ⟨rfl, rfl, ⟨⟨_, rfl, rfl, rfl, .tr _⟩, trivial⟩, ⟨.t _, .osE rfl (by simp only [List.length_set]), .t _, trivial⟩⟩⟩
  clear hh0
  rintro v12 hh0
  replace hh0 : m_L_toStringS_k1 N v12 = some r := hh0
  unfold m_L_toStringS_k1 at hh0; refine thA_n ?_; refine PC.seq ?_; refine PC.rg ?_; refine PL.op rfl (Rd.moveO rfl) ?_; refine PL.op rfl (Rd.asnO rfl) ?_; refine PL.nn ?_; refine PC.ret ?_; obtain rfl := some_in hh0; exact FinA.mk (r := .os 0 0 v12.length) (bl := [⟨.tr (eL v12), 9, 1⟩]) [some 0] (.inl rfl) rfl (rl := [.tmp 2]) (.tmp .nil) rfl rfl rfl (.os rfl) ⟨⟨_, rfl, rfl, rfl, .tr _⟩, trivial⟩ ⟨rfl, rfl⟩
def m_L_eqStringS_k1 (N : Nat) : Option (Bool) :=
  some true
def m_L_eqStringS_b1 (N : Nat) (p_a : (List ByteArray)) (p_b : (List ByteArray)) (i2 : Int) : Option (Int ⊕ (Unit ⊕ Bool)) :=
  cond (decide (i2 < (p_a.length : Int)))
    ((ixI p_a i2).bind fun x17 =>
    (ixI p_b i2).bind fun x19 =>
    cond (x17.toList == x19.toList)
      ((chk (i2 + (1 : Int))).bind fun n22 =>
      some (.inl n22))
      (some (.inr (.inr false))))
    (some (.inr (.inl ())))
def m_L_eqStringS (N : Nat) (p_a : (List ByteArray)) (p_b : (List ByteArray)) : Option (Bool) :=
  cond (decide ((p_a.length : Int) = (p_b.length : Int)))
    ((loopM (β := Unit ⊕ Bool) (fun s : Int => m_L_eqStringS_b1 N p_a p_b s) N (0 : Int)).bind fun o => match o with
    | .inl e =>
      m_L_eqStringS_k1 N 
    | .inr v =>
      some v)
    (some false)
theorem w_L_eqStringS (N : Nat) (p_a : (List ByteArray)) (p_b : (List ByteArray)) (r : Bool) (hh0 : m_L_eqStringS N p_a p_b = some r) : FnX Tryz.prog 12 [] [sL p_a, sL p_b] (RE (bA r) []) := by
  unfold m_L_eqStringS at hh0; refine FnX.mk Tryz.func12 rfl rfl ?_; intro s hs; refine PC.seq ?_; refine PC.rg ?_; refine PL.aT rfl rfl ?_; refine PL.nn ?_; (iterate 2 refine PC.seq ?_); refine PC.rg ?_; refine PL.mT rfl rfl ?_; refine PL.op rfl (Rd.lenT rfl) ?_; refine PL.mT rfl rfl ?_; refine PL.op rfl (Rd.lenT rfl) ?_; refine PL.op rfl (Rd.neq rfl rfl) ?_; refine PL.nn ?_; rcases cond_some hh0 with ⟨h_1, hh0⟩ | ⟨h_1, hh0⟩; rotate_left
  · refine PC.ct rfl (not_f h_1) ?_; refine PC.seq ?_; refine PC.rg ?_; refine PL.aT rfl rfl ?_; refine PL.nn ?_; refine PC.ret ?_; refine thA_r ?_; obtain rfl := some_in hh0; exact FinA.mk (r := bA false) (bl := []) [] (.inl rfl) rfl (rl := [.tmp 4]) (.tmp .nil) rfl rfl rfl (.t _) trivial ⟨rfl, rfl⟩
  refine PC.cf rfl (not_t h_1) ?_; refine PC.skip ?_; refine thA_n ?_; (iterate 2 refine PC.seq ?_); refine PC.rg ?_; refine PL.aT rfl rfl ?_; refine PL.nn ?_; obtain ⟨o11, h_12, hh0⟩ := bind_some hh0; refine PC.cutE hs (fun x : Unit => []) (fun x => []) (fun x => m_L_eqStringS_k1 N  = some r) ?_ ?_
  · refine PC.block ?_; refine PC.loop hs (fun x : Nat × (Int) => [(0, sL p_a), (1, sL p_b), (5, iA x.2)]) (fun x => []) (fun x => loopM (β := Unit ⊕ Bool) (fun s : Int => m_L_eqStringS_b1 N p_a p_b s) x.1 x.2 = some o11) (fun x => x.1) (N, (0 : Int)) [] ⟨rfl, rfl, trivial, ⟨.t _, .t _, .t _, trivial⟩⟩ h_12 ?_
    rintro ⟨f13_, i2⟩ h_15
    obtain ⟨f13, y14, rfl, hh1, kk1⟩ := loopM_some h_15
    replace hh1 : m_L_eqStringS_b1 N p_a p_b i2 = some y14 := hh1
    unfold m_L_eqStringS_b1 at hh1; (iterate 2 refine PC.seq ?_); refine PC.rg ?_; (iterate 2 refine PL.mT rfl rfl ?_); refine PL.op rfl (Rd.lenT rfl) ?_; refine PL.op rfl (Rd.lss rfl rfl) ?_; refine PL.nn ?_; rcases cond_some hh1 with ⟨h_16, hh1⟩ | ⟨h_16, hh1⟩; rotate_left
    · refine PC.cf rfl h_16 ?_; refine PC.exit ?_; (iterate 2 refine thA_e ?_); refine inA_eq rfl ?_; refine thA_n ?_; obtain rfl := some_in hh1; obtain rfl : (.inl () : Unit ⊕ Bool) = o11 := kk1; exact ⟨(), hh0, [], ⟨rfl, rfl, trivial, trivial⟩⟩
    refine PC.ct rfl h_16 ?_; refine PC.skip ?_; refine thA_n ?_; refine PC.seq ?_; refine PC.block ?_; refine PC.seq ?_; obtain ⟨x17, h_18, hh1⟩ := bind_some hh1; obtain ⟨x19, h_20, hh1⟩ := bind_some hh1; refine PC.any (id := 6) 9 (.seg [0, 1, 2, 3, 4, 5, 6, 7, 8] .done) [] rfl (by kernel_rfl) rfl ?_; refine PT.seg ?_; (iterate 2 refine PR.op rfl (Rd.moveT rfl) ?_); refine PR.op rfl (Rd.ixM rfl rfl h_18) ?_; refine PR.op rfl (Rd.elM1 rfl h_18 rfl rfl) ?_; (iterate 2 refine PR.op rfl (Rd.moveT rfl) ?_); refine PR.op rfl (Rd.ixM rfl rfl h_20) ?_; refine PR.op rfl (Rd.elM1 rfl h_20 rfl rfl) ?_; refine PR.op rfl (Rd.neqS rfl rfl) ?_; refine PR.nil ?_; refine PT.done ?_; refine PL.nn ?_; rcases cond_some hh1 with ⟨h_21, hh1⟩ | ⟨h_21, hh1⟩
    · refine PC.cf rfl (not_t h_21) ?_; refine PC.skip ?_; refine inA_n ?_; refine thA_n ?_; obtain ⟨n22, h_23, hh1⟩ := bind_some hh1; refine PC.rg ?_; refine PL.mT rfl rfl ?_; refine PL.op rfl (Rd.addM rfl rfl h_23) ?_; refine PL.aT rfl rfl ?_; refine PL.nil ?_; obtain rfl := some_in hh1; refine thA_n ?_; exact ⟨(f13, n22), Nat.lt_succ_self _, kk1, [], ⟨rfl, rfl, trivial, ⟨.t _, .t _, .t _, trivial⟩⟩⟩
    refine PC.ct rfl (not_f h_21) ?_; refine PC.seq ?_; refine PC.rg ?_; refine PL.aT rfl rfl ?_; refine PL.nn ?_; refine PC.ret ?_; refine inA_r ?_; (iterate 2 refine thA_r ?_); refine inA_r ?_; refine thA_r ?_; obtain rfl := some_in hh1; obtain rfl : (.inr false : Unit ⊕ Bool) = o11 := kk1; refine thA_r ?_; obtain rfl := some_in hh0; exact FinA.mk (r := bA false) (bl := []) [] (.inl rfl) rfl (rl := [.tmp 4]) (.tmp .nil) rfl rfl rfl (.t _) trivial ⟨rfl, rfl⟩
  clear hh0
  rintro ⟨⟩ hh0
  replace hh0 : m_L_eqStringS_k1 N  = some r := hh0
  unfold m_L_eqStringS_k1 at hh0; refine thA_n ?_; refine PC.seq ?_; refine PC.rg ?_; refine PL.aT rfl rfl ?_; refine PL.nn ?_; refine PC.ret ?_; obtain rfl := some_in hh0; exact FinA.mk (r := bA true) (bl := []) [] (.inl rfl) rfl (rl := [.tmp 4]) (.tmp .nil) rfl rfl rfl (.t _) trivial ⟨rfl, rfl⟩
def m_L_FnExactRunSession (N : Nat) (p_aLines : (List ByteArray)) : Option (Bool) :=
  (m_L_szStringS N p_aLines (1048576 : Int)).bind fun r1 =>
  cond (decide (r1 < (0 : Int)))
    (some true)
    ((m_L_toStringS N p_aLines).bind fun r4 =>
    (m_S_RunSession N r4).bind fun r6 =>
    (m_L_toStringS N p_aLines).bind fun r8 =>
    (m_I_RunSession N r8).bind fun r10 =>
    cond (r10.toList == r6.toList)
      ((m_L_toStringS N p_aLines).bind fun r13 =>
      (m_L_eqStringS N r8 r13).bind fun r15 =>
      cond r15
        (some true)
        (some false))
      (some false))
theorem w_L_FnExactRunSession (N : Nat) (p_aLines : (List ByteArray)) (r : Bool) (hh0 : m_L_FnExactRunSession N p_aLines = some r) : FnX Tryz.prog 4 [] [sL p_aLines] (RE (bA r) []) := by
  unfold m_L_FnExactRunSession at hh0; refine FnX.mk Tryz.func4 rfl rfl ?_; intro s hs; refine PC.seq ?_; refine PC.rg ?_; refine PL.aT rfl rfl ?_; refine PL.nn ?_; refine PC.seq ?_; refine PC.rg ?_; refine PL.aT rfl rfl ?_; refine PL.nn ?_; refine PC.seq ?_; obtain ⟨r1, h_2, hh0⟩ := bind_some hh0; refine PC.rg ?_; (iterate 2 refine PL.mT rfl rfl ?_); refine PL.callM false [] (w_L_szStringS N p_aLines (1048576 : Int) r1 h_2) rfl Tryz.call10 rfl ⟨.t _, .t _, trivial⟩ rfl trivial (fun h => by cases h) ?_; refine PL.aT rfl rfl ?_; refine PL.nn ?_; (iterate 2 refine PC.seq ?_); refine PC.rg ?_; refine PL.mT rfl rfl ?_; refine PL.op rfl (Rd.lss rfl rfl) ?_; refine PL.nn ?_; rcases cond_some hh0 with ⟨h_3, hh0⟩ | ⟨h_3, hh0⟩
  · refine PC.ct rfl h_3 ?_; refine PC.seq ?_; refine PC.rg ?_; refine PL.aT rfl rfl ?_; refine PL.nn ?_; refine PC.ret ?_; refine thA_r ?_; obtain rfl := some_in hh0; exact FinA.mk (r := bA true) (bl := []) [] (.inl rfl) rfl (rl := [.tmp 2]) (.tmp .nil) rfl rfl rfl (.t _) trivial ⟨rfl, rfl⟩
  refine PC.cf rfl h_3 ?_; refine PC.skip ?_; refine thA_n ?_; refine PC.seq ?_; obtain ⟨r4, h_5, hh0⟩ := bind_some hh0; obtain ⟨r6, h_7, hh0⟩ := bind_some hh0; refine PC.rg ?_; refine PL.mT rfl rfl ?_; refine PL.callM false [] (w_L_toStringS N p_aLines r4 h_5) rfl Tryz.call11 rfl ⟨.t _, trivial⟩ rfl trivial (fun h => by cases h) ?_; refine PL.nm (.os 0 0 r4.length) [some ⟨.tr (eL r4), 9, 1⟩] rfl rfl ?_; refine PL.frz hs 0 1 [(13, sL r4)] [none] rfl rfl ⟨(.own rfl (by decide) rfl rfl), trivial⟩ trivial ?_; refine PL.nm (sL r4) [none] rfl rfl ?_; refine PL.callM false [] (w_S_RunSession N r4 r6 h_7) rfl Tryz.call9 rfl ⟨.t _, trivial⟩ rfl trivial (fun h => by cases h) ?_; refine PL.aT rfl rfl ?_; refine PL.nn ?_; refine PC.seq ?_; obtain ⟨r8, h_9, hh0⟩ := bind_some hh0; refine PC.rg ?_; refine PL.mT rfl rfl ?_; refine PL.callM false [] (w_L_toStringS N p_aLines r8 h_9) rfl Tryz.call11 rfl ⟨.t _, trivial⟩ rfl trivial (fun h => by cases h) ?_; refine PL.nm (.os 1 0 r8.length) [none, some ⟨.tr (eL r8), 9, 1⟩] rfl rfl ?_; refine PL.frz hs 1 2 [(16, sL r8)] [none, none] rfl rfl ⟨(.own rfl (by decide) rfl rfl), trivial⟩ trivial ?_; refine PL.nm (sL r8) [none, none] rfl rfl ?_; refine PL.aT rfl rfl ?_; refine PL.nn ?_; refine PC.seq ?_; obtain ⟨r10, h_11, hh0⟩ := bind_some hh0; refine PC.rg ?_; refine PL.mT rfl rfl ?_; refine PL.callM false [] (w_I_RunSession N r8 r10 h_11) rfl Tryz.call8 rfl ⟨.t _, trivial⟩ rfl trivial (fun h => by cases h) ?_; refine PL.aT rfl rfl ?_; refine PL.nn ?_; (iterate 2 refine PC.seq ?_); refine PC.rg ?_; (iterate 2 refine PL.mT rfl rfl ?_); refine PL.op rfl (Rd.neqS rfl rfl) ?_; refine PL.nn ?_; rcases cond_some hh0 with ⟨h_12, hh0⟩ | ⟨h_12, hh0⟩; rotate_left
  · refine PC.ct rfl (not_f h_12) ?_; refine PC.seq ?_; refine PC.rg ?_; refine PL.aT rfl rfl ?_; refine PL.nn ?_; refine PC.ret ?_; refine thA_r ?_; obtain rfl := some_in hh0; exact FinA.mk (r := bA false) (bl := []) [] (.inl rfl) rfl (rl := [.tmp 2]) (.tmp .nil) rfl rfl rfl (.t _) trivial ⟨rfl, rfl⟩
  refine PC.cf rfl (not_t h_12) ?_; refine PC.skip ?_; refine thA_n ?_; (iterate 2 refine PC.seq ?_); obtain ⟨r13, h_14, hh0⟩ := bind_some hh0; obtain ⟨r15, h_16, hh0⟩ := bind_some hh0; refine PC.rg ?_; (iterate 2 refine PL.mT rfl rfl ?_); refine PL.callM false [] (w_L_toStringS N p_aLines r13 h_14) rfl Tryz.call11 rfl ⟨.t _, trivial⟩ rfl trivial (fun h => by cases h) ?_; refine PL.nm (.os 2 0 r13.length) [none, none, some ⟨.tr (eL r13), 9, 1⟩] rfl rfl ?_; refine PL.frz hs 2 3 [(24, sL r13)] [none, none, none] rfl rfl ⟨(.own rfl (by decide) rfl rfl), trivial⟩ trivial ?_; refine PL.nm (sL r13) [none, none, none] rfl rfl ?_; refine PL.callM false [] (w_L_eqStringS N r8 r13 r15 h_16) rfl Tryz.call12 rfl ⟨.t _, .t _, trivial⟩ rfl trivial (fun h => by cases h) ?_; refine PL.op rfl (Rd.unnot rfl) ?_; refine PL.nn ?_; rcases cond_some hh0 with ⟨h_17, hh0⟩ | ⟨h_17, hh0⟩; rotate_left
  · refine PC.ct rfl (not_f h_17) ?_; refine PC.seq ?_; refine PC.rg ?_; refine PL.aT rfl rfl ?_; refine PL.nn ?_; refine PC.ret ?_; refine thA_r ?_; obtain rfl := some_in hh0; exact FinA.mk (r := bA false) (bl := []) [] (.inl rfl) rfl (rl := [.tmp 2]) (.tmp .nil) rfl rfl rfl (.t _) trivial ⟨rfl, rfl⟩
  refine PC.cf rfl (not_t h_17) ?_; refine PC.skip ?_; refine thA_n ?_; refine PC.seq ?_; refine PC.rg ?_; refine PL.aT rfl rfl ?_; refine PL.nn ?_; refine PC.ret ?_; obtain rfl := some_in hh0; exact FinA.mk (r := bA true) (bl := []) [] (.inl rfl) rfl (rl := [.tmp 2]) (.tmp .nil) rfl rfl rfl (.t _) trivial ⟨rfl, rfl⟩
end V
end Go.Proofs.YtemmcidmcojjjaaGreatDoor
namespace Go.Proofs.YtemmcidmcojjjaaGreatDoor
namespace V
set_option maxHeartbeats 1000000
theorem cut_ix {α : Type} {A xs : List α} {i : Nat} (hA : A.length = i) (h : i < xs.length) : ixI (A ++ xs.drop i) (i : Int) = some xs[i] := by
  rw [ixI_nat (by simp; omega), List.getElem_append_right (by omega)]
  congr 1
  rw [List.getElem_drop]; congr 1; omega
theorem cut_set {α : Type} {A xs : List α} {i : Nat} (hA : A.length = i) (h : i < xs.length) (y : α) : (A ++ xs.drop i).set i y = (A ++ [y]) ++ xs.drop (i + 1) := by
  rw [List.drop_eq_getElem_cons h, List.set_append_right _ _ (by omega), hA, Nat.sub_self, List.set_cons_zero, List.append_assoc, List.singleton_append]
theorem cut_same {α : Type} {A xs : List α} {i : Nat} (h : i < xs.length) : A ++ xs.drop i = (A ++ [xs[i]]) ++ xs.drop (i + 1) := by
  rw [List.drop_eq_getElem_cons h, List.append_assoc, List.singleton_append]
theorem loop_self {body : Int → Option (Int ⊕ (Unit ⊕ Bool))} {N n : Nat} (hN : n < N) (h : ∀ i, i < n → body (i : Int) = some (.inl ((i : Int) + 1))) (he : body (n : Int) = some (.inr (.inl ()))) : loopM body N (0 : Int) = some (.inl ()) := by
  have : ok (loopM body N (0 : Int)) fun o => o = .inl () := by
    refine ok.each n (fun i s => s = (i : Int)) _ ?_ ?_ N 0 _ (Nat.zero_le _) rfl (by omega)
    · rintro i s hi rfl
      rw [h i hi]; exact ok.some (by simp)
    · rintro s rfl
      rw [he]; exact ok.some rfl
  exact ok.val this
section
variable {N : Nat} (hN : 100000000 ≤ N)
include hN
theorem cloneI {t : I_Table} (hb : bT t) : m_I_Table_clone N t = some t := by
  have hfl := hb.f.1
  have hcl := hb.c.1
  have hrl := hb.rl
  refine ok.val ?_
  unfold m_I_Table_clone
  refine ok.eq (show m_slices_Clone_I_Column N t.first = some t.first from appM0 (by omega)) (ok.eq (show m_slices_Clone_I_Change N t.changes = some t.changes from appM0 (by omega)) ?_)
  refine ok.call (P := fun o => o = t.rows) (ok.each t.rows.length (fun i s => s = ((i : Int), t.rows.take i)) _ ?_ ?_ N 0 _ (Nat.zero_le _) rfl (by omega)) ?_
  · rintro i s hi rfl
    show ok (m_I_Table_clone_b1 N t (i : Int) _) _
    unfold m_I_Table_clone_b1
    have hr := (hb.r i hi).1
    refine ok.ift (by omega) (ok.eq (ixI_nat hi) (ok.eq (show m_slices_Clone_I_Value N t.rows[i].row = some t.rows[i].row from appM0 (by omega)) (ok.app (by simp; omega) (ok.chk (by omega) (ok.some ?_)))))
    refine Prod.ext (by simp) ?_
    show _ = t.rows.take (i + 1)
    rw [take_succ1 hi]
  · rintro s rfl
    show ok (m_I_Table_clone_b1 N t _ _) _
    unfold m_I_Table_clone_b1
    refine ok.iff (by omega) (ok.some ?_)
    rw [List.take_length]
  · rintro o rfl
    exact ok.some rfl
theorem copyTS {t : I_Table} (hb : bT t) : m_S_copyTable N t = some t := by
  have hfl := hb.f.1
  have hcl := hb.c.1
  have hrl := hb.rl
  refine ok.val ?_
  unfold m_S_copyTable
  refine ok.call (P := fun o => o = t.rows) (ok.each t.rows.length (fun i s => s = ((i : Int), t.rows.take i)) _ ?_ ?_ N 0 _ (Nat.zero_le _) rfl (by omega)) ?_
  · rintro i s hi rfl
    show ok (m_S_copyTable_b1 N t (i : Int) _) _
    unfold m_S_copyTable_b1
    have hr := (hb.r i hi).1
    refine ok.ift (by omega) (ok.eq (ixI_nat hi) (ok.eq (ixI_nat hi) (ok.eq (appM0 (by omega)) (ok.app (by simp; omega) (ok.chk (by omega) (ok.some ?_))))))
    refine Prod.ext (by simp) ?_
    show _ = t.rows.take (i + 1)
    rw [take_succ1 hi]
  · rintro s rfl
    show ok (m_S_copyTable_b1 N t _ _) _
    unfold m_S_copyTable_b1
    refine ok.iff (by omega) (ok.some ?_)
    rw [List.take_length]
  · rintro o rfl
    show ok (m_S_copyTable_k1 N t _) _
    unfold m_S_copyTable_k1
    refine ok.eq (copyS hfl) (ok.eq (appM0 (by omega)) (ok.some rfl))
omit hN in
theorem rwL_take (t : I_Table) (n : Nat) {i : Nat} (h : i < t.rows.length) : rwL (oldB t) (toL t) n (t.rows.take (i + 1)) = rwL (oldB t) (toL t) n (t.rows.take i) ++ [if oldB t t.rows[i] = true ∧ 0 < n - (t.rows.take i).countP (oldB t) then toL t t.rows[i] else t.rows[i]] := by
  rw [take_succ1 h, rwL_app, rwL_one]
theorem rewI {t : I_Table} {k : Int} (hb : bT t) (hk : k ≤ 9223372036854775807) : m_I_RewriteRows N t k = some (if tV t ∧ 0 ≤ k then rwT t k.toNat else noT) := by
  have hrl := hb.rl
  refine ok.val ?_
  unfold m_I_RewriteRows
  refine ok.eq (validTI hN hb) (ok.ite (fun hv => ok.ite (fun h0 => ok.some ?_) fun h0 => ?_) fun hv => ok.some ?_)
  · rw [if_neg (by omega)]; rfl
  · rw [if_pos ⟨hv, by omega⟩]
    obtain ⟨n, rfl⟩ : ∃ n : Nat, k = n := ⟨k.toNat, by omega⟩
    rw [Int.toNat_natCast]
    refine ok.eq (cloneI hN hb) ?_
    refine ok.call (P := fun o => o = rwL (oldB t) (toL t) n t.rows) (ok.each t.rows.length (fun i s => s = ((i : Int), ((n - (t.rows.take i).countP (oldB t) : Nat) : Int), rwL (oldB t) (toL t) n (t.rows.take i) ++ t.rows.drop i)) _ ?_ ?_ N 0 _ (Nat.zero_le _) (by simp [rwL]) (by omega)) ?_
    · rintro i s hi rfl
      show ok (m_I_RewriteRows_b1 N t _ (i : Int) _ _) _
      unfold m_I_RewriteRows_b1
      dsimp only
      have hA : (rwL (oldB t) (toL t) n (t.rows.take i)).length = i := by rw [rwL_len, List.length_take]; omega
      refine ok.ift (by omega) (ok.eq (cut_ix hA hi) (ok.ite (fun hm => ok.eq (show m_I_Table_last N t = some (t.changes.length : Int) from rfl) (ok.ite (fun c => ok.chk (by omega) (ok.some ?_)) fun c => ok.eq (show m_I_Table_last N t = some (t.changes.length : Int) from rfl) (ok.eq (read1I hN hv hb.c (hv.2.2 i hi)) (ok.chk (by omega) (ok.chk (by omega) (ok.some ?_)))))) fun hm => ok.chk (by omega) (ok.some ?_)))
      · have ho : ¬ oldB t t.rows[i] = true := by unfold oldB; simp [c]
        rw [rwL_take t n hi, if_neg (fun e => ho e.1), count_take _ hi, if_neg ho, cut_same hi]; simp
      · have ho : oldB t t.rows[i] = true := by unfold oldB; simp [c]
        rw [rwL_take t n hi, if_pos ⟨ho, by omega⟩, count_take _ hi, if_pos ho, Int.toNat_natCast, cut_set hA hi]
        refine Prod.ext (by simp) (Prod.ext ?_ rfl)
        show ((n - (t.rows.take i).countP (oldB t) : Nat) : Int) - 1 = ((n - ((t.rows.take i).countP (oldB t) + 1) : Nat) : Int)
        omega
      · rw [rwL_take t n hi, if_neg (fun e => by have := e.2; omega), cut_same hi]
        refine Prod.ext (by simp) (Prod.ext ?_ rfl)
        show ((n - (t.rows.take i).countP (oldB t) : Nat) : Int) = ((n - (t.rows.take (i + 1)).countP (oldB t) : Nat) : Int)
        rw [count_take _ hi]; omega
    · rintro s rfl
      show ok (m_I_RewriteRows_b1 N t _ _ _ _) _
      unfold m_I_RewriteRows_b1
      dsimp only
      refine ok.iff (by omega) (ok.some ?_)
      rw [List.take_length, List.drop_length, List.append_nil]
    · rintro o rfl
      exact ok.some rfl
  · rw [if_neg fun e => hv e.1]; rfl
theorem rewS {t : I_Table} {k : Int} (hb : bT t) (hk : k ≤ 9223372036854775807) : m_S_RewriteRows N t k = some (if tV t ∧ 0 ≤ k then rwT t k.toNat else noT) := by
  have hrl := hb.rl
  refine ok.val ?_
  unfold m_S_RewriteRows
  refine ok.eq (validTS hN hb) (ok.ite (fun hv => ok.ite (fun h0 => ok.some ?_) fun h0 => ?_) fun hv => ok.some ?_)
  · rw [if_neg (by omega)]; rfl
  · rw [if_pos ⟨hv, by omega⟩]
    obtain ⟨n, rfl⟩ : ∃ n : Nat, k = n := ⟨k.toNat, by omega⟩
    rw [Int.toNat_natCast]
    refine ok.eq (copyTS hN hb) (ok.eq (latestS hN hv) ?_)
    refine ok.call (P := fun o => o = rwL (oldB t) (toL t) n t.rows) (ok.each t.rows.length (fun i s => s = (((n - (t.rows.take i).countP (oldB t) : Nat) : Int), (i : Int), rwL (oldB t) (toL t) n (t.rows.take i) ++ t.rows.drop i)) _ ?_ ?_ N 0 _ (Nat.zero_le _) (by simp [rwL]) (by omega)) ?_
    · rintro i s hi rfl
      show ok (m_S_RewriteRows_b1 N t _ _ (i : Int) _) _
      unfold m_S_RewriteRows_b1
      dsimp only
      have hA : (rwL (oldB t) (toL t) n (t.rows.take i)).length = i := by rw [rwL_len, List.length_take]; omega
      have hr := (hv.2.2 i hi).2.1
      refine ok.ift (by omega) (ok.ite (fun hm => ok.eq (ixI_nat hi) (ok.ite (fun c => ok.eq (ixI_nat (by simpa using hi)) (ok.eq (cut_ix hA hi) (ok.chk (by omega) (ok.chk (by omega) (ok.some ?_))))) fun c => ok.chk (by omega) (ok.some ?_))) fun hm => ok.some ?_)
      · have ho : oldB t t.rows[i] = true := by unfold oldB; rw [decide_eq_true_eq]; omega
        rw [rwL_take t n hi, if_pos ⟨ho, by omega⟩, count_take _ hi, if_pos ho, Int.toNat_natCast, cut_set hA hi]
        refine Prod.ext ?_ (Prod.ext (by simp) ?_)
        · show ((n - (t.rows.take i).countP (oldB t) : Nat) : Int) - 1 = ((n - ((t.rows.take i).countP (oldB t) + 1) : Nat) : Int)
          omega
        · simp [toL]
      · have ho : ¬ oldB t t.rows[i] = true := by unfold oldB; rw [decide_eq_true_eq]; omega
        rw [rwL_take t n hi, if_neg (fun e => ho e.1), count_take _ hi, if_neg ho, cut_same hi]; simp
      · conv => rhs; rw [← List.take_append_drop i t.rows]
        rw [rwL_app, show n - (t.rows.take i).countP (oldB t) = 0 by omega, rwL_zero]
    · rintro s rfl
      show ok (m_S_RewriteRows_b1 N t _ _ _ _) _
      unfold m_S_RewriteRows_b1
      dsimp only
      refine ok.iff (by omega) (ok.some ?_)
      rw [List.take_length, List.drop_length, List.append_nil]
    · rintro o rfl
      exact ok.some rfl
  · rw [if_neg fun e => hv e.1]; rfl
theorem insI {t : I_Table} {r : List I_Value} (hb : bT t) (hr : bR r) : m_I_InsertRow N t r = some (if canI t r then (insT t r, true) else (noT, false)) := by
  have hrl := hb.rl
  have hr0 := hr.1
  refine ok.val ?_
  unfold m_I_InsertRow
  refine ok.eq (lastI hN hb) ?_
  by_cases hv : tV t
  · rw [if_pos hv]
    refine ok.bt rfl (ok.ite (fun h10 => ok.some ?_) fun h10 => ok.eq (fitI hN (vF_bS (fL_v hv)) hr) (ok.ite (fun hf => ?_) fun hf => ok.some ?_))
    · rw [if_neg fun e : canI t r => by have := e.2.1; omega]; rfl
    · rw [if_pos (show canI t r from ⟨hv, by omega, hf.2⟩)]
      refine ok.eq (cloneI hN hb) (ok.eq (show m_I_Table_last N t = some (t.changes.length : Int) from rfl) (ok.eq (show m_slices_Clone_I_Value N r = some r from appM0 (by omega)) (ok.app (by simp; omega) (ok.some rfl))))
    · rw [if_neg fun e : canI t r => hf ⟨fL_v hv, e.2.2⟩]; rfl
  · rw [if_neg hv, if_neg fun e : canI t r => hv e.1]
    exact ok.bf rfl (ok.some rfl)
theorem insS {t : I_Table} {r : List I_Value} (hb : bT t) (hr : bR r) : m_S_InsertRow N t r = some (if canI t r then (insT t r, true) else (noT, false)) := by
  have hrl := hb.rl
  have hr0 := hr.1
  refine ok.val ?_
  unfold m_S_InsertRow
  refine ok.eq (validTS hN hb) (ok.ite (fun hv => ok.ite (fun h10 => ok.some ?_) fun h10 => ok.eq (formatsS hN hb.f.1 (vF_bN hv.1.1) hb.c) ?_) fun hv => ok.some ?_)
  · rw [if_neg fun e : canI t r => by have := e.2.1; omega]; rfl
  · rw [if_pos hv.1.2.2]
    refine ok.eq (chs_ix rfl (Nat.le_refl _)) (ok.eq (fitS hN hr (fL_v hv).1.2) (ok.ite (fun hf => ?_) fun hf => ok.some ?_))
    · rw [if_pos (show canI t r from ⟨hv, by omega, hf⟩)]
      refine ok.eq (copyTS hN hb) (ok.eq (appM0 (by omega)) (ok.app (by simp; omega) (ok.some rfl)))
    · rw [if_neg fun e : canI t r => hf e.2.2]; rfl
  · rw [if_neg fun e : canI t r => hv e.1]; rfl
theorem altI {t : I_Table} {c : I_Change} (hb : bT t) (hc : c.column.default.text.size ≤ 5000000) : m_I_AlterTable N t c = some (if canA t c then (altT t c, true) else (noT, false)) := by
  have hcl := hb.c.1
  refine ok.val ?_
  unfold m_I_AlterTable
  refine ok.eq (lastI hN hb) ?_
  by_cases hv : tV t
  · rw [if_pos hv]
    refine ok.bt rfl (ok.ite (fun h10 => ok.some ?_) fun h10 => ok.eq (possI hN hc) (ok.ite (fun hf => ?_) fun hf => ok.some ?_))
    · rw [if_neg fun e : canA t c => by have := e.2.1; omega]; rfl
    · rw [if_pos (show canA t c from ⟨hv, by omega, hf⟩)]
      refine ok.eq (cloneI hN hb) (ok.app (by simp; omega) (ok.some rfl))
    · rw [if_neg fun e : canA t c => hf e.2.2]; rfl
  · rw [if_neg hv, if_neg fun e : canA t c => hv e.1]
    exact ok.bf rfl (ok.some rfl)
theorem altS {t : I_Table} {c : I_Change} (hb : bT t) (hc : c.column.default.text.size ≤ 5000000) : m_S_AlterTable N t c = some (if canA t c then (altT t c, true) else (noT, false)) := by
  have hcl := hb.c.1
  refine ok.val ?_
  unfold m_S_AlterTable
  refine ok.eq (validTS hN hb) (ok.ite (fun hv => ok.eq (copyTS hN hb) (ok.app (by simp; omega) ?_)) fun hv => ok.some ?_)
  · have h8 := hv.1.2.1
    have hbc : bCs (t.changes ++ [c]) := ⟨by simp; omega, fun x hx => by
      rcases List.mem_append.1 hx with h | h
      · exact hb.c.2 x h
      · rw [List.mem_singleton.1 h]; exact hc⟩
    refine ok.eq (vchainS hN hb.f hbc) (ok.ite (fun hf => ok.some ?_) fun hf => ok.some ?_)
    · rw [if_pos (show canA t c from ⟨hv, by have := hf.2.1; simp at this; omega, (gC_app.1 hf.2.2).2⟩)]; rfl
    · rw [if_neg fun e : canA t c => hf ⟨hv.1.1, by have := e.2.1; simp; omega, gC_app.2 ⟨hv.1.2.2, e.2.2⟩⟩]; rfl
  · rw [if_neg fun e : canA t c => hv e.1]; rfl
end
end V
end Go.Proofs.YtemmcidmcojjjaaGreatDoor
namespace Go.Proofs.YtemmcidmcojjjaaGreatDoor
namespace V
set_option maxHeartbeats 1000000
def preW (p : List UInt8) : List (List UInt8) → List (List UInt8)
  | [] => [p]
  | w :: ws => (p ++ w) :: ws
def spl : List UInt8 → List (List UInt8)
  | [] => [[]]
  | c :: cs => if c = 32 then [] :: spl cs else preW [c] (spl cs)
theorem preW_preW (p q : List UInt8) (l : List (List UInt8)) : preW p (preW q l) = preW (p ++ q) l := by
  cases l <;> simp [preW]
theorem preW_ne (p : List UInt8) (l : List (List UInt8)) : preW p l ≠ [] := by cases l <;> simp [preW]
theorem spl_ne (l : List UInt8) : spl l ≠ [] := by
  cases l with
  | nil => simp [spl]
  | cons c cs =>
    unfold spl
    split
    · simp
    · exact preW_ne _ _
theorem preW_nil {l : List (List UInt8)} (h : l ≠ []) : preW [] l = l := by
  cases l with
  | nil => exact absurd rfl h
  | cons w ws => rfl
theorem spl_len (l : List UInt8) : (spl l).length ≤ l.length + 1 := by
  induction l with
  | nil => simp [spl]
  | cons c cs ih =>
    unfold spl
    split
    · simp; omega
    · cases h : spl cs with
      | nil => exact absurd h (spl_ne cs)
      | cons w ws => rw [h] at ih; simp [preW] at ih ⊢; omega
theorem spl_mem {l w : List UInt8} (h : w ∈ spl l) : w.length ≤ l.length := by
  induction l generalizing w with
  | nil => simp [spl] at h; subst h; simp
  | cons c cs ih =>
    unfold spl at h
    split at h
    · rcases List.mem_cons.1 h with rfl | h
      · simp
      · have := ih h; simp; omega
    · cases hs : spl cs with
      | nil => exact absurd hs (spl_ne cs)
      | cons v vs =>
        rw [hs] at h
        rcases List.mem_cons.1 h with rfl | h
        · have := ih (w := v) (by rw [hs]; simp); simp; omega
        · have := ih (w := w) (by rw [hs]; simp [h]); simp; omega
theorem spl_ix (l : List UInt8) : (Lib.indexByte l 32 = -1 ∧ spl l = [l] ∧ l.count 32 = 0) ∨ (∃ m : Nat, Lib.indexByte l 32 = (m : Int) ∧ m < l.length ∧ spl l = l.take m :: spl (l.drop (m + 1)) ∧ l.count 32 = (l.drop (m + 1)).count 32 + 1) := by
  induction l with
  | nil => left; exact ⟨rfl, rfl, rfl⟩
  | cons c cs ih =>
    by_cases hc : c = 32
    · subst hc
      right
      refine ⟨0, ?_, by simp, ?_, ?_⟩
      · simp [Lib.indexByte]
      · simp [spl]
      · simp
    · have hb : (c == 32) = false := by simp [hc]
      rcases ih with ⟨h1, h2, h3⟩ | ⟨m, h1, h2, h3, h4⟩
      · left
        refine ⟨?_, ?_, ?_⟩
        · simp [Lib.indexByte, hb, h1]
        · simp [spl, hc, h2, preW]
        · rw [List.count_cons, h3, hb]; rfl
      · right
        refine ⟨m + 1, ?_, by simp only [List.length_cons]; omega, ?_, ?_⟩
        · have : ((m : Int) == -1) = false := by simp
          simp [Lib.indexByte, hb, h1, this]
        · simp [spl, hc, h3, preW]
        · rw [List.count_cons, h4, hb]; simp
theorem spl_one {l w : List UInt8} (h : spl l = [w]) : l = w := by
  rcases spl_ix l with ⟨_, h2, _⟩ | ⟨m, _, _, h3, _⟩
  · rw [h2] at h; simpa using h
  · rw [h3] at h
    have := (List.cons.inj h).2
    exact absurd this (spl_ne _)
def wordsB (s : ByteArray) : List ByteArray := (spl (bytesL s)).map b2s
theorem b2s_bytesL (s : ByteArray) : b2s (bytesL s) = s := by
  apply ByteArray.ext; unfold b2s bytesL; simp
theorem bytesL_b2s (l : List UInt8) : bytesL (b2s l) = l := by unfold b2s bytesL; simp
theorem ext_list (s : ByteArray) (a b : Nat) : s.extract a b = b2s (((bytesL s).take b).drop a) := by
  apply ByteArray.ext
  unfold b2s bytesL
  rw [ByteArray.data_extract]
  apply Array.ext'
  simp [List.extract, List.drop_take]
theorem subS_list {s : ByteArray} {a b : Nat} (h : a ≤ b ∧ b ≤ s.size) : subS s (a : Int) (b : Int) = some (b2s (((bytesL s).take b).drop a)) := by
  unfold subS; rw [if_pos (by omega), ← ext_list]; rfl
theorem byte_get {s : ByteArray} {i : Nat} (h : i < s.size) (hb : i < (bytesL s).length) : s[i]'h = (bytesL s)[i]'hb := by
  show s.data[i]'h = s.data.toList[i]'hb
  exact (Array.getElem_toList _).symm
section
variable {N : Nat} (hN : 100000000 ≤ N)
include hN
theorem splitS {s : ByteArray} (hs : s.size ≤ 5000000) : m_S_splitWords N s = some (wordsB s) := by
  refine ok.val ?_
  unfold m_S_splitWords
  have hL := bytesL_len s
  refine ok.call (P := fun r : Int × List ByteArray => ∃ f : Nat, r.1 = (f : Int) ∧ f ≤ s.size ∧ r.2.length ≤ s.size ∧ r.2 ++ [b2s ((bytesL s).drop f)] = wordsB s) (ok.loop (fun x : Int × Int × List ByteArray => ∃ f n : Nat, x.1 = (f : Int) ∧ x.2.1 = (n : Int) ∧ f ≤ n ∧ n ≤ s.size ∧ x.2.2.length ≤ n ∧ x.2.2 ++ (preW (((bytesL s).take n).drop f) (spl ((bytesL s).drop n))).map b2s = wordsB s) (fun x => (s.size - x.2.1).toNat) _ ?_ N _ ?_ ?_) ?_
  · rintro ⟨x1, x2, out⟩ ⟨f, n, rfl, rfl, hf, hn, hl, he⟩
    dsimp only at hl he ⊢
    unfold m_S_splitWords_b1
    refine ok.ite (fun hc => ?_) fun hc => ?_
    · have hn' : n < s.size := by omega
      rw [ixS_nat hn']
      refine ok.bs ?_
      have hg := byte_get hn' (by omega)
      have hd : (bytesL s).drop n = s[n]'hn' :: (bytesL s).drop (n + 1) := by rw [hg]; exact List.drop_eq_getElem_cons (by omega)
      have ht : (bytesL s).take (n + 1) = (bytesL s).take n ++ [s[n]'hn'] := by rw [hg]; exact take_succ1 (by omega)
      rw [hd] at he
      refine ok.ite (fun h32 => ?_) fun h32 => ?_
      · have e32 : s[n]'hn' = 32 := by apply UInt8.toNat_inj.1; have : (32 : UInt8).toNat = 32 := rfl; omega
        refine ok.eq (subS_list ⟨hf, hn⟩) (ok.app (by simp; omega) (ok.chk (by omega) (ok.chk (by omega) (ok.some ?_))))
        refine ⟨⟨n + 1, n + 1, rfl, rfl, Nat.le_refl _, hn', by show (out ++ [_]).length ≤ n + 1; rw [List.length_append]; show out.length + 1 ≤ n + 1; omega, ?_⟩, by show (s.size - ((n : Int) + 1) : Int).toNat < (s.size - (n : Int) : Int).toNat; omega⟩
        rw [← he]
        have e1 : ((bytesL s).take (n + 1)).drop (n + 1) = [] := List.drop_eq_nil_of_le (by simp; omega)
        rw [e1, preW_nil (spl_ne _)]
        conv => rhs; rw [spl, if_pos e32]
        simp [preW]
      · have e32 : ¬ s[n]'hn' = 32 := fun e => h32 (by rw [e])
        refine ok.chk (by omega) (ok.some ?_)
        refine ⟨⟨f, n + 1, rfl, rfl, by omega, hn', by show out.length ≤ n + 1; omega, ?_⟩, by show (s.size - ((n : Int) + 1) : Int).toNat < (s.size - (n : Int) : Int).toNat; omega⟩
        rw [← he]
        conv => rhs; rw [spl, if_neg e32]
        rw [preW_preW, ht, List.drop_append_of_le_length (by simp; omega)]
    · have e : n = s.size := by omega
      refine ok.some ⟨f, rfl, by omega, by show out.length ≤ s.size; omega, ?_⟩
      rw [← he]
      have e1 : (bytesL s).drop n = [] := List.drop_eq_nil_of_le (by omega)
      have e2 : (bytesL s).take n = bytesL s := List.take_of_length_le (by omega)
      rw [e1, e2]
      simp [spl, preW]
  · refine ⟨0, 0, rfl, rfl, Nat.le_refl _, Nat.zero_le _, Nat.zero_le _, ?_⟩
    simp only [List.take_zero, List.drop_zero, List.nil_append, List.drop_nil]
    rw [preW_nil (spl_ne _)]; rfl
  · simp; omega
  · rintro ⟨r1, r2⟩ ⟨f, rfl, hf, hl, he⟩
    dsimp only at hl he ⊢
    unfold m_S_splitWords_k1
    refine ok.eq (subS_list (a := f) (b := s.size) ⟨hf, Nat.le_refl _⟩) (ok.app (by simp; omega) (ok.some ?_))
    rw [← he, List.take_of_length_le (by omega)]
theorem splitI {s : ByteArray} (hs : s.size ≤ 5000000) : m_strings_Split N s (ByteArray.mk #[32]) = some (wordsB s) := by
  refine ok.val ?_
  unfold m_strings_Split m_strings_genSplit
  have hL := bytesL_len s
  have hcl : (bytesL s).count 32 ≤ s.size := by rw [← hL]; exact List.count_le_length
  generalize hcd : (bytesL s).count 32 = c at hcl
  refine ok.call (P := fun r => r = wordsB s) (ok.iff (by decide) (ok.bf (by rw [textEq]; decide) (ok.ift (by decide) ?_))) fun r hr => ok.some hr
  have e1 : m_strings_Count N s (ByteArray.mk #[32]) = some (c : Int) := by rw [← hcd]; rfl
  refine ok.eq e1 (ok.chk (by omega) (ok.chk (by omega) ?_))
  have e2 : min ((c : Int) + 1) ((s.size : Int) + 1) = ((c + 1 : Nat) : Int) := by omega
  rw [e2]
  have e3 : mkM 16 ByteArray.empty ((c + 1 : Nat) : Int) = some (List.replicate (c + 1) ByteArray.empty) := by unfold mkM; rw [if_pos (by omega)]; rfl
  refine ok.eq e3 (ok.chk (by omega) ?_)
  have e4 : ((c + 1 : Nat) : Int) - 1 = (c : Int) := by omega
  rw [e4]
  have set1 : ∀ {d : List ByteArray} {j k : Nat} {y : ByteArray}, d.length = j → (d ++ List.replicate (k + 1) ByteArray.empty).set j y = (d ++ [y]) ++ List.replicate k ByteArray.empty := by
    intro d j k y hd; subst hd; simp [List.replicate_succ]
  refine ok.call (P := fun r : ByteArray × Int × List ByteArray => ∃ (j : Nat) (d : List ByteArray), r.2.1 = (j : Int) ∧ j ≤ c ∧ d.length = j ∧ r.2.2 = d ++ List.replicate (c - j + 1) ByteArray.empty ∧ d ++ [r.1] = wordsB s) (ok.loop (fun x : ByteArray × Int × List ByteArray => ∃ (j : Nat) (d : List ByteArray), x.2.1 = (j : Int) ∧ j ≤ c ∧ d.length = j ∧ x.2.2 = d ++ List.replicate (c - j + 1) ByteArray.empty ∧ x.1.size ≤ s.size ∧ (bytesL x.1).count 32 = c - j ∧ d ++ (spl (bytesL x.1)).map b2s = wordsB s) (fun x => (c - x.2.1).toNat) _ ?_ N _ ?_ ?_) ?_
  · rintro ⟨u, i, v⟩ ⟨j, d, rfl, hj, hd, hv, hu, hc, he⟩
    dsimp only at hv hu hc he ⊢
    subst hv
    have hLu := bytesL_len u
    unfold m_strings_genSplit_b1
    refine ok.ite (fun hlt => ?_) fun hlt => ?_
    · have e5 : m_strings_Index N u (ByteArray.mk #[32]) = some (Lib.indexByte (bytesL u) 32) := rfl
      rcases spl_ix (bytesL u) with ⟨h1, h2, h3⟩ | ⟨m, h1, h2, h3, h4⟩
      · rw [h1] at e5
        refine ok.eq e5 (ok.ift (by decide) (ok.some ⟨j, d, rfl, hj, hd, rfl, ?_⟩))
        rw [← he, h2]; simp [b2s_bytesL]
      · rw [h1] at e5
        refine ok.eq e5 (ok.iff (by omega) (ok.chk (by omega) ?_))
        rw [Int.add_zero]
        obtain ⟨q, hq⟩ : ∃ q, c - j = q + 1 := ⟨c - j - 1, by omega⟩
        have e6 : (ByteArray.mk #[32]).size = 1 := rfl
        refine ok.eq (subS_list (a := 0) (b := m) ⟨Nat.zero_le _, by omega⟩) (ok.eq (ixI_nat (n := j) (by simp; omega)) (ok.chk (by omega) ?_))
        rw [e6]
        refine ok.eq (subS_list (a := m + 1) (b := u.size) ⟨by omega, Nat.le_refl _⟩) (ok.chk (by omega) (ok.some ?_))
        have e7 : (bytesL u).take u.size = bytesL u := List.take_of_length_le (by omega)
        refine ⟨⟨j + 1, d ++ [b2s (((bytesL u).take m).drop 0)], rfl, by omega, by simp; omega, ?_, ?_, ?_, ?_⟩, by simp; omega⟩
        · dsimp only
          have e8 : c - (j + 1) + 1 = q + 1 := by omega
          rw [hq, Int.toNat_natCast, set1 hd, e8]
        · rw [b2s_data, e7]; simp; omega
        · rw [bytesL_b2s, e7]; omega
        · rw [bytesL_b2s, e7, ← he, h3]; simp
    · have hz : (bytesL u).count 32 = 0 := by omega
      rcases spl_ix (bytesL u) with ⟨h1, h2, h3⟩ | ⟨m, h1, h2, h3, h4⟩
      · refine ok.some ⟨j, d, rfl, hj, hd, rfl, ?_⟩
        rw [← he, h2]; simp [b2s_bytesL]
      · omega
  · exact ⟨0, [], rfl, Nat.zero_le _, rfl, by simp, Nat.le_refl _, by rw [hcd]; rfl, rfl⟩
  · simp; omega
  · rintro ⟨u, i, v⟩ ⟨j, d, rfl, hj, hd, hv, he⟩
    dsimp only at hv he ⊢
    subst hv
    unfold m_strings_genSplit_k1
    refine ok.eq (ixI_nat (n := j) (by simp; omega)) (ok.chk (by omega) ?_)
    rw [Int.toNat_natCast, set1 hd]
    refine ok.eq (subM_eq (by rw [List.length_append, List.length_append, hd]; show (0 : Int) ≤ 0 ∧ 0 ≤ (j : Int) + 1 ∧ (j : Int) + 1 ≤ ((j + 1 + _ : Nat) : Int); omega)) (ok.some ?_)
    rw [← he]
    have e9 : ((j : Int) + 1).toNat - (0 : Int).toNat = (d ++ [u]).length := by rw [List.length_append, hd]; show _ = j + 1; omega
    rw [e9]
    show List.take _ (List.drop 0 _) = _
    rw [List.drop_zero, List.take_left]
end
end V
end Go.Proofs.YtemmcidmcojjjaaGreatDoor
