/- What the rows need, part 4. No condition. -/
import Derived.Test.YtlpbgmahegoidaaQSpC
set_option linter.unusedVariables false
set_option linter.unusedSimpArgs false
namespace Go.Proofs.Ytlpbgmahegoidaa
namespace V
open Enc (enc)
set_option maxHeartbeats 4000000
set_option maxRecDepth 100000
open Go.RowKit
attribute [local irreducible] thA inA FinA eL
structure I_Pair where
  key : ByteArray
  row : Int
deriving DecidableEq
instance : Enc I_Pair := ⟨fun x => [.v (.string x.key), .v (.int .i64 x.row)], 2, fun _ => rfl⟩
instance : EncF I_Pair := ⟨fun _ c h => by simp [enc] at h; rcases h with h | h <;> exact ⟨_, h⟩⟩
def m_I_validRow_k1 (N : Nat) : Option (Bool) :=
  some true
def m_I_validRow_b1 (N : Nat) (p_row : (List I_Value)) (i2 : Int) : Option (Int ⊕ (Unit ⊕ Bool)) :=
  cond (decide (i2 < (p_row.length : Int)))
    ((ixI p_row i2).bind fun x17 =>
    (m_I_ValidValue N x17).bind fun r19 =>
    cond r19
      ((chk (i2 + (1 : Int))).bind fun n22 =>
      some (.inl n22))
      (some (.inr (.inr false))))
    (some (.inr (.inl ())))
def m_I_validRow (N : Nat) (p_row : (List I_Value)) : Option (Bool) :=
  cond (decide ((5 : Int) < (p_row.length : Int)))
    (some false)
    ((loopM (β := Unit ⊕ Bool) (fun s : Int => m_I_validRow_b1 N p_row s) N (0 : Int)).bind fun o => match o with
    | .inl e =>
      m_I_validRow_k1 N 
    | .inr v =>
      some v)
theorem w_I_validRow (N : Nat) (p_row : (List I_Value)) (r : Bool) (hh0 : m_I_validRow N p_row = some r) : FnX Try.prog 49 [] [sL p_row] (RE (bA r) []) := by
  unfold m_I_validRow at hh0; refine FnX.mk Try.func49 rfl rfl ?_; intro s hs; refine PC.seq ?_; refine PC.rg ?_; refine PL.aT rfl rfl ?_; refine PL.nn ?_; (iterate 2 refine PC.seq ?_); refine PC.rg ?_; refine PL.mT rfl rfl ?_; refine PL.op rfl (Rd.lenT rfl) ?_; refine PL.op rfl (Rd.gtr rfl rfl) ?_; refine PL.nn ?_; rcases cond_some hh0 with ⟨h_1, hh0⟩ | ⟨h_1, hh0⟩
  · refine PC.ct rfl h_1 ?_; refine PC.seq ?_; refine PC.rg ?_; refine PL.aT rfl rfl ?_; refine PL.nn ?_; refine PC.ret ?_; refine thA_r ?_; obtain rfl := some_in hh0; exact FinA.mk (r := bA false) (bl := []) [] (.inl rfl) rfl (rl := [.tmp 2]) (.tmp .nil) rfl rfl rfl (.t _) trivial ⟨rfl, rfl⟩
  refine PC.cf rfl h_1 ?_; refine PC.skip ?_; refine thA_n ?_; (iterate 2 refine PC.seq ?_); refine PC.rg ?_; refine PL.mT rfl rfl ?_; refine PL.op rfl (Rd.lenT rfl) ?_; refine PL.mT rfl rfl ?_; refine PL.nn ?_; obtain ⟨o11, h_12, hh0⟩ := bind_some hh0; refine PC.cutE hs (fun x : Unit => []) (fun x => []) (fun x => m_I_validRow_k1 N  = some r) ?_ ?_
  · refine PC.block ?_; refine PC.loop hs (fun x : Nat × (Int) => [(8, sL p_row), (9, iA (p_row.length : Int)), (10, iA x.2)]) (fun x => []) (fun x => loopM (β := Unit ⊕ Bool) (fun s : Int => m_I_validRow_b1 N p_row s) x.1 x.2 = some o11) (fun x => x.1) (N, (0 : Int)) [] ⟨rfl, rfl, trivial, ⟨.t _, .t _, .t _, trivial⟩⟩ h_12 ?_
    rintro ⟨f13_, i2⟩ h_15
    obtain ⟨f13, y14, rfl, hh1, kk1⟩ := loopM_some h_15
    replace hh1 : m_I_validRow_b1 N p_row i2 = some y14 := hh1
    unfold m_I_validRow_b1 at hh1; refine PC.seq ?_; refine PC.rg ?_; refine PL.op rfl (Rd.lss rfl rfl) ?_; refine PL.nn ?_; refine PC.seq ?_; rcases cond_some hh1 with ⟨h_16, hh1⟩ | ⟨h_16, hh1⟩; rotate_left
    · refine PC.cf rfl h_16 ?_; refine PC.exit ?_; (iterate 2 refine thA_e ?_); refine inA_eq rfl ?_; refine thA_n ?_; obtain rfl := some_in hh1; obtain rfl : (.inl () : Unit ⊕ Bool) = o11 := kk1; exact ⟨(), hh0, [], ⟨rfl, rfl, trivial, trivial⟩⟩
    refine PC.ct rfl h_16 ?_; refine PC.skip ?_; refine thA_n ?_; refine PC.seq ?_; refine PC.block ?_; refine PC.seq ?_; obtain ⟨x17, h_18, hh1⟩ := bind_some hh1; refine PC.rg ?_; refine PL.op rfl (Rd.ixM rfl rfl h_18) ?_; refine PL.op rfl (Rd.elMR rfl h_18 rfl rfl) ?_; refine PL.ef rfl (Ef.alloc rfl rfl) ?_; refine PL.nm (.op 0 0) [some ⟨.mx [iA (0 : Int), iA (0 : Int), sA ByteArray.empty], 42, 0⟩] rfl rfl ?_; refine PL.store rfl rfl rfl rfl rfl rfl rfl ?_; refine PL.nO [some ⟨.mx [iA x17.kind, iA x17.num, sA x17.text], 42, 0⟩] rfl ?_; refine PL.nn ?_; refine PC.seq ?_; obtain ⟨r19, h_20, hh1⟩ := bind_some hh1; refine PC.rg ?_; refine PL.op rfl (Rd.loadBox rfl rfl rfl) ?_; refine PL.callM false [] (w_I_ValidValue N x17 r19 h_20) rfl Try.call42 rfl ⟨.aggL ⟨.t _, .t _, .t _, trivial⟩, trivial⟩ rfl trivial (fun h => by cases h) ?_; refine PL.op rfl (Rd.unnot rfl) ?_; refine PL.nn ?_; rcases cond_some hh1 with ⟨h_21, hh1⟩ | ⟨h_21, hh1⟩
    · refine PC.cf rfl (not_t h_21) ?_; refine PC.skip ?_; refine inA_n ?_; refine thA_n ?_; obtain ⟨n22, h_23, hh1⟩ := bind_some hh1; refine PC.rg ?_; refine PL.op rfl (Rd.addM rfl rfl h_23) ?_; refine PL.mT rfl rfl ?_; refine PL.nil ?_; obtain rfl := some_in hh1; refine thA_n ?_; exact ⟨(f13, n22), Nat.lt_succ_self _, kk1, [], ⟨rfl, rfl, trivial, ⟨.t _, .t _, .t _, trivial⟩⟩⟩
    refine PC.ct rfl (not_f h_21) ?_; refine PC.seq ?_; refine PC.rg ?_; refine PL.aT rfl rfl ?_; refine PL.nn ?_; refine PC.ret ?_; refine inA_r ?_; (iterate 2 refine thA_r ?_); refine inA_r ?_; refine thA_r ?_; obtain rfl := some_in hh1; obtain rfl : (.inr false : Unit ⊕ Bool) = o11 := kk1; refine thA_r ?_; obtain rfl := some_in hh0; exact FinA.mk (r := bA false) (bl := []) [] (.inl rfl) rfl (rl := [.tmp 2]) (.tmp .nil) rfl rfl rfl (.t _) trivial ⟨rfl, rfl⟩
  clear hh0
  rintro ⟨⟩ hh0
  replace hh0 : m_I_validRow_k1 N  = some r := hh0
  unfold m_I_validRow_k1 at hh0; refine thA_n ?_; refine PC.seq ?_; refine PC.rg ?_; refine PL.aT rfl rfl ?_; refine PL.nn ?_; refine PC.ret ?_; obtain rfl := some_in hh0; exact FinA.mk (r := bA true) (bl := []) [] (.inl rfl) rfl (rl := [.tmp 2]) (.tmp .nil) rfl rfl rfl (.t _) trivial ⟨rfl, rfl⟩
def m_I_EncodeKey_k1 (N : Nat) (v49 : (List UInt8)) : Option (ByteArray) :=
  some (b2s v49)
def m_I_EncodeKey_b1 (N : Nat) (p_row : (List I_Value)) (i4 : Int) (v5 : (List UInt8)) : Option ((Int × (List UInt8)) ⊕ (List UInt8)) :=
  cond (decide (i4 < (p_row.length : Int)))
    ((ixI p_row i4).bind fun x56 =>
    cond (decide (x56.kind = (0 : Int)))
      ((appM 1 v5 [(97 : UInt8)]).bind fun xs59 =>
      (chk (i4 + (1 : Int))).bind fun n61 =>
      some (.inl (n61, xs59)))
      (cond (decide (x56.kind = (1 : Int)))
        ((chk (x56.num + (999999 : Int))).bind fun n64 =>
        (quoM n64 (200000 : Int)).bind fun n66 =>
        (chk ((48 : Int) + n66)).bind fun n68 =>
        (quoM n64 (4000 : Int)).bind fun n70 =>
        (remM n70 (50 : Int)).bind fun n72 =>
        (chk ((32 : Int) + n72)).bind fun n74 =>
        (quoM n64 (80 : Int)).bind fun n76 =>
        (remM n76 (50 : Int)).bind fun n78 =>
        (chk ((32 : Int) + n78)).bind fun n80 =>
        (remM n64 (80 : Int)).bind fun n82 =>
        (chk ((32 : Int) + n82)).bind fun n84 =>
        (appM 1 v5 [(98 : UInt8), (i2b n68), (i2b n74), (i2b n80), (i2b n84)]).bind fun xs86 =>
        (chk (i4 + (1 : Int))).bind fun n88 =>
        some (.inl (n88, xs86)))
        ((appM 1 v5 [(99 : UInt8)]).bind fun xs90 =>
        (appM 1 xs90 (bytesL x56.text)).bind fun xs92 =>
        (appM 1 xs92 [(1 : UInt8)]).bind fun xs94 =>
        (chk (i4 + (1 : Int))).bind fun n96 =>
        some (.inl (n96, xs94)))))
    (some (.inr v5))
def m_I_EncodeKey (N : Nat) (p_row : (List I_Value)) : Option (ByteArray) :=
  (m_I_validRow N p_row).bind fun r1 =>
  cond r1
    ((loopM (β := (List UInt8)) (fun s : Int × (List UInt8) => m_I_EncodeKey_b1 N p_row s.1 s.2) N ((0 : Int), ([] : List UInt8))).bind fun e =>
    m_I_EncodeKey_k1 N e)
    (some ByteArray.empty)
theorem w_I_EncodeKey (N : Nat) (p_row : (List I_Value)) (r : ByteArray) (hh0 : m_I_EncodeKey N p_row = some r) : FnX Try.prog 28 [] [sL p_row] (RE (sA r) []) := by
  unfold m_I_EncodeKey at hh0; refine FnX.mk Try.func28 rfl rfl ?_; intro s hs; refine PC.seq ?_; refine PC.rg ?_; refine PL.aT rfl rfl ?_; refine PL.nn ?_; (iterate 2 refine PC.seq ?_); obtain ⟨r1, h_2, hh0⟩ := bind_some hh0; refine PC.rg ?_; refine PL.mT rfl rfl ?_; refine PL.callM false [] (w_I_validRow N p_row r1 h_2) rfl Try.call49 rfl ⟨.t _, trivial⟩ rfl trivial (fun h => by cases h) ?_; refine PL.op rfl (Rd.unnot rfl) ?_; refine PL.nn ?_; rcases cond_some hh0 with ⟨h_3, hh0⟩ | ⟨h_3, hh0⟩; rotate_left
  · refine PC.ct rfl (not_f h_3) ?_; refine PC.seq ?_; refine PC.rg ?_; refine PL.aT rfl rfl ?_; refine PL.nn ?_; refine PC.ret ?_; refine thA_r ?_; obtain rfl := some_in hh0; exact FinA.mk (r := sA ByteArray.empty) (bl := []) [] (.inl rfl) rfl (rl := [.tmp 2]) (.tmp .nil) rfl rfl rfl (.t _) trivial ⟨rfl, rfl⟩
  refine PC.cf rfl (not_t h_3) ?_; refine PC.skip ?_; refine thA_n ?_; refine PC.seq ?_; refine PC.rg ?_; refine PL.aT rfl rfl ?_; refine PL.nn ?_; (iterate 2 refine PC.seq ?_); refine PC.rg ?_; refine PL.mT rfl rfl ?_; refine PL.op rfl (Rd.lenT rfl) ?_; refine PL.mT rfl rfl ?_; refine PL.nn ?_; obtain ⟨o50, h_51, hh0⟩ := bind_some hh0; refine PC.cutE hs (fun x : (List UInt8) => [(3, .os 0 0 x.length)]) (fun x => [⟨.tr (eL x), 5, 1⟩]) (fun x => m_I_EncodeKey_k1 N x = some r) ?_ ?_
  · refine PC.block ?_; refine PC.loop hs (fun x : Nat × (Int × (List UInt8)) => [(3, .os 0 0 x.2.2.length), (10, sL p_row), (11, iA (p_row.length : Int)), (12, iA x.2.1)]) (fun x => [⟨.tr (eL x.2.2), 5, 1⟩]) (fun x => loopM (β := (List UInt8)) (fun s : Int × (List UInt8) => m_I_EncodeKey_b1 N p_row s.1 s.2) x.1 x.2 = some o50) (fun x => x.1) (N, ((0 : Int), ([] : List UInt8))) [none] ⟨rfl, rfl, ⟨ow_nil _, trivial⟩, ⟨.osn rfl, .t _, .t _, .t _, trivial⟩⟩ h_51 ?_
    rintro ⟨f52_, i4, v5⟩ h_54
    obtain ⟨f52, y53, rfl, hh1, kk1⟩ := loopM_some h_54
    replace hh1 : m_I_EncodeKey_b1 N p_row i4 v5 = some y53 := hh1
    unfold m_I_EncodeKey_b1 at hh1; refine PC.seq ?_; refine PC.rg ?_; refine PL.op rfl (Rd.lss rfl rfl) ?_; refine PL.nn ?_; refine PC.seq ?_; rcases cond_some hh1 with ⟨h_55, hh1⟩ | ⟨h_55, hh1⟩; rotate_left
    · refine PC.cf rfl h_55 ?_; refine PC.exit ?_; (iterate 2 refine thA_e ?_); refine inA_eq rfl ?_; refine thA_n ?_; obtain rfl := some_in hh1; obtain rfl : (v5 : (List UInt8)) = o50 := kk1; exact ⟨v5, hh0, [some 0], ⟨rfl, rfl, ⟨⟨_, rfl, rfl, rfl, .tr _⟩, trivial⟩, ⟨.os rfl, trivial⟩⟩⟩
    refine PC.ct rfl h_55 ?_; refine PC.skip ?_; refine thA_n ?_; refine PC.seq ?_; refine PC.block ?_; refine PC.seq ?_; obtain ⟨x56, h_57, hh1⟩ := bind_some hh1; refine PC.rg ?_; refine PL.op rfl (Rd.ixM rfl rfl h_57) ?_; refine PL.op rfl (Rd.elMR rfl h_57 rfl rfl) ?_; refine PL.ef rfl (Ef.alloc rfl rfl) ?_; refine PL.nm (.op 1 0) [some ⟨.tr (eL v5), 5, 1⟩, some ⟨.mx [iA (0 : Int), iA (0 : Int), sA ByteArray.empty], 42, 0⟩] rfl rfl ?_; refine PL.store rfl rfl rfl rfl rfl rfl rfl ?_; refine PL.nO [some ⟨.tr (eL v5), 5, 1⟩, some ⟨.mx [iA x56.kind, iA x56.num, sA x56.text], 42, 0⟩] rfl ?_; refine PL.nn ?_; refine PC.seq ?_; refine PC.rg ?_; refine PL.op rfl (Rd.fieldO rfl rfl) ?_; refine PL.op rfl (Rd.loadO rfl rfl rfl) ?_; refine PL.nn ?_; refine PC.block ?_; refine PC.seq ?_; refine PC.rg ?_; refine PL.op rfl (Rd.eql rfl rfl) ?_; refine PL.aT rfl rfl ?_; refine PL.nn ?_; rcases cond_some hh1 with ⟨h_58, hh1⟩ | ⟨h_58, hh1⟩
    · refine PC.ct rfl h_58 ?_; obtain ⟨xs59, h_60, hh1⟩ := bind_some hh1; refine PC.rg ?_; refine PL.op rfl (Rd.moveO rfl) ?_; refine PL.ef rfl (Ef.litM (α := UInt8) [(97 : UInt8)] [_] rfl rfl (by decide) rfl rfl rfl rfl) ?_; refine PL.nm (.os 2 0 1) [some ⟨.tr (eL v5), 5, 1⟩, some ⟨.mx [iA x56.kind, iA x56.num, sA x56.text], 42, 0⟩, some ⟨.tr (eL [(97 : UInt8)]), 5, 1⟩] rfl rfl ?_; refine PL.apM hs rfl rfl rfl rfl (SrcA.ownE rfl rfl rfl) rfl rfl rfl rfl h_60 ?_; refine PL.nm (.os 3 0 xs59.length) [none, some ⟨.mx [iA x56.kind, iA x56.num, sA x56.text], 42, 0⟩, some ⟨.tr (eL [(97 : UInt8)]), 5, 1⟩, some ⟨.tr (eL xs59), 5, 1⟩] rfl rfl ?_; refine PL.op rfl (Rd.asnO rfl) ?_; refine PL.nil ?_; (iterate 2 refine inA_n ?_); refine thA_n ?_; obtain ⟨n61, h_62, hh1⟩ := bind_some hh1; refine PC.rg ?_; refine PL.op rfl (Rd.addM rfl rfl h_62) ?_; refine PL.mT rfl rfl ?_; refine PL.nil ?_; obtain rfl := some_in hh1; refine thA_n ?_; exact ⟨(f52, (n61, xs59)), Nat.lt_succ_self _, kk1, [some 3], ⟨rfl, rfl, ⟨⟨_, rfl, rfl, rfl, .tr _⟩, trivial⟩, ⟨.os rfl, .t _, .t _, .t _, trivial⟩⟩⟩
    refine PC.cf rfl h_58 ?_; refine PC.seq ?_; refine PC.rg ?_; refine PL.op rfl (Rd.eql rfl rfl) ?_; refine PL.aT rfl rfl ?_; refine PL.nn ?_; rcases cond_some hh1 with ⟨h_63, hh1⟩ | ⟨h_63, hh1⟩; rotate_left
    · refine PC.cf rfl h_63 ?_; refine PC.seq ?_; obtain ⟨xs90, h_91, hh1⟩ := bind_some hh1; refine PC.rg ?_; refine PL.op rfl (Rd.moveO rfl) ?_; refine PL.ef rfl (Ef.litM (α := UInt8) [(99 : UInt8)] [_] rfl rfl (by decide) rfl rfl rfl rfl) ?_; refine PL.nm (.os 2 0 1) [some ⟨.tr (eL v5), 5, 1⟩, some ⟨.mx [iA x56.kind, iA x56.num, sA x56.text], 42, 0⟩, some ⟨.tr (eL [(99 : UInt8)]), 5, 1⟩] rfl rfl ?_; refine PL.apM hs rfl rfl rfl rfl (SrcA.ownE rfl rfl rfl) rfl rfl rfl rfl h_91 ?_; refine PL.nm (.os 3 0 xs90.length) [none, some ⟨.mx [iA x56.kind, iA x56.num, sA x56.text], 42, 0⟩, some ⟨.tr (eL [(99 : UInt8)]), 5, 1⟩, some ⟨.tr (eL xs90), 5, 1⟩] rfl rfl ?_; refine PL.op rfl (Rd.asnO rfl) ?_; refine PL.nn ?_; refine PC.seq ?_; obtain ⟨xs92, h_93, hh1⟩ := bind_some hh1; refine PC.rg ?_; refine PL.op rfl (Rd.moveO rfl) ?_; refine PL.op rfl (Rd.fieldO rfl rfl) ?_; refine PL.op rfl (Rd.loadO rfl rfl rfl) ?_; refine PL.apS hs rfl rfl rfl rfl (by kernel_rfl) rfl rfl h_93 ?_; refine PL.nm (.os 4 0 xs92.length) [none, some ⟨.mx [iA x56.kind, iA x56.num, sA x56.text], 42, 0⟩, some ⟨.tr (eL [(99 : UInt8)]), 5, 1⟩, none, some ⟨.tr (eL xs92), 5, 1⟩] rfl rfl ?_; refine PL.op rfl (Rd.asnO rfl) ?_; refine PL.nn ?_; obtain ⟨xs94, h_95, hh1⟩ := bind_some hh1; refine PC.rg ?_; refine PL.op rfl (Rd.moveO rfl) ?_; refine PL.ef rfl (Ef.litM (α := UInt8) [(1 : UInt8)] [_] rfl rfl (by decide) rfl rfl rfl rfl) ?_; refine PL.nm (.os 5 0 1) [none, some ⟨.mx [iA x56.kind, iA x56.num, sA x56.text], 42, 0⟩, some ⟨.tr (eL [(99 : UInt8)]), 5, 1⟩, none, some ⟨.tr (eL xs92), 5, 1⟩, some ⟨.tr (eL [(1 : UInt8)]), 5, 1⟩] rfl rfl ?_; refine PL.apM hs rfl rfl rfl rfl (SrcA.ownE rfl rfl rfl) rfl rfl rfl rfl h_95 ?_; refine PL.nm (.os 6 0 xs94.length) [none, some ⟨.mx [iA x56.kind, iA x56.num, sA x56.text], 42, 0⟩, some ⟨.tr (eL [(99 : UInt8)]), 5, 1⟩, none, none, some ⟨.tr (eL [(1 : UInt8)]), 5, 1⟩, some ⟨.tr (eL xs94), 5, 1⟩] rfl rfl ?_; refine PL.op rfl (Rd.asnO rfl) ?_; refine PL.nil ?_; (iterate 2 refine inA_n ?_); refine thA_n ?_; obtain ⟨n96, h_97, hh1⟩ := bind_some hh1; refine PC.rg ?_; refine PL.op rfl (Rd.addM rfl rfl h_97) ?_; refine PL.mT rfl rfl ?_; refine PL.nil ?_; obtain rfl := some_in hh1; refine thA_n ?_; exact ⟨(f52, (n96, xs94)), Nat.lt_succ_self _, kk1, [some 6], ⟨rfl, rfl, ⟨⟨_, rfl, rfl, rfl, .tr _⟩, trivial⟩, ⟨.os rfl, .t _, .t _, .t _, trivial⟩⟩⟩
    refine PC.ct rfl h_63 ?_; refine PC.seq ?_; obtain ⟨n64, h_65, hh1⟩ := bind_some hh1; refine PC.rg ?_; refine PL.op rfl (Rd.fieldO rfl rfl) ?_; refine PL.op rfl (Rd.loadO rfl rfl rfl) ?_; refine PL.op rfl (Rd.addM rfl rfl h_65) ?_; refine PL.aT rfl rfl ?_; refine PL.nn ?_; obtain ⟨n66, h_67, hh1⟩ := bind_some hh1; obtain ⟨n68, h_69, hh1⟩ := bind_some hh1; obtain ⟨n70, h_71, hh1⟩ := bind_some hh1; obtain ⟨n72, h_73, hh1⟩ := bind_some hh1; obtain ⟨n74, h_75, hh1⟩ := bind_some hh1; obtain ⟨n76, h_77, hh1⟩ := bind_some hh1; obtain ⟨n78, h_79, hh1⟩ := bind_some hh1; obtain ⟨n80, h_81, hh1⟩ := bind_some hh1; obtain ⟨n82, h_83, hh1⟩ := bind_some hh1; obtain ⟨n84, h_85, hh1⟩ := bind_some hh1; obtain ⟨xs86, h_87, hh1⟩ := bind_some hh1; refine PC.rg ?_; refine PL.op rfl (Rd.moveO rfl) ?_; refine PL.mT rfl rfl ?_; refine PL.op rfl (Rd.quoM rfl rfl h_67) ?_; refine PL.op rfl (Rd.addM rfl rfl h_69) ?_; refine PL.op rfl (Rd.toU8 rfl) ?_; refine PL.mT rfl rfl ?_; refine PL.op rfl (Rd.quoM rfl rfl h_71) ?_; refine PL.op rfl (Rd.remM rfl rfl h_73) ?_; refine PL.op rfl (Rd.addM rfl rfl h_75) ?_; refine PL.op rfl (Rd.toU8 rfl) ?_; refine PL.mT rfl rfl ?_; refine PL.op rfl (Rd.quoM rfl rfl h_77) ?_; refine PL.op rfl (Rd.remM rfl rfl h_79) ?_; refine PL.op rfl (Rd.addM rfl rfl h_81) ?_; refine PL.op rfl (Rd.toU8 rfl) ?_; refine PL.mT rfl rfl ?_; refine PL.op rfl (Rd.remM rfl rfl h_83) ?_; refine PL.op rfl (Rd.addM rfl rfl h_85) ?_; refine PL.op rfl (Rd.toU8 rfl) ?_; refine PL.ef rfl (Ef.litM (α := UInt8) [(98 : UInt8), (i2b n68), (i2b n74), (i2b n80), (i2b n84)] [_, _, _, _, _] rfl rfl (by decide) rfl rfl rfl rfl) ?_; refine PL.nm (.os 2 0 5) [some ⟨.tr (eL v5), 5, 1⟩, some ⟨.mx [iA x56.kind, iA x56.num, sA x56.text], 42, 0⟩, some ⟨.tr (eL [(98 : UInt8), (i2b n68), (i2b n74), (i2b n80), (i2b n84)]), 5, 1⟩] rfl rfl ?_; refine PL.apM hs rfl rfl rfl rfl (SrcA.ownE rfl rfl rfl) rfl rfl rfl rfl h_87 ?_; refine PL.nm (.os 3 0 xs86.length) [none, some ⟨.mx [iA x56.kind, iA x56.num, sA x56.text], 42, 0⟩, some ⟨.tr (eL [(98 : UInt8), (i2b n68), (i2b n74), (i2b n80), (i2b n84)]), 5, 1⟩, some ⟨.tr (eL xs86), 5, 1⟩] rfl rfl ?_; refine PL.op rfl (Rd.asnO rfl) ?_; refine PL.nil ?_; (iterate 2 refine inA_n ?_); refine thA_n ?_; obtain ⟨n88, h_89, hh1⟩ := bind_some hh1; refine PC.rg ?_; refine PL.op rfl (Rd.addM rfl rfl h_89) ?_; refine PL.mT rfl rfl ?_; refine PL.nil ?_; obtain rfl := some_in hh1; refine thA_n ?_; exact ⟨(f52, (n88, xs86)), Nat.lt_succ_self _, kk1, [some 3], ⟨rfl, rfl, ⟨⟨_, rfl, rfl, rfl, .tr _⟩, trivial⟩, ⟨.os rfl, .t _, .t _, .t _, trivial⟩⟩⟩
  clear hh0
  rintro v49 hh0
  replace hh0 : m_I_EncodeKey_k1 N v49 = some r := hh0
  unfold m_I_EncodeKey_k1 at hh0; refine thA_n ?_; refine PC.seq ?_; refine PC.rg ?_; refine PL.op rfl (Rd.moveO rfl) ?_; refine PL.op rfl (Rd.b2sO rfl rfl rfl) ?_; refine PL.aT rfl rfl ?_; refine PL.nn ?_; refine PC.ret ?_; obtain rfl := some_in hh0; exact FinA.mk (r := sA (b2s v49)) (bl := []) [] (.inl rfl) rfl (rl := [.tmp 2]) (.tmp .nil) rfl rfl rfl (.t _) trivial ⟨rfl, rfl⟩
def m_S_width (N : Nat) (p_t : I_Table) : Option (Int) :=
  (m_S_formats N p_t.first p_t.changes).bind fun r1 =>
  (ixI r1.1 (p_t.changes.length : Int)).bind fun x3 =>
  some (x3.length : Int)
theorem w_S_width (N : Nat) (p_t : I_Table) (r : Int) (hh0 : m_S_width N p_t = some r) : FnX Try.prog 66 [] [.agg [sL p_t.first, sL p_t.changes, sL p_t.rows]] (RE (iA r) []) := by
  unfold m_S_width at hh0; refine FnX.mk Try.func66 rfl rfl ?_; intro s hs; refine PC.seq ?_; refine PC.rg ?_; refine PL.ef rfl (Ef.box rfl rfl rfl) ?_; refine PL.nm (.op 0 0) [some ⟨.mx [sL p_t.first, sL p_t.changes, sL p_t.rows], 79, 0⟩] rfl rfl ?_; refine PL.aT rfl rfl ?_; refine PL.nn ?_; refine PC.seq ?_; obtain ⟨r1, h_2, hh0⟩ := bind_some hh0; refine PC.rg ?_; refine PL.op rfl (Rd.fieldO rfl rfl) ?_; refine PL.op rfl (Rd.loadO rfl rfl rfl) ?_; refine PL.op rfl (Rd.fieldO rfl rfl) ?_; refine PL.op rfl (Rd.loadO rfl rfl rfl) ?_; refine PL.callM false [] (w_S_formats N p_t.first p_t.changes r1 h_2) rfl Try.call82 rfl ⟨.t _, .t _, trivial⟩ rfl trivial (fun h => by cases h) ?_; refine PL.nm (.tup [.os 1 0 r1.1.length, bA r1.2]) [some ⟨.mx [sL p_t.first, sL p_t.changes, sL p_t.rows], 79, 0⟩, some ⟨.tr (eL r1.1), 75, 1⟩] rfl rfl ?_; refine PL.op rfl (Rd.moveU rfl) ?_; (iterate 2 refine PL.op rfl (Rd.extract rfl rfl) ?_); refine PL.op rfl (Rd.asnO rfl) ?_; refine PL.aT rfl rfl ?_; refine PL.nn ?_; refine PC.seq ?_; obtain ⟨x3, h_4, hh0⟩ := bind_some hh0; refine PC.rg ?_; refine PL.op rfl (Rd.moveO rfl) ?_; refine PL.op rfl (Rd.fieldO rfl rfl) ?_; refine PL.op rfl (Rd.loadO rfl rfl rfl) ?_; refine PL.op rfl (Rd.lenT rfl) ?_; refine PL.op rfl (Rd.ixOM rfl rfl rfl (ixI_lt h_4)) ?_; refine PL.op rfl (Rd.owM1 rfl rfl h_4 rfl rfl) ?_; refine PL.op rfl (Rd.lenT rfl) ?_; refine PL.aT rfl rfl ?_; refine PL.nn ?_; refine PC.ret ?_; obtain rfl := some_in hh0; exact FinA.mk (r := iA (x3.length : Int)) (bl := []) [] (.inl rfl) rfl (rl := [.tmp 2]) (.tmp .nil) rfl rfl rfl (.t _) trivial ⟨rfl, rfl⟩
def m_S_encodeNum (N : Nat) (p_n : Int) : Option (ByteArray) :=
  (chk (p_n + (999999 : Int))).bind fun n1 =>
  (quoM n1 (200000 : Int)).bind fun n3 =>
  (chk ((48 : Int) + n3)).bind fun n5 =>
  (quoM n1 (4000 : Int)).bind fun n7 =>
  (remM n7 (50 : Int)).bind fun n9 =>
  (chk ((32 : Int) + n9)).bind fun n11 =>
  (quoM n1 (80 : Int)).bind fun n13 =>
  (remM n13 (50 : Int)).bind fun n15 =>
  (chk ((32 : Int) + n15)).bind fun n17 =>
  (remM n1 (80 : Int)).bind fun n19 =>
  (chk ((32 : Int) + n19)).bind fun n21 =>
  some (b2s [(i2b n5), (i2b n11), (i2b n17), (i2b n21)])
theorem w_S_encodeNum (N : Nat) (p_n : Int) (r : ByteArray) (hh0 : m_S_encodeNum N p_n = some r) : FnX Try.prog 57 [] [iA p_n] (RE (sA r) []) := by
  unfold m_S_encodeNum at hh0; refine FnX.mk Try.func57 rfl rfl ?_; intro s hs; refine PC.seq ?_; refine PC.rg ?_; refine PL.aT rfl rfl ?_; refine PL.nn ?_; refine PC.seq ?_; obtain ⟨n1, h_2, hh0⟩ := bind_some hh0; refine PC.rg ?_; refine PL.mT rfl rfl ?_; refine PL.op rfl (Rd.addM rfl rfl h_2) ?_; refine PL.aT rfl rfl ?_; refine PL.nn ?_; refine PC.seq ?_; obtain ⟨n3, h_4, hh0⟩ := bind_some hh0; obtain ⟨n5, h_6, hh0⟩ := bind_some hh0; obtain ⟨n7, h_8, hh0⟩ := bind_some hh0; obtain ⟨n9, h_10, hh0⟩ := bind_some hh0; obtain ⟨n11, h_12, hh0⟩ := bind_some hh0; obtain ⟨n13, h_14, hh0⟩ := bind_some hh0; obtain ⟨n15, h_16, hh0⟩ := bind_some hh0; obtain ⟨n17, h_18, hh0⟩ := bind_some hh0; obtain ⟨n19, h_20, hh0⟩ := bind_some hh0; obtain ⟨n21, h_22, hh0⟩ := bind_some hh0; refine PC.rg ?_; refine PL.mT rfl rfl ?_; refine PL.op rfl (Rd.quoM rfl rfl h_4) ?_; refine PL.op rfl (Rd.addM rfl rfl h_6) ?_; refine PL.op rfl (Rd.toU8 rfl) ?_; refine PL.mT rfl rfl ?_; refine PL.op rfl (Rd.quoM rfl rfl h_8) ?_; refine PL.op rfl (Rd.remM rfl rfl h_10) ?_; refine PL.op rfl (Rd.addM rfl rfl h_12) ?_; refine PL.op rfl (Rd.toU8 rfl) ?_; refine PL.mT rfl rfl ?_; refine PL.op rfl (Rd.quoM rfl rfl h_14) ?_; refine PL.op rfl (Rd.remM rfl rfl h_16) ?_; refine PL.op rfl (Rd.addM rfl rfl h_18) ?_; refine PL.op rfl (Rd.toU8 rfl) ?_; refine PL.mT rfl rfl ?_; refine PL.op rfl (Rd.remM rfl rfl h_20) ?_; refine PL.op rfl (Rd.addM rfl rfl h_22) ?_; refine PL.op rfl (Rd.toU8 rfl) ?_; refine PL.ef rfl (Ef.litM (α := UInt8) [(i2b n5), (i2b n11), (i2b n17), (i2b n21)] [_, _, _, _] rfl rfl (by decide) rfl rfl rfl rfl) ?_; refine PL.nm (.os 0 0 4) [some ⟨.tr (eL [(i2b n5), (i2b n11), (i2b n17), (i2b n21)]), 5, 1⟩] rfl rfl ?_; refine PL.op rfl (Rd.b2sO rfl rfl rfl) ?_; refine PL.aT rfl rfl ?_; refine PL.nn ?_; refine PC.ret ?_; obtain rfl := some_in hh0; exact FinA.mk (r := sA (b2s [(i2b n5), (i2b n11), (i2b n17), (i2b n21)])) (bl := []) [] (.inl rfl) rfl (rl := [.tmp 2]) (.tmp .nil) rfl rfl rfl (.t _) trivial ⟨rfl, rfl⟩
def m_S_encodeKey_k1 (N : Nat) (i35 : ByteArray) : Option (ByteArray) :=
  some i35
def m_S_encodeKey_b1 (N : Nat) (p_row : (List I_Value)) (i1 : ByteArray) (i2 : Int) : Option ((ByteArray × Int) ⊕ ByteArray) :=
  cond (decide (i2 < (p_row.length : Int)))
    ((ixI p_row i2).bind fun x42 =>
    cond (decide (x42.kind = (0 : Int)))
      ((addS i1 (ByteArray.mk #[97])).bind fun s45 =>
      (chk (i2 + (1 : Int))).bind fun n47 =>
      some (.inl (s45, n47)))
      (cond (decide (x42.kind = (1 : Int)))
        ((addS i1 (ByteArray.mk #[98])).bind fun s50 =>
        (ixI p_row i2).bind fun x52 =>
        (m_S_encodeNum N x52.num).bind fun r54 =>
        (addS s50 r54).bind fun s56 =>
        (chk (i2 + (1 : Int))).bind fun n58 =>
        some (.inl (s56, n58)))
        (cond (decide (x42.kind = (2 : Int)))
          ((addS i1 (ByteArray.mk #[99])).bind fun s61 =>
          (ixI p_row i2).bind fun x63 =>
          (addS s61 x63.text).bind fun s65 =>
          (addS s65 (ByteArray.mk #[1])).bind fun s67 =>
          (chk (i2 + (1 : Int))).bind fun n69 =>
          some (.inl (s67, n69)))
          ((chk (i2 + (1 : Int))).bind fun n71 =>
          some (.inl (i1, n71))))))
    (some (.inr i1))
def m_S_encodeKey (N : Nat) (p_row : (List I_Value)) : Option (ByteArray) :=
  (loopM (β := ByteArray) (fun s : ByteArray × Int => m_S_encodeKey_b1 N p_row s.1 s.2) N (ByteArray.empty, (0 : Int))).bind fun e =>
  m_S_encodeKey_k1 N e
theorem w_S_encodeKey (N : Nat) (p_row : (List I_Value)) (r : ByteArray) (hh0 : m_S_encodeKey N p_row = some r) : FnX Try.prog 39 [] [sL p_row] (RE (sA r) []) := by
  unfold m_S_encodeKey at hh0; refine FnX.mk Try.func39 rfl rfl ?_; intro s hs; refine PC.seq ?_; refine PC.rg ?_; refine PL.aT rfl rfl ?_; refine PL.nn ?_; refine PC.seq ?_; refine PC.rg ?_; refine PL.aT rfl rfl ?_; refine PL.nn ?_; (iterate 2 refine PC.seq ?_); refine PC.rg ?_; refine PL.aT rfl rfl ?_; refine PL.nn ?_; obtain ⟨o36, h_37, hh0⟩ := bind_some hh0; refine PC.cutE hs (fun x : ByteArray => [(3, sA x)]) (fun x => []) (fun x => m_S_encodeKey_k1 N x = some r) ?_ ?_
  · refine PC.block ?_; refine PC.loop hs (fun x : Nat × (ByteArray × Int) => [(0, sL p_row), (3, sA x.2.1), (4, iA x.2.2)]) (fun x => []) (fun x => loopM (β := ByteArray) (fun s : ByteArray × Int => m_S_encodeKey_b1 N p_row s.1 s.2) x.1 x.2 = some o36) (fun x => x.1) (N, (ByteArray.empty, (0 : Int))) [] ⟨rfl, rfl, trivial, ⟨.t _, .t _, .t _, trivial⟩⟩ h_37 ?_
    rintro ⟨f38_, i1, i2⟩ h_40
    obtain ⟨f38, y39, rfl, hh1, kk1⟩ := loopM_some h_40
    replace hh1 : m_S_encodeKey_b1 N p_row i1 i2 = some y39 := hh1
    unfold m_S_encodeKey_b1 at hh1; (iterate 2 refine PC.seq ?_); refine PC.rg ?_; (iterate 2 refine PL.mT rfl rfl ?_); refine PL.op rfl (Rd.lenT rfl) ?_; refine PL.op rfl (Rd.lss rfl rfl) ?_; refine PL.nn ?_; rcases cond_some hh1 with ⟨h_41, hh1⟩ | ⟨h_41, hh1⟩; rotate_left
    · refine PC.cf rfl h_41 ?_; refine PC.exit ?_; (iterate 2 refine thA_e ?_); refine inA_eq rfl ?_; refine thA_n ?_; obtain rfl := some_in hh1; obtain rfl : (i1 : ByteArray) = o36 := kk1; exact ⟨i1, hh0, [], ⟨rfl, rfl, trivial, ⟨.t _, trivial⟩⟩⟩
    refine PC.ct rfl h_41 ?_; refine PC.skip ?_; refine thA_n ?_; refine PC.seq ?_; refine PC.block ?_; refine PC.seq ?_; obtain ⟨x42, h_43, hh1⟩ := bind_some hh1; refine PC.rg ?_; (iterate 2 refine PL.mT rfl rfl ?_); refine PL.op rfl (Rd.ixM rfl rfl h_43) ?_; refine PL.op rfl (Rd.fieldT rfl) ?_; refine PL.op rfl (Rd.elMF (f := 0) rfl h_43 rfl rfl) ?_; refine PL.nn ?_; refine PC.block ?_; refine PC.seq ?_; refine PC.rg ?_; refine PL.op rfl (Rd.eql rfl rfl) ?_; refine PL.aT rfl rfl ?_; refine PL.nn ?_; rcases cond_some hh1 with ⟨h_44, hh1⟩ | ⟨h_44, hh1⟩
    · refine PC.ct rfl h_44 ?_; obtain ⟨s45, h_46, hh1⟩ := bind_some hh1; refine PC.rg ?_; refine PL.mT rfl rfl ?_; refine PL.op rfl (Rd.addSM rfl rfl h_46) ?_; refine PL.aT rfl rfl ?_; refine PL.nil ?_; (iterate 2 refine inA_n ?_); refine thA_n ?_; obtain ⟨n47, h_48, hh1⟩ := bind_some hh1; refine PC.rg ?_; refine PL.mT rfl rfl ?_; refine PL.op rfl (Rd.addM rfl rfl h_48) ?_; refine PL.aT rfl rfl ?_; refine PL.nil ?_; obtain rfl := some_in hh1; refine thA_n ?_; exact ⟨(f38, (s45, n47)), Nat.lt_succ_self _, kk1, [], ⟨rfl, rfl, trivial, ⟨.t _, .t _, .t _, trivial⟩⟩⟩
    refine PC.cf rfl h_44 ?_; refine PC.seq ?_; refine PC.rg ?_; refine PL.op rfl (Rd.eql rfl rfl) ?_; refine PL.aT rfl rfl ?_; refine PL.nn ?_; rcases cond_some hh1 with ⟨h_49, hh1⟩ | ⟨h_49, hh1⟩
    · refine PC.ct rfl h_49 ?_; obtain ⟨s50, h_51, hh1⟩ := bind_some hh1; obtain ⟨x52, h_53, hh1⟩ := bind_some hh1; obtain ⟨r54, h_55, hh1⟩ := bind_some hh1; obtain ⟨s56, h_57, hh1⟩ := bind_some hh1; refine PC.rg ?_; refine PL.mT rfl rfl ?_; refine PL.op rfl (Rd.addSM rfl rfl h_51) ?_; (iterate 2 refine PL.mT rfl rfl ?_); refine PL.op rfl (Rd.ixM rfl rfl h_53) ?_; refine PL.op rfl (Rd.fieldT rfl) ?_; refine PL.op rfl (Rd.elMF (f := 1) rfl h_53 rfl rfl) ?_; refine PL.callM false [] (w_S_encodeNum N x52.num r54 h_55) rfl Try.call57 rfl ⟨.t _, trivial⟩ rfl trivial (fun h => by cases h) ?_; refine PL.op rfl (Rd.addSM rfl rfl h_57) ?_; refine PL.aT rfl rfl ?_; refine PL.nil ?_; (iterate 2 refine inA_n ?_); refine thA_n ?_; obtain ⟨n58, h_59, hh1⟩ := bind_some hh1; refine PC.rg ?_; refine PL.mT rfl rfl ?_; refine PL.op rfl (Rd.addM rfl rfl h_59) ?_; refine PL.aT rfl rfl ?_; refine PL.nil ?_; obtain rfl := some_in hh1; refine thA_n ?_; exact ⟨(f38, (s56, n58)), Nat.lt_succ_self _, kk1, [], ⟨rfl, rfl, trivial, ⟨.t _, .t _, .t _, trivial⟩⟩⟩
    refine PC.cf rfl h_49 ?_; refine PC.seq ?_; refine PC.rg ?_; refine PL.op rfl (Rd.eql rfl rfl) ?_; refine PL.aT rfl rfl ?_; refine PL.nn ?_; rcases cond_some hh1 with ⟨h_60, hh1⟩ | ⟨h_60, hh1⟩; rotate_left
    · refine PC.cf rfl h_60 ?_; refine PC.skip ?_; (iterate 2 refine inA_n ?_); refine thA_n ?_; obtain ⟨n71, h_72, hh1⟩ := bind_some hh1; refine PC.rg ?_; refine PL.mT rfl rfl ?_; refine PL.op rfl (Rd.addM rfl rfl h_72) ?_; refine PL.aT rfl rfl ?_; refine PL.nil ?_; obtain rfl := some_in hh1; refine thA_n ?_; exact ⟨(f38, (i1, n71)), Nat.lt_succ_self _, kk1, [], ⟨rfl, rfl, trivial, ⟨.t _, .t _, .t _, trivial⟩⟩⟩
    refine PC.ct rfl h_60 ?_; obtain ⟨s61, h_62, hh1⟩ := bind_some hh1; obtain ⟨x63, h_64, hh1⟩ := bind_some hh1; obtain ⟨s65, h_66, hh1⟩ := bind_some hh1; obtain ⟨s67, h_68, hh1⟩ := bind_some hh1; refine PC.rg ?_; refine PL.mT rfl rfl ?_; refine PL.op rfl (Rd.addSM rfl rfl h_62) ?_; (iterate 2 refine PL.mT rfl rfl ?_); refine PL.op rfl (Rd.ixM rfl rfl h_64) ?_; refine PL.op rfl (Rd.fieldT rfl) ?_; refine PL.op rfl (Rd.elMF (f := 2) rfl h_64 rfl rfl) ?_; refine PL.op rfl (Rd.addSM rfl rfl h_66) ?_; refine PL.op rfl (Rd.addSM rfl rfl h_68) ?_; refine PL.aT rfl rfl ?_; refine PL.nil ?_; (iterate 2 refine inA_n ?_); refine thA_n ?_; obtain ⟨n69, h_70, hh1⟩ := bind_some hh1; refine PC.rg ?_; refine PL.mT rfl rfl ?_; refine PL.op rfl (Rd.addM rfl rfl h_70) ?_; refine PL.aT rfl rfl ?_; refine PL.nil ?_; obtain rfl := some_in hh1; refine thA_n ?_; exact ⟨(f38, (s67, n69)), Nat.lt_succ_self _, kk1, [], ⟨rfl, rfl, trivial, ⟨.t _, .t _, .t _, trivial⟩⟩⟩
  clear hh0
  rintro i35 hh0
  replace hh0 : m_S_encodeKey_k1 N i35 = some r := hh0
  unfold m_S_encodeKey_k1 at hh0; refine thA_n ?_; refine PC.seq ?_; refine PC.rg ?_; refine PL.mT rfl rfl ?_; refine PL.aT rfl rfl ?_; refine PL.nn ?_; refine PC.ret ?_; obtain rfl := some_in hh0; exact FinA.mk (r := sA i35) (bl := []) [] (.inl rfl) rfl (rl := [.tmp 2]) (.tmp .nil) rfl rfl rfl (.t _) trivial ⟨rfl, rfl⟩
def m_S_pairs_k2 (N : Nat) (v60 : (List I_Pair)) : Option ((List I_Pair)) :=
  some v60
def m_S_pairs_k3 (N : Nat) (x3 : Int) (v95 : (List I_Pair)) : Option ((Int × (List I_Pair)) ⊕ (List I_Pair)) :=
  (chk (x3 + (1 : Int))).bind fun n101 =>
  some (.inl (n101, v95))
def m_S_pairs_b3 (N : Nat) (i75 : Int) (v76 : (List I_Pair)) : Option ((Int × (List I_Pair)) ⊕ (List I_Pair)) :=
  cond (decide ((0 : Int) < i75))
    ((ixI v76 i75).bind fun x104 =>
    (chk (i75 - (1 : Int))).bind fun n106 =>
    (ixI v76 n106).bind fun x108 =>
    cond (Op.bytesLess x104.key.toList x108.key.toList)
      ((chk (i75 - (1 : Int))).bind fun n111 =>
      (ixI v76 n111).bind fun x113 =>
      (chk (i75 - (1 : Int))).bind fun n115 =>
      (ixI (v76.set i75.toNat x113) n115).bind fun x117 =>
      (chk (i75 - (1 : Int))).bind fun n119 =>
      some (.inl (n119, ((v76.set i75.toNat x113).set n115.toNat x104))))
      (some (.inr v76)))
    (some (.inr v76))
def m_S_pairs_b2 (N : Nat) (p_column : Int) (r1 : ((List (List I_Value)))) (x3 : Int) (v4 : (List I_Pair)) : Option ((Int × (List I_Pair)) ⊕ (List I_Pair)) :=
  cond (decide (x3 < (r1.length : Int)))
    ((ixI r1 x3).bind fun x67 =>
    (ixI x67 p_column).bind fun x69 =>
    (m_S_encodeKey N [x69]).bind fun r71 =>
    (appM 24 v4 [(I_Pair.mk r71 x3)]).bind fun xs73 =>
    (loopM (β := (List I_Pair)) (fun s : Int × (List I_Pair) => m_S_pairs_b3 N s.1 s.2) N (x3, xs73)).bind fun e =>
    m_S_pairs_k3 N x3 e)
    (some (.inr v4))
def m_S_pairs (N : Nat) (p_t : I_Table) (p_column : Int) : Option ((List I_Pair)) :=
  (m_S_latest N p_t).bind fun r1 =>
  (loopM (β := (List I_Pair)) (fun s : Int × (List I_Pair) => m_S_pairs_b2 N p_column r1 s.1 s.2) N ((0 : Int), ([] : List I_Pair))).bind fun e =>
  m_S_pairs_k2 N e
theorem w_S_pairs (N : Nat) (p_t : I_Table) (p_column : Int) (r : (List I_Pair)) (hh0 : m_S_pairs N p_t p_column = some r) : FnX Try.prog 67 [] [.agg [sL p_t.first, sL p_t.changes, sL p_t.rows], iA p_column] (RE (.os 0 0 r.length) [⟨.tr (eL r), 55, 2⟩]) := by
  unfold m_S_pairs at hh0; refine FnX.mk Try.func67 rfl rfl ?_; intro s hs; refine PC.seq ?_; refine PC.rg ?_; refine PL.ef rfl (Ef.box rfl rfl rfl) ?_; refine PL.nm (.op 0 0) [some ⟨.mx [sL p_t.first, sL p_t.changes, sL p_t.rows], 79, 0⟩] rfl rfl ?_; refine PL.aT rfl rfl ?_; refine PL.nn ?_; refine PC.seq ?_; refine PC.rg ?_; refine PL.ef rfl (Ef.lit0M I_Pair) ?_; refine PL.nm (.os 1 0 0) [some ⟨.mx [sL p_t.first, sL p_t.changes, sL p_t.rows], 79, 0⟩, some ⟨.tr (eL ([] : List I_Pair)), 55, 2⟩] rfl rfl ?_; refine PL.op rfl (Rd.asnO rfl) ?_; refine PL.nn ?_; refine PC.seq ?_; obtain ⟨r1, h_2, hh0⟩ := bind_some hh0; refine PC.rg ?_; refine PL.op rfl (Rd.loadBox rfl rfl rfl) ?_; refine PL.callM false [] (w_S_latest N p_t r1 h_2) rfl Try.call90 rfl ⟨.aggL ⟨.t _, .t _, .t _, trivial⟩, trivial⟩ rfl trivial (fun h => by cases h) ?_; refine PL.nm (.os 2 0 r1.length) [some ⟨.mx [sL p_t.first, sL p_t.changes, sL p_t.rows], 79, 0⟩, some ⟨.tr (eL ([] : List I_Pair)), 55, 2⟩, some ⟨.tr (eL r1), 53, 1⟩] rfl rfl ?_; refine PL.op rfl (Rd.asnO rfl) ?_; refine PL.nn ?_; (iterate 2 refine PC.seq ?_); refine PC.rg ?_; refine PL.aT rfl rfl ?_; refine PL.nn ?_; obtain ⟨o61, h_62, hh0⟩ := bind_some hh0; refine PC.cutE hs (fun x : (List I_Pair) => [(5, .os 0 0 x.length)]) (fun x => [⟨.tr (eL x), 55, 2⟩]) (fun x => m_S_pairs_k2 N x = some r) ?_ ?_
  · refine PC.block ?_; refine PC.loop hs (fun x : Nat × (Int × (List I_Pair)) => [(1, iA p_column), (5, .os 0 0 x.2.2.length), (6, .os 1 0 r1.length), (7, iA x.2.1)]) (fun x => [⟨.tr (eL x.2.2), 55, 2⟩, ⟨.tr (eL r1), 53, 1⟩]) (fun x => loopM (β := (List I_Pair)) (fun s : Int × (List I_Pair) => m_S_pairs_b2 N p_column r1 s.1 s.2) x.1 x.2 = some o61) (fun x => x.1) (N, ((0 : Int), ([] : List I_Pair))) [some 1, some 2] ⟨rfl, rfl, ⟨⟨_, rfl, rfl, rfl, .tr _⟩, ⟨_, rfl, rfl, rfl, .tr _⟩, trivial⟩, ⟨.t _, .os rfl, .os rfl, .t _, trivial⟩⟩ h_62 ?_
    rintro ⟨f63_, x3, v4⟩ h_65
    obtain ⟨f63, y64, rfl, hh1, kk1⟩ := loopM_some h_65
    replace hh1 : m_S_pairs_b2 N p_column r1 x3 v4 = some y64 := hh1
    unfold m_S_pairs_b2 at hh1; (iterate 2 refine PC.seq ?_); refine PC.rg ?_; refine PL.mT rfl rfl ?_; refine PL.op rfl (Rd.moveO rfl) ?_; refine PL.op rfl (Rd.lenO rfl rfl) ?_; refine PL.op rfl (Rd.lss rfl rfl) ?_; refine PL.nn ?_; rcases cond_some hh1 with ⟨h_66, hh1⟩ | ⟨h_66, hh1⟩; rotate_left
    · refine PC.cf rfl h_66 ?_; refine PC.exit ?_; (iterate 2 refine thA_e ?_); refine inA_eq rfl ?_; refine thA_n ?_; obtain rfl := some_in hh1; obtain rfl : (v4 : (List I_Pair)) = o61 := kk1; exact ⟨v4, hh0, [some 0], ⟨rfl, rfl, ⟨⟨_, rfl, rfl, rfl, .tr _⟩, trivial⟩, ⟨.os rfl, trivial⟩⟩⟩
    refine PC.ct rfl h_66 ?_; refine PC.skip ?_; refine thA_n ?_; refine PC.seq ?_; refine PC.block ?_; refine PC.seq ?_; obtain ⟨x67, h_68, hh1⟩ := bind_some hh1; obtain ⟨x69, h_70, hh1⟩ := bind_some hh1; obtain ⟨r71, h_72, hh1⟩ := bind_some hh1; obtain ⟨xs73, h_74, hh1⟩ := bind_some hh1; refine PC.rg ?_; (iterate 2 refine PL.op rfl (Rd.moveO rfl) ?_); refine PL.mT rfl rfl ?_; refine PL.op rfl (Rd.ixOM rfl rfl rfl (ixI_lt h_68)) ?_; refine PL.op rfl (Rd.owM1 rfl rfl h_68 rfl rfl) ?_; refine PL.mT rfl rfl ?_; refine PL.op rfl (Rd.ixM rfl rfl h_70) ?_; refine PL.op rfl (Rd.elMR rfl h_70 rfl rfl) ?_; refine PL.ef rfl (Ef.litM (α := I_Value) [x69] [_] rfl rfl (by decide) rfl rfl rfl rfl) ?_; refine PL.nm (.os 2 0 1) [some ⟨.tr (eL v4), 55, 2⟩, some ⟨.tr (eL r1), 53, 1⟩, some ⟨.tr (eL [x69]), 42, 3⟩] rfl rfl ?_; refine PL.callM true [] (w_S_encodeKey N [x69] r71 h_72) rfl Try.call39 rfl ⟨.own rfl (by first | decide | exact List.not_mem_nil) rfl rfl, trivial⟩ rfl trivial (fun _ => ⟨trivial, flat_nil⟩) ?_; refine PL.mT rfl rfl ?_; refine PL.op rfl (Rd.build rfl rfl rfl rfl) ?_; refine PL.ef rfl (Ef.litM (α := I_Pair) [(I_Pair.mk r71 x3)] [_] rfl rfl (by decide) rfl rfl rfl rfl) ?_; refine PL.nm (.os 3 0 1) [some ⟨.tr (eL v4), 55, 2⟩, some ⟨.tr (eL r1), 53, 1⟩, some ⟨.tr (eL [x69]), 42, 3⟩, some ⟨.tr (eL [(I_Pair.mk r71 x3)]), 55, 2⟩] rfl rfl ?_; refine PL.apM hs rfl rfl rfl rfl (SrcA.ownE rfl rfl rfl) rfl rfl rfl rfl h_74 ?_; refine PL.nm (.os 4 0 xs73.length) [none, some ⟨.tr (eL r1), 53, 1⟩, some ⟨.tr (eL [x69]), 42, 3⟩, some ⟨.tr (eL [(I_Pair.mk r71 x3)]), 55, 2⟩, some ⟨.tr (eL xs73), 55, 2⟩] rfl rfl ?_; refine PL.op rfl (Rd.asnO rfl) ?_; refine PL.nn ?_; refine PC.seq ?_; refine PC.rg ?_; refine PL.mT rfl rfl ?_; refine PL.aT rfl rfl ?_; refine PL.nn ?_; obtain ⟨o96, h_97, hh1⟩ := bind_some hh1; refine PC.cutE hs (fun x : (List I_Pair) => [(1, iA p_column), (5, .os 0 0 x.length), (6, .os 1 0 r1.length), (7, iA x3)]) (fun x => [⟨.tr (eL x), 55, 2⟩, ⟨.tr (eL r1), 53, 1⟩]) (fun x => m_S_pairs_k3 N x3 x = some y64) ?_ ?_
    · refine PC.block ?_; refine PC.loop hs (fun x : Nat × (Int × (List I_Pair)) => [(1, iA p_column), (5, .os 0 0 x.2.2.length), (6, .os 1 0 r1.length), (7, iA x3), (8, iA x.2.1)]) (fun x => [⟨.tr (eL x.2.2), 55, 2⟩, ⟨.tr (eL r1), 53, 1⟩]) (fun x => loopM (β := (List I_Pair)) (fun s : Int × (List I_Pair) => m_S_pairs_b3 N s.1 s.2) x.1 x.2 = some o96) (fun x => x.1) (N, (x3, xs73)) [some 4, some 1] ⟨rfl, rfl, ⟨⟨_, rfl, rfl, rfl, .tr _⟩, ⟨_, rfl, rfl, rfl, .tr _⟩, trivial⟩, ⟨.t _, .os rfl, .os rfl, .t _, .t _, trivial⟩⟩ h_97 ?_
      rintro ⟨f98_, i75, v76⟩ h_100
      obtain ⟨f98, y99, rfl, hh2, kk2⟩ := loopM_some h_100
      replace hh2 : m_S_pairs_b3 N i75 v76 = some y99 := hh2
      unfold m_S_pairs_b3 at hh2; (iterate 2 refine PC.seq ?_); rcases cond_some hh2 with ⟨h_103, hh2⟩ | ⟨h_103, hh2⟩; rotate_left
      · refine PC.any (id := 8) 16 (.seg [0, 1, 2, 3, 4, 5, 6, 7, 8, 9, 10, 11, 12, 13, 14, 15] .done) [] rfl (by kernel_rfl) rfl ?_; refine PT.seg ?_; refine PR.op rfl (Rd.moveT rfl) ?_; refine PR.op rfl (Rd.gtr rfl rfl) ?_; refine PR.op rfl (Rd.moveT rfl) ?_; (iterate 12 refine PR.guard_off rfl rfl h_103 ?_); refine PR.op rfl (Rd.pick_f rfl h_103) ?_; refine PR.nil ?_; refine PT.done ?_; refine PL.nn ?_; refine PC.cf rfl rfl ?_; refine PC.exit ?_; (iterate 2 refine thA_e ?_); refine inA_eq rfl ?_; refine thA_n ?_; obtain rfl := some_in hh2; obtain rfl : (v76 : (List I_Pair)) = o96 := kk2; exact ⟨v76, hh1, [some 0, some 1], ⟨rfl, rfl, ⟨⟨_, rfl, rfl, rfl, .tr _⟩, ⟨_, rfl, rfl, rfl, .tr _⟩, trivial⟩, ⟨.t _, .os rfl, .os rfl, .t _, trivial⟩⟩⟩
      obtain ⟨x104, h_105, hh2⟩ := bind_some hh2; obtain ⟨n106, h_107, hh2⟩ := bind_some hh2; obtain ⟨x108, h_109, hh2⟩ := bind_some hh2; refine PC.any (id := 8) 16 (.seg [0, 1, 2, 3, 4, 5, 6, 7, 8, 9, 10, 11, 12, 13, 14, 15] .done) [] rfl (by kernel_rfl) rfl ?_; refine PT.seg ?_; refine PR.op rfl (Rd.moveT rfl) ?_; refine PR.op rfl (Rd.gtr rfl rfl) ?_; refine PR.op rfl (Rd.moveT rfl) ?_; refine PR.guard_on rfl rfl h_103 ?_; refine PR.op rfl (Rd.moveO rfl) ?_; refine PR.guard_on rfl rfl h_103 ?_; refine PR.op rfl (Rd.moveT rfl) ?_; refine PR.guard_on rfl rfl h_103 ?_; refine PR.ixOM rfl rfl rfl rfl (ixI_lt h_105) ?_; refine PR.guard_on rfl rfl h_103 ?_; refine PR.op rfl (Rd.fieldO rfl rfl) ?_; refine PR.guard_on rfl rfl h_103 ?_; refine PR.op rfl (Rd.owMF (f := 0) rfl rfl h_105 rfl rfl) ?_; refine PR.guard_on rfl rfl h_103 ?_; refine PR.op rfl (Rd.moveO rfl) ?_; refine PR.guard_on rfl rfl h_103 ?_; refine PR.op rfl (Rd.moveT rfl) ?_; refine PR.guard_on rfl rfl h_103 ?_; refine PR.op rfl (Rd.subM rfl rfl h_107) ?_; refine PR.guard_on rfl rfl h_103 ?_; refine PR.ixOM rfl rfl rfl rfl (ixI_lt h_109) ?_; refine PR.guard_on rfl rfl h_103 ?_; refine PR.op rfl (Rd.fieldO rfl rfl) ?_; refine PR.guard_on rfl rfl h_103 ?_; refine PR.op rfl (Rd.owMF (f := 0) rfl rfl h_109 rfl rfl) ?_; refine PR.guard_on rfl rfl h_103 ?_; refine PR.op rfl (Rd.lssS rfl rfl) ?_; refine PR.op rfl (Rd.pick_t rfl h_103) ?_; refine PR.nil ?_; refine PT.done ?_; refine PL.nn ?_; rcases cond_some hh2 with ⟨h_110, hh2⟩ | ⟨h_110, hh2⟩; rotate_left
      · refine PC.cf rfl h_110 ?_; refine PC.exit ?_; (iterate 2 refine thA_e ?_); refine inA_eq rfl ?_; refine thA_n ?_; obtain rfl := some_in hh2; obtain rfl : (v76 : (List I_Pair)) = o96 := kk2; exact ⟨v76, hh1, [some 0, some 1], ⟨rfl, rfl, ⟨⟨_, rfl, rfl, rfl, .tr _⟩, ⟨_, rfl, rfl, rfl, .tr _⟩, trivial⟩, ⟨.t _, .os rfl, .os rfl, .t _, trivial⟩⟩⟩
      refine PC.ct rfl h_110 ?_; refine PC.skip ?_; refine thA_n ?_; refine PC.seq ?_; refine PC.block ?_; refine PC.seq ?_; refine PC.rg ?_; refine PL.op rfl (Rd.moveO rfl) ?_; refine PL.mT rfl rfl ?_; refine PL.op rfl (Rd.ixOM rfl rfl rfl (ixI_lt h_105)) ?_; refine PL.op rfl (Rd.owMR rfl rfl h_105 rfl rfl) ?_; refine PL.ef rfl (Ef.alloc rfl rfl) ?_; refine PL.nm (.op 2 0) [some ⟨.tr (eL v76), 55, 2⟩, some ⟨.tr (eL r1), 53, 1⟩, some ⟨.mx [sA ByteArray.empty, iA (0 : Int)], 55, 0⟩] rfl rfl ?_; refine PL.store rfl rfl rfl rfl rfl rfl rfl ?_; refine PL.nO [some ⟨.tr (eL v76), 55, 2⟩, some ⟨.tr (eL r1), 53, 1⟩, some ⟨.mx [sA x104.key, iA x104.row], 55, 0⟩] rfl ?_; refine PL.nn ?_; refine PC.seq ?_; obtain ⟨n111, h_112, hh2⟩ := bind_some hh2; obtain ⟨x113, h_114, hh2⟩ := bind_some hh2; refine PC.rg ?_; refine PL.op rfl (Rd.moveO rfl) ?_; refine PL.mT rfl rfl ?_; refine PL.op rfl (Rd.moveO rfl) ?_; refine PL.mT rfl rfl ?_; refine PL.op rfl (Rd.subM rfl rfl h_112) ?_; refine PL.op rfl (Rd.ixOM rfl rfl rfl (ixI_lt h_114)) ?_; refine PL.op rfl (Rd.owMR rfl rfl h_114 rfl rfl) ?_; refine PL.op rfl (Rd.ixOM rfl rfl rfl (ixI_lt h_105)) ?_; refine PL.stRM x113 rfl rfl rfl rfl rfl h_105 rfl ?_; refine PL.nO [some ⟨.tr (eL (v76.set i75.toNat x113)), 55, 2⟩, some ⟨.tr (eL r1), 53, 1⟩, some ⟨.mx [sA x104.key, iA x104.row], 55, 0⟩] rfl ?_; refine PL.nn ?_; obtain ⟨n115, h_116, hh2⟩ := bind_some hh2; obtain ⟨x117, h_118, hh2⟩ := bind_some hh2; refine PC.rg ?_; refine PL.op rfl (Rd.moveO rfl) ?_; refine PL.mT rfl rfl ?_; refine PL.op rfl (Rd.subM rfl rfl h_116) ?_; refine PL.op rfl (Rd.loadBox rfl rfl rfl) ?_; refine PL.op rfl (Rd.ixOM rfl rfl rfl (by have hq := ixI_lt h_118; simp only [List.length_set] at hq ⊢; exact hq)) ?_; refine PL.stRM x104 rfl rfl rfl rfl rfl h_118 rfl ?_; refine PL.nO [some ⟨.tr (eL ((v76.set i75.toNat x113).set n115.toNat x104)), 55, 2⟩, some ⟨.tr (eL r1), 53, 1⟩, some ⟨.mx [sA x104.key, iA x104.row], 55, 0⟩] rfl ?_; refine PL.nil ?_; refine inA_n ?_; refine thA_n ?_; obtain ⟨n119, h_120, hh2⟩ := bind_some hh2; refine PC.rg ?_; refine PL.mT rfl rfl ?_; refine PL.op rfl (Rd.subM rfl rfl h_120) ?_; refine PL.aT rfl rfl ?_; refine PL.nil ?_; obtain rfl := some_in hh2; refine thA_n ?_; exact ⟨(f98, (n119, ((v76.set i75.toNat x113).set n115.toNat x104))), Nat.lt_succ_self _, kk2, [some 0, some 1], ⟨rfl, rfl, ⟨⟨_, rfl, rfl, rfl, .tr _⟩, ⟨_, rfl, rfl, rfl, .tr _⟩, trivial⟩, ⟨.t _, .osE rfl (by simp only [List.length_set]), .os rfl, .t _, .t _, trivial⟩⟩⟩
    clear hh1
    rintro v95 hh1
    replace hh1 : m_S_pairs_k3 N x3 v95 = some y64 := hh1
    unfold m_S_pairs_k3 at hh1; refine inA_n ?_; refine thA_n ?_; obtain ⟨n101, h_102, hh1⟩ := bind_some hh1; refine PC.rg ?_; refine PL.mT rfl rfl ?_; refine PL.op rfl (Rd.addM rfl rfl h_102) ?_; refine PL.aT rfl rfl ?_; refine PL.nil ?_; obtain rfl := some_in hh1; refine thA_n ?_; exact ⟨(f63, (n101, v95)), Nat.lt_succ_self _, kk1, [some 0, some 1], ⟨rfl, rfl, ⟨⟨_, rfl, rfl, rfl, .tr _⟩, ⟨_, rfl, rfl, rfl, .tr _⟩, trivial⟩, ⟨.t _, .os rfl, .os rfl, .t _, trivial⟩⟩⟩
  clear hh0
  rintro v60 hh0
  replace hh0 : m_S_pairs_k2 N v60 = some r := hh0
  unfold m_S_pairs_k2 at hh0; refine thA_n ?_; refine PC.seq ?_; refine PC.rg ?_; refine PL.op rfl (Rd.moveO rfl) ?_; refine PL.op rfl (Rd.asnO rfl) ?_; refine PL.nn ?_; refine PC.ret ?_; obtain rfl := some_in hh0; exact FinA.mk (r := .os 0 0 v60.length) (bl := [⟨.tr (eL v60), 55, 2⟩]) [some 0] (.inl rfl) rfl (rl := [.tmp 4]) (.tmp .nil) rfl rfl rfl (.os rfl) ⟨⟨_, rfl, rfl, rfl, .tr _⟩, trivial⟩ ⟨rfl, rfl⟩
def m_S_IndexColumn (N : Nat) (p_t : I_Table) (p_column : Int) : Option ((List I_Pair)) :=
  (m_S_validTable N p_t).bind fun r1 =>
  cond r1
    ((m_S_width N p_t).bind fun r4 =>
    (chk (r4 - (1 : Int))).bind fun n6 =>
    (m_S_inRange N p_column (0 : Int) n6).bind fun r8 =>
    cond r8
      ((m_S_pairs N p_t p_column).bind fun r11 =>
      some r11)
      (some ([] : List I_Pair)))
    (some ([] : List I_Pair))
theorem w_S_IndexColumn (N : Nat) (p_t : I_Table) (p_column : Int) (r : (List I_Pair)) (hh0 : m_S_IndexColumn N p_t p_column = some r) : FnX Try.prog 47 [] [.agg [sL p_t.first, sL p_t.changes, sL p_t.rows], iA p_column] (RE (.os 0 0 r.length) [⟨.tr (eL r), 55, 2⟩]) := by
  unfold m_S_IndexColumn at hh0; refine FnX.mk Try.func47 rfl rfl ?_; intro s hs; refine PC.seq ?_; refine PC.rg ?_; refine PL.ef rfl (Ef.box rfl rfl rfl) ?_; refine PL.nm (.op 0 0) [some ⟨.mx [sL p_t.first, sL p_t.changes, sL p_t.rows], 79, 0⟩] rfl rfl ?_; refine PL.aT rfl rfl ?_; refine PL.nn ?_; (iterate 2 refine PC.seq ?_); obtain ⟨r1, h_2, hh0⟩ := bind_some hh0; rcases cond_some hh0 with ⟨h_3, hh0⟩ | ⟨h_3, hh0⟩; rotate_left
  · refine PC.rg ?_; refine PL.op rfl (Rd.loadBox rfl rfl rfl) ?_; refine PL.callM false [] (w_S_validTable N p_t r1 h_2) rfl Try.call65 rfl ⟨.aggL ⟨.t _, .t _, .t _, trivial⟩, trivial⟩ rfl trivial (fun h => by cases h) ?_; refine PL.op rfl (Rd.unnot rfl) ?_; refine PL.mT rfl rfl ?_; (iterate 6 refine PL.gf rfl rfl (not_f h_3) ?_); refine PL.op rfl (Rd.pick_t rfl (not_f h_3)) ?_; refine PL.nn ?_; refine PC.ct rfl rfl ?_; refine PC.seq ?_; refine PC.rg ?_; refine PL.aT rfl rfl ?_; refine PL.nn ?_; refine PC.ret ?_; refine thA_r ?_; obtain rfl := some_in hh0; exact FinA.mk (r := .os 0 0 0) (bl := [⟨.tr (eL ([] : List I_Pair)), 55, 2⟩]) [none] (.inl rfl) rfl (rl := [.tmp 4]) (.tmp .nil) rfl rfl rfl (.osn rfl) ⟨ow_nil _, trivial⟩ ⟨rfl, rfl⟩
  obtain ⟨r4, h_5, hh0⟩ := bind_some hh0; obtain ⟨n6, h_7, hh0⟩ := bind_some hh0; obtain ⟨r8, h_9, hh0⟩ := bind_some hh0; refine PC.rg ?_; refine PL.op rfl (Rd.loadBox rfl rfl rfl) ?_; refine PL.callM false [] (w_S_validTable N p_t r1 h_2) rfl Try.call65 rfl ⟨.aggL ⟨.t _, .t _, .t _, trivial⟩, trivial⟩ rfl trivial (fun h => by cases h) ?_; refine PL.op rfl (Rd.unnot rfl) ?_; refine PL.mT rfl rfl ?_; refine PL.gn rfl (not_t h_3) ?_; refine PL.mT rfl rfl ?_; refine PL.gn rfl (not_t h_3) ?_; refine PL.op rfl (Rd.loadBox rfl rfl rfl) ?_; refine PL.gn rfl (not_t h_3) ?_; refine PL.callM false [] (w_S_width N p_t r4 h_5) rfl Try.call66 rfl ⟨.aggL ⟨.t _, .t _, .t _, trivial⟩, trivial⟩ rfl trivial (fun h => by cases h) ?_; refine PL.gn rfl (not_t h_3) ?_; refine PL.op rfl (Rd.subM rfl rfl h_7) ?_; refine PL.gn rfl (not_t h_3) ?_; refine PL.callM false [] (w_S_inRange N p_column (0 : Int) n6 r8 h_9) rfl Try.call52 rfl ⟨.t _, .t _, .t _, trivial⟩ rfl trivial (fun h => by cases h) ?_; refine PL.gn rfl (not_t h_3) ?_; refine PL.op rfl (Rd.unnot rfl) ?_; refine PL.op rfl (Rd.pick_f rfl (not_t h_3)) ?_; refine PL.nn ?_; rcases cond_some hh0 with ⟨h_10, hh0⟩ | ⟨h_10, hh0⟩; rotate_left
  · refine PC.ct rfl (not_f h_10) ?_; refine PC.seq ?_; refine PC.rg ?_; refine PL.aT rfl rfl ?_; refine PL.nn ?_; refine PC.ret ?_; refine thA_r ?_; obtain rfl := some_in hh0; exact FinA.mk (r := .os 0 0 0) (bl := [⟨.tr (eL ([] : List I_Pair)), 55, 2⟩]) [none] (.inl rfl) rfl (rl := [.tmp 4]) (.tmp .nil) rfl rfl rfl (.osn rfl) ⟨ow_nil _, trivial⟩ ⟨rfl, rfl⟩
  refine PC.cf rfl (not_t h_10) ?_; refine PC.skip ?_; refine thA_n ?_; refine PC.seq ?_; obtain ⟨r11, h_12, hh0⟩ := bind_some hh0; refine PC.rg ?_; refine PL.op rfl (Rd.loadBox rfl rfl rfl) ?_; refine PL.mT rfl rfl ?_; refine PL.callM false [] (w_S_pairs N p_t p_column r11 h_12) rfl Try.call67 rfl ⟨.aggL ⟨.t _, .t _, .t _, trivial⟩, .t _, trivial⟩ rfl trivial (fun h => by cases h) ?_; refine PL.nm (.os 1 0 r11.length) [some ⟨.mx [sL p_t.first, sL p_t.changes, sL p_t.rows], 79, 0⟩, some ⟨.tr (eL r11), 55, 2⟩] rfl rfl ?_; refine PL.op rfl (Rd.asnO rfl) ?_; refine PL.nn ?_; refine PC.ret ?_; obtain rfl := some_in hh0; exact FinA.mk (r := .os 0 0 r11.length) (bl := [⟨.tr (eL r11), 55, 2⟩]) [some 1] (.inl rfl) rfl (rl := [.tmp 4]) (.tmp .nil) rfl rfl rfl (.os rfl) ⟨⟨_, rfl, rfl, rfl, .tr _⟩, trivial⟩ ⟨rfl, rfl⟩
def m_I_SearchPairs_k1 (N : Nat) (v27 : (List Int)) : Option ((List Int)) :=
  (m_slices_Sort_int N v27).bind fun xs33 =>
  some xs33
def m_I_SearchPairs_b1 (N : Nat) (p_list : (List I_Pair)) (r8 : (ByteArray)) (r10 : (ByteArray)) (i12 : Int) (v13 : (List Int)) : Option ((Int × (List Int)) ⊕ (List Int)) :=
  cond (decide (i12 < (p_list.length : Int)))
    ((ixI p_list i12).bind fun x36 =>
    cond (Op.bytesLess x36.key.toList r8.toList)
      ((chk (i12 + (1 : Int))).bind fun n39 =>
      some (.inl (n39, v13)))
      (cond (Op.bytesLess r10.toList x36.key.toList)
        ((chk (i12 + (1 : Int))).bind fun n42 =>
        some (.inl (n42, v13)))
        ((appM 8 v13 [x36.row]).bind fun xs44 =>
        (chk (i12 + (1 : Int))).bind fun n46 =>
        some (.inl (n46, xs44)))))
    (some (.inr v13))
def m_I_SearchPairs (N : Nat) (p_list : (List I_Pair)) (p_low : I_Value) (p_high : I_Value) : Option ((List Int)) :=
  cond (decide ((10 : Int) < (p_list.length : Int)))
    (some ([] : List Int))
    ((m_I_ValidValue N p_low).bind fun r2 =>
    cond r2
      ((m_I_ValidValue N p_high).bind fun r5 =>
      cond r5
        ((m_I_EncodeKey N [p_low]).bind fun r8 =>
        (m_I_EncodeKey N [p_high]).bind fun r10 =>
        (loopM (β := (List Int)) (fun s : Int × (List Int) => m_I_SearchPairs_b1 N p_list r8 r10 s.1 s.2) N ((0 : Int), ([] : List Int))).bind fun e =>
        m_I_SearchPairs_k1 N e)
        (some ([] : List Int)))
      (some ([] : List Int)))
theorem w_I_SearchPairs (N : Nat) (p_list : (List I_Pair)) (p_low : I_Value) (p_high : I_Value) (r : (List Int)) (hh0 : m_I_SearchPairs N p_list p_low p_high = some r) : FnX Try.prog 20 [] [sL p_list, .agg [iA p_low.kind, iA p_low.num, sA p_low.text], .agg [iA p_high.kind, iA p_high.num, sA p_high.text]] (RE (.os 0 0 r.length) [⟨.tr (eL r), 3, 1⟩]) := by
  unfold m_I_SearchPairs at hh0; refine FnX.mk Try.func20 rfl rfl ?_; intro s hs; refine PC.seq ?_; refine PC.rg ?_; refine PL.ef rfl (Ef.box rfl rfl rfl) ?_; refine PL.nm (.op 0 0) [some ⟨.mx [iA p_low.kind, iA p_low.num, sA p_low.text], 42, 0⟩] rfl rfl ?_; refine PL.ef rfl (Ef.box rfl rfl rfl) ?_; refine PL.nm (.op 1 0) [some ⟨.mx [iA p_low.kind, iA p_low.num, sA p_low.text], 42, 0⟩, some ⟨.mx [iA p_high.kind, iA p_high.num, sA p_high.text], 42, 0⟩] rfl rfl ?_; refine PL.aT rfl rfl ?_; refine PL.nn ?_; (iterate 2 refine PC.seq ?_); rcases cond_some hh0 with ⟨h_1, hh0⟩ | ⟨h_1, hh0⟩
  · refine PC.rg ?_; refine PL.mT rfl rfl ?_; refine PL.op rfl (Rd.lenT rfl) ?_; refine PL.op rfl (Rd.gtr rfl rfl) ?_; refine PL.mT rfl rfl ?_; (iterate 3 refine PL.gf rfl rfl h_1 ?_); refine PL.op rfl (Rd.pick_t rfl h_1) ?_; refine PL.mT rfl rfl ?_; (iterate 3 refine PL.gf rfl rfl rfl ?_); refine PL.op rfl (Rd.pick_t rfl rfl) ?_; refine PL.nn ?_; refine PC.ct rfl rfl ?_; refine PC.seq ?_; refine PC.rg ?_; refine PL.aT rfl rfl ?_; refine PL.nn ?_; refine PC.ret ?_; refine thA_r ?_; obtain rfl := some_in hh0; exact FinA.mk (r := .os 0 0 0) (bl := [⟨.tr (eL ([] : List Int)), 3, 1⟩]) [none] (.inl rfl) rfl (rl := [.tmp 6]) (.tmp .nil) rfl rfl rfl (.osn rfl) ⟨ow_nil _, trivial⟩ ⟨rfl, rfl⟩
  obtain ⟨r2, h_3, hh0⟩ := bind_some hh0; rcases cond_some hh0 with ⟨h_4, hh0⟩ | ⟨h_4, hh0⟩; rotate_left
  · refine PC.rg ?_; refine PL.mT rfl rfl ?_; refine PL.op rfl (Rd.lenT rfl) ?_; refine PL.op rfl (Rd.gtr rfl rfl) ?_; refine PL.mT rfl rfl ?_; refine PL.gn rfl h_1 ?_; refine PL.op rfl (Rd.loadBox rfl rfl rfl) ?_; refine PL.gn rfl h_1 ?_; refine PL.callM false [] (w_I_ValidValue N p_low r2 h_3) rfl Try.call42 rfl ⟨.aggL ⟨.t _, .t _, .t _, trivial⟩, trivial⟩ rfl trivial (fun h => by cases h) ?_; refine PL.gn rfl h_1 ?_; refine PL.op rfl (Rd.unnot rfl) ?_; refine PL.op rfl (Rd.pick_f rfl h_1) ?_; refine PL.mT rfl rfl ?_; (iterate 3 refine PL.gf rfl rfl (not_f h_4) ?_); refine PL.op rfl (Rd.pick_t rfl (not_f h_4)) ?_; refine PL.nn ?_; refine PC.ct rfl rfl ?_; refine PC.seq ?_; refine PC.rg ?_; refine PL.aT rfl rfl ?_; refine PL.nn ?_; refine PC.ret ?_; refine thA_r ?_; obtain rfl := some_in hh0; exact FinA.mk (r := .os 0 0 0) (bl := [⟨.tr (eL ([] : List Int)), 3, 1⟩]) [none] (.inl rfl) rfl (rl := [.tmp 6]) (.tmp .nil) rfl rfl rfl (.osn rfl) ⟨ow_nil _, trivial⟩ ⟨rfl, rfl⟩
  obtain ⟨r5, h_6, hh0⟩ := bind_some hh0; refine PC.rg ?_; refine PL.mT rfl rfl ?_; refine PL.op rfl (Rd.lenT rfl) ?_; refine PL.op rfl (Rd.gtr rfl rfl) ?_; refine PL.mT rfl rfl ?_; refine PL.gn rfl h_1 ?_; refine PL.op rfl (Rd.loadBox rfl rfl rfl) ?_; refine PL.gn rfl h_1 ?_; refine PL.callM false [] (w_I_ValidValue N p_low r2 h_3) rfl Try.call42 rfl ⟨.aggL ⟨.t _, .t _, .t _, trivial⟩, trivial⟩ rfl trivial (fun h => by cases h) ?_; refine PL.gn rfl h_1 ?_; refine PL.op rfl (Rd.unnot rfl) ?_; refine PL.op rfl (Rd.pick_f rfl h_1) ?_; refine PL.mT rfl rfl ?_; refine PL.gn rfl (not_t h_4) ?_; refine PL.op rfl (Rd.loadBox rfl rfl rfl) ?_; refine PL.gn rfl (not_t h_4) ?_; refine PL.callM false [] (w_I_ValidValue N p_high r5 h_6) rfl Try.call42 rfl ⟨.aggL ⟨.t _, .t _, .t _, trivial⟩, trivial⟩ rfl trivial (fun h => by cases h) ?_; refine PL.gn rfl (not_t h_4) ?_; refine PL.op rfl (Rd.unnot rfl) ?_; refine PL.op rfl (Rd.pick_f rfl (not_t h_4)) ?_; refine PL.nn ?_; rcases cond_some hh0 with ⟨h_7, hh0⟩ | ⟨h_7, hh0⟩; rotate_left
  · refine PC.ct rfl (not_f h_7) ?_; refine PC.seq ?_; refine PC.rg ?_; refine PL.aT rfl rfl ?_; refine PL.nn ?_; refine PC.ret ?_; refine thA_r ?_; obtain rfl := some_in hh0; exact FinA.mk (r := .os 0 0 0) (bl := [⟨.tr (eL ([] : List Int)), 3, 1⟩]) [none] (.inl rfl) rfl (rl := [.tmp 6]) (.tmp .nil) rfl rfl rfl (.osn rfl) ⟨ow_nil _, trivial⟩ ⟨rfl, rfl⟩
  refine PC.cf rfl (not_t h_7) ?_; refine PC.skip ?_; refine thA_n ?_; obtain ⟨r8, h_9, hh0⟩ := bind_some hh0; obtain ⟨r10, h_11, hh0⟩ := bind_some hh0; refine PC.cut hs (fun _ : Unit => [(0, sL p_list), (7, sA r8), (8, sA r10)]) (fun _ => []) (fun _ => True) ?_ ?_
  · refine PC.any (id := 3) 8 (.seg [0, 3] (.fork (.seg [1] (.fork (.seg [2, 4, 5, 6, 7] .done) (.seg [4, 2, 5, 6, 7] .done))) (.seg [4, 1, 2, 5, 6, 7] .done))) [] rfl (by kernel_rfl) rfl ?_; refine PT.seg ?_; (iterate 2 refine PR.op rfl (Rd.loadBox rfl rfl rfl) ?_); refine PR.nil ?_; refine PT.fork ?_ ?_; rotate_left
    · refine PT.seg ?_; refine PR.ef rfl rfl (Ef.litM (α := I_Value) [p_high] [_] rfl rfl (by decide) rfl rfl rfl rfl) ?_; refine PR.nm (.os 2 0 1) [some ⟨.mx [iA p_low.kind, iA p_low.num, sA p_low.text], 42, 0⟩, some ⟨.mx [iA p_high.kind, iA p_high.num, sA p_high.text], 42, 0⟩, some ⟨.tr (eL [p_high]), 42, 3⟩] rfl rfl ?_; refine PR.ef rfl rfl (Ef.litM (α := I_Value) [p_low] [_] rfl rfl (by decide) rfl rfl rfl rfl) ?_; refine PR.nm (.os 3 0 1) [some ⟨.mx [iA p_low.kind, iA p_low.num, sA p_low.text], 42, 0⟩, some ⟨.mx [iA p_high.kind, iA p_high.num, sA p_high.text], 42, 0⟩, some ⟨.tr (eL [p_high]), 42, 3⟩, some ⟨.tr (eL [p_low]), 42, 3⟩] rfl rfl ?_; refine PR.callM true [] (w_I_EncodeKey N [p_low] r8 h_9) rfl Try.call28 rfl ⟨.own rfl (by first | decide | exact List.not_mem_nil) rfl rfl, trivial⟩ rfl trivial (fun _ => ⟨trivial, flat_nil⟩) rfl ?_; refine PR.callM true [] (w_I_EncodeKey N [p_high] r10 h_11) rfl Try.call28 rfl ⟨.own rfl (by first | decide | exact List.not_mem_nil) rfl rfl, trivial⟩ rfl trivial (fun _ => ⟨trivial, flat_nil⟩) rfl ?_; (iterate 2 refine PR.op rfl (Rd.asnT rfl) ?_); refine PR.nil ?_; refine PT.done ?_; refine PL.nn ?_; exact ⟨(), trivial, [], ⟨rfl, rfl, trivial, ⟨.t _, .t _, .t _, trivial⟩⟩⟩
    refine PT.seg ?_; refine PR.ef rfl rfl (Ef.litM (α := I_Value) [p_low] [_] rfl rfl (by decide) rfl rfl rfl rfl) ?_; refine PR.nm (.os 2 0 1) [some ⟨.mx [iA p_low.kind, iA p_low.num, sA p_low.text], 42, 0⟩, some ⟨.mx [iA p_high.kind, iA p_high.num, sA p_high.text], 42, 0⟩, some ⟨.tr (eL [p_low]), 42, 3⟩] rfl rfl ?_; refine PR.nil ?_; refine PT.fork ?_ ?_
    · refine PT.seg ?_; refine PR.callM true [] (w_I_EncodeKey N [p_low] r8 h_9) rfl Try.call28 rfl ⟨.own rfl (by first | decide | exact List.not_mem_nil) rfl rfl, trivial⟩ rfl trivial (fun _ => ⟨trivial, flat_nil⟩) rfl ?_; refine PR.ef rfl rfl (Ef.litM (α := I_Value) [p_high] [_] rfl rfl (by decide) rfl rfl rfl rfl) ?_; refine PR.nm (.os 3 0 1) [some ⟨.mx [iA p_low.kind, iA p_low.num, sA p_low.text], 42, 0⟩, some ⟨.mx [iA p_high.kind, iA p_high.num, sA p_high.text], 42, 0⟩, some ⟨.tr (eL [p_low]), 42, 3⟩, some ⟨.tr (eL [p_high]), 42, 3⟩] rfl rfl ?_; refine PR.callM true [] (w_I_EncodeKey N [p_high] r10 h_11) rfl Try.call28 rfl ⟨.own rfl (by first | decide | exact List.not_mem_nil) rfl rfl, trivial⟩ rfl trivial (fun _ => ⟨trivial, flat_nil⟩) rfl ?_; (iterate 2 refine PR.op rfl (Rd.asnT rfl) ?_); refine PR.nil ?_; refine PT.done ?_; refine PL.nn ?_; exact ⟨(), trivial, [], ⟨rfl, rfl, trivial, ⟨.t _, .t _, .t _, trivial⟩⟩⟩
    refine PT.seg ?_; refine PR.ef rfl rfl (Ef.litM (α := I_Value) [p_high] [_] rfl rfl (by decide) rfl rfl rfl rfl) ?_; refine PR.nm (.os 3 0 1) [some ⟨.mx [iA p_low.kind, iA p_low.num, sA p_low.text], 42, 0⟩, some ⟨.mx [iA p_high.kind, iA p_high.num, sA p_high.text], 42, 0⟩, some ⟨.tr (eL [p_low]), 42, 3⟩, some ⟨.tr (eL [p_high]), 42, 3⟩] rfl rfl ?_; refine PR.callM true [] (w_I_EncodeKey N [p_low] r8 h_9) rfl Try.call28 rfl ⟨.own rfl (by first | decide | exact List.not_mem_nil) rfl rfl, trivial⟩ rfl trivial (fun _ => ⟨trivial, flat_nil⟩) rfl ?_; refine PR.callM true [] (w_I_EncodeKey N [p_high] r10 h_11) rfl Try.call28 rfl ⟨.own rfl (by first | decide | exact List.not_mem_nil) rfl rfl, trivial⟩ rfl trivial (fun _ => ⟨trivial, flat_nil⟩) rfl ?_; (iterate 2 refine PR.op rfl (Rd.asnT rfl) ?_); refine PR.nil ?_; refine PT.done ?_; refine PL.nn ?_; exact ⟨(), trivial, [], ⟨rfl, rfl, trivial, ⟨.t _, .t _, .t _, trivial⟩⟩⟩
  rintro ⟨⟩ -
  refine PC.seq ?_; refine PC.rg ?_; refine PL.aT rfl rfl ?_; refine PL.nn ?_; (iterate 2 refine PC.seq ?_); refine PC.rg ?_; refine PL.mT rfl rfl ?_; refine PL.op rfl (Rd.lenT rfl) ?_; refine PL.mT rfl rfl ?_; refine PL.nn ?_; obtain ⟨o28, h_29, hh0⟩ := bind_some hh0; refine PC.cutE hs (fun x : (List Int) => [(9, .os 0 0 x.length)]) (fun x => [⟨.tr (eL x), 3, 1⟩]) (fun x => m_I_SearchPairs_k1 N x = some r) ?_ ?_
  · refine PC.block ?_; refine PC.loop hs (fun x : Nat × (Int × (List Int)) => [(7, sA r8), (8, sA r10), (9, .os 0 0 x.2.2.length), (31, sL p_list), (32, iA (p_list.length : Int)), (33, iA x.2.1)]) (fun x => [⟨.tr (eL x.2.2), 3, 1⟩]) (fun x => loopM (β := (List Int)) (fun s : Int × (List Int) => m_I_SearchPairs_b1 N p_list r8 r10 s.1 s.2) x.1 x.2 = some o28) (fun x => x.1) (N, ((0 : Int), ([] : List Int))) [none] ⟨rfl, rfl, ⟨ow_nil _, trivial⟩, ⟨.t _, .t _, .osn rfl, .t _, .t _, .t _, trivial⟩⟩ h_29 ?_
    rintro ⟨f30_, i12, v13⟩ h_32
    obtain ⟨f30, y31, rfl, hh1, kk1⟩ := loopM_some h_32
    replace hh1 : m_I_SearchPairs_b1 N p_list r8 r10 i12 v13 = some y31 := hh1
    unfold m_I_SearchPairs_b1 at hh1; refine PC.seq ?_; refine PC.rg ?_; refine PL.op rfl (Rd.lss rfl rfl) ?_; refine PL.nn ?_; refine PC.seq ?_; rcases cond_some hh1 with ⟨h_35, hh1⟩ | ⟨h_35, hh1⟩; rotate_left
    · refine PC.cf rfl h_35 ?_; refine PC.exit ?_; (iterate 2 refine thA_e ?_); refine inA_eq rfl ?_; refine thA_n ?_; obtain rfl := some_in hh1; obtain rfl : (v13 : (List Int)) = o28 := kk1; exact ⟨v13, hh0, [some 0], ⟨rfl, rfl, ⟨⟨_, rfl, rfl, rfl, .tr _⟩, trivial⟩, ⟨.os rfl, trivial⟩⟩⟩
    refine PC.ct rfl h_35 ?_; refine PC.skip ?_; refine thA_n ?_; refine PC.seq ?_; refine PC.block ?_; refine PC.seq ?_; obtain ⟨x36, h_37, hh1⟩ := bind_some hh1; refine PC.rg ?_; refine PL.op rfl (Rd.ixM rfl rfl h_37) ?_; refine PL.op rfl (Rd.elMR rfl h_37 rfl rfl) ?_; refine PL.ef rfl (Ef.alloc rfl rfl) ?_; refine PL.nm (.op 1 0) [some ⟨.tr (eL v13), 3, 1⟩, some ⟨.mx [sA ByteArray.empty, iA (0 : Int)], 55, 0⟩] rfl rfl ?_; refine PL.store rfl rfl rfl rfl rfl rfl rfl ?_; refine PL.nO [some ⟨.tr (eL v13), 3, 1⟩, some ⟨.mx [sA x36.key, iA x36.row], 55, 0⟩] rfl ?_; refine PL.nn ?_; refine PC.seq ?_; rcases cond_some hh1 with ⟨h_38, hh1⟩ | ⟨h_38, hh1⟩
    · refine PC.rg ?_; refine PL.op rfl (Rd.fieldO rfl rfl) ?_; refine PL.op rfl (Rd.loadO rfl rfl rfl) ?_; refine PL.mT rfl rfl ?_; refine PL.op rfl (Rd.geqS rfl rfl) ?_; refine PL.mT rfl rfl ?_; (iterate 4 refine PL.gf rfl rfl (not_t h_38) ?_); refine PL.op rfl (Rd.pick_f rfl (not_t h_38)) ?_; refine PL.nn ?_; refine PC.cf rfl rfl ?_; refine PC.skip ?_; refine inA_n ?_; refine thA_n ?_; obtain ⟨n39, h_40, hh1⟩ := bind_some hh1; refine PC.rg ?_; refine PL.op rfl (Rd.addM rfl rfl h_40) ?_; refine PL.mT rfl rfl ?_; refine PL.nil ?_; obtain rfl := some_in hh1; refine thA_n ?_; exact ⟨(f30, (n39, v13)), Nat.lt_succ_self _, kk1, [some 0], ⟨rfl, rfl, ⟨⟨_, rfl, rfl, rfl, .tr _⟩, trivial⟩, ⟨.t _, .t _, .os rfl, .t _, .t _, .t _, trivial⟩⟩⟩
    refine PC.rg ?_; refine PL.op rfl (Rd.fieldO rfl rfl) ?_; refine PL.op rfl (Rd.loadO rfl rfl rfl) ?_; refine PL.mT rfl rfl ?_; refine PL.op rfl (Rd.geqS rfl rfl) ?_; refine PL.mT rfl rfl ?_; refine PL.gn rfl (not_f h_38) ?_; refine PL.op rfl (Rd.fieldO rfl rfl) ?_; refine PL.gn rfl (not_f h_38) ?_; refine PL.op rfl (Rd.loadO rfl rfl rfl) ?_; refine PL.gn rfl (not_f h_38) ?_; refine PL.mT rfl rfl ?_; refine PL.gn rfl (not_f h_38) ?_; refine PL.op rfl (Rd.leqS rfl rfl) ?_; refine PL.op rfl (Rd.pick_t rfl (not_f h_38)) ?_; refine PL.nn ?_; rcases cond_some hh1 with ⟨h_41, hh1⟩ | ⟨h_41, hh1⟩
    · refine PC.cf rfl (not_t h_41) ?_; refine PC.skip ?_; refine inA_n ?_; refine thA_n ?_; obtain ⟨n42, h_43, hh1⟩ := bind_some hh1; refine PC.rg ?_; refine PL.op rfl (Rd.addM rfl rfl h_43) ?_; refine PL.mT rfl rfl ?_; refine PL.nil ?_; obtain rfl := some_in hh1; refine thA_n ?_; exact ⟨(f30, (n42, v13)), Nat.lt_succ_self _, kk1, [some 0], ⟨rfl, rfl, ⟨⟨_, rfl, rfl, rfl, .tr _⟩, trivial⟩, ⟨.t _, .t _, .os rfl, .t _, .t _, .t _, trivial⟩⟩⟩
    refine PC.ct rfl (not_f h_41) ?_; obtain ⟨xs44, h_45, hh1⟩ := bind_some hh1; refine PC.rg ?_; refine PL.op rfl (Rd.moveO rfl) ?_; refine PL.op rfl (Rd.fieldO rfl rfl) ?_; refine PL.op rfl (Rd.loadO rfl rfl rfl) ?_; refine PL.ef rfl (Ef.litM (α := Int) [x36.row] [_] rfl rfl (by decide) rfl rfl rfl rfl) ?_; refine PL.nm (.os 2 0 1) [some ⟨.tr (eL v13), 3, 1⟩, some ⟨.mx [sA x36.key, iA x36.row], 55, 0⟩, some ⟨.tr (eL [x36.row]), 3, 1⟩] rfl rfl ?_; refine PL.apM hs rfl rfl rfl rfl (SrcA.ownE rfl rfl rfl) rfl rfl rfl rfl h_45 ?_; refine PL.nm (.os 3 0 xs44.length) [none, some ⟨.mx [sA x36.key, iA x36.row], 55, 0⟩, some ⟨.tr (eL [x36.row]), 3, 1⟩, some ⟨.tr (eL xs44), 3, 1⟩] rfl rfl ?_; refine PL.op rfl (Rd.asnO rfl) ?_; refine PL.nil ?_; refine inA_n ?_; refine thA_n ?_; obtain ⟨n46, h_47, hh1⟩ := bind_some hh1; refine PC.rg ?_; refine PL.op rfl (Rd.addM rfl rfl h_47) ?_; refine PL.mT rfl rfl ?_; refine PL.nil ?_; obtain rfl := some_in hh1; refine thA_n ?_; exact ⟨(f30, (n46, xs44)), Nat.lt_succ_self _, kk1, [some 3], ⟨rfl, rfl, ⟨⟨_, rfl, rfl, rfl, .tr _⟩, trivial⟩, ⟨.t _, .t _, .os rfl, .t _, .t _, .t _, trivial⟩⟩⟩
  clear hh0
  rintro v27 hh0
  replace hh0 : m_I_SearchPairs_k1 N v27 = some r := hh0
  unfold m_I_SearchPairs_k1 at hh0; refine thA_n ?_; refine PC.seq ?_; obtain ⟨xs33, h_34, hh0⟩ := bind_some hh0; refine PC.rg ?_; refine PL.op rfl (Rd.moveO rfl) ?_; refine PL.callM false [0] (w_slices_Sort_int N v27 xs33 h_34) rfl Try.call43 rfl ⟨.os rfl, trivial⟩ rfl ⟨⟨_, rfl, rfl, rfl, .tr _⟩, trivial⟩ (fun h => by cases h) ?_; refine PL.nm (.tup []) [some ⟨.tr (eL xs33), 3, 1⟩] rfl rfl ?_; refine PL.nn ?_; refine PC.seq ?_; refine PC.rg ?_; refine PL.op rfl (Rd.moveO rfl) ?_; refine PL.op rfl (Rd.asnO rfl) ?_; refine PL.nn ?_; refine PC.ret ?_; obtain rfl := some_in hh0; exact FinA.mk (r := .os 0 0 xs33.length) (bl := [⟨.tr (eL xs33), 3, 1⟩]) [some 0] (.inl rfl) rfl (rl := [.tmp 6]) (.tmp .nil) rfl rfl rfl (.osE rfl (by simp only [List.length_set, len_slices_Sort_int N _ _ h_34])) ⟨⟨_, rfl, rfl, rfl, .tr _⟩, trivial⟩ ⟨rfl, rfl⟩
def m_S_copyInts (N : Nat) (p_list : (List Int)) : Option ((List Int)) :=
  (appM 8 ([] : List Int) p_list).bind fun xs1 =>
  some xs1
theorem w_S_copyInts (N : Nat) (p_list : (List Int)) (r : (List Int)) (hh0 : m_S_copyInts N p_list = some r) : FnX Try.prog 58 [] [sL p_list] (RE (.os 0 0 r.length) [⟨.tr (eL r), 3, 1⟩]) := by
  unfold m_S_copyInts at hh0; refine FnX.mk Try.func58 rfl rfl ?_; intro s hs; refine PC.seq ?_; refine PC.rg ?_; refine PL.aT rfl rfl ?_; refine PL.nn ?_; refine PC.seq ?_; obtain ⟨xs1, h_2, hh0⟩ := bind_some hh0; refine PC.rg ?_; refine PL.ef rfl (Ef.lit0M Int) ?_; refine PL.nm (.os 0 0 0) [some ⟨.tr (eL ([] : List Int)), 3, 1⟩] rfl rfl ?_; refine PL.mT rfl rfl ?_; refine PL.apM hs rfl rfl rfl rfl (SrcA.eL rfl) rfl rfl rfl rfl h_2 ?_; refine PL.nm (.os 1 0 xs1.length) [none, some ⟨.tr (eL xs1), 3, 1⟩] rfl rfl ?_; refine PL.op rfl (Rd.asnO rfl) ?_; refine PL.nn ?_; refine PC.ret ?_; obtain rfl := some_in hh0; exact FinA.mk (r := .os 0 0 xs1.length) (bl := [⟨.tr (eL xs1), 3, 1⟩]) [some 1] (.inl rfl) rfl (rl := [.tmp 2]) (.tmp .nil) rfl rfl rfl (.os rfl) ⟨⟨_, rfl, rfl, rfl, .tr _⟩, trivial⟩ ⟨rfl, rfl⟩
def m_S_sorted_k2 (N : Nat) (v52 : (List Int)) : Option ((List Int)) :=
  some v52
def m_S_sorted_k3 (N : Nat) (k3 : Int) (v79 : (List Int)) : Option ((Int × (List Int)) ⊕ (List Int)) :=
  (chk (k3 + (1 : Int))).bind fun n85 =>
  some (.inl (n85, v79))
def m_S_sorted_b3 (N : Nat) (x59 : Int) (v60 : (List Int)) : Option ((Int × (List Int)) ⊕ (List Int)) :=
  cond (decide ((0 : Int) < x59))
    ((ixI v60 x59).bind fun x88 =>
    (chk (x59 - (1 : Int))).bind fun n90 =>
    (ixI v60 n90).bind fun x92 =>
    cond (decide (x88 < x92))
      ((chk (x59 - (1 : Int))).bind fun n95 =>
      (ixI v60 n95).bind fun x97 =>
      (chk (x59 - (1 : Int))).bind fun n99 =>
      (ixI (v60.set x59.toNat x97) n99).bind fun x101 =>
      (chk (x59 - (1 : Int))).bind fun n103 =>
      some (.inl (n103, ((v60.set x59.toNat x97).set n99.toNat x88))))
      (some (.inr v60)))
    (some (.inr v60))
def m_S_sorted_b2 (N : Nat) (k3 : Int) (v4 : (List Int)) : Option ((Int × (List Int)) ⊕ (List Int)) :=
  cond (decide (k3 < (v4.length : Int)))
    ((loopM (β := (List Int)) (fun s : Int × (List Int) => m_S_sorted_b3 N s.1 s.2) N (k3, v4)).bind fun e =>
    m_S_sorted_k3 N k3 e)
    (some (.inr v4))
def m_S_sorted (N : Nat) (p_list : (List Int)) : Option ((List Int)) :=
  (m_S_copyInts N p_list).bind fun r1 =>
  (loopM (β := (List Int)) (fun s : Int × (List Int) => m_S_sorted_b2 N s.1 s.2) N ((1 : Int), r1)).bind fun e =>
  m_S_sorted_k2 N e
theorem w_S_sorted (N : Nat) (p_list : (List Int)) (r : (List Int)) (hh0 : m_S_sorted N p_list = some r) : FnX Try.prog 40 [] [sL p_list] (RE (.os 0 0 r.length) [⟨.tr (eL r), 3, 1⟩]) := by
  unfold m_S_sorted at hh0; refine FnX.mk Try.func40 rfl rfl ?_; intro s hs; refine PC.seq ?_; refine PC.rg ?_; refine PL.aT rfl rfl ?_; refine PL.nn ?_; refine PC.seq ?_; obtain ⟨r1, h_2, hh0⟩ := bind_some hh0; refine PC.rg ?_; refine PL.mT rfl rfl ?_; refine PL.callM false [] (w_S_copyInts N p_list r1 h_2) rfl Try.call58 rfl ⟨.t _, trivial⟩ rfl trivial (fun h => by cases h) ?_; refine PL.nm (.os 0 0 r1.length) [some ⟨.tr (eL r1), 3, 1⟩] rfl rfl ?_; refine PL.op rfl (Rd.asnO rfl) ?_; refine PL.nn ?_; (iterate 2 refine PC.seq ?_); refine PC.rg ?_; refine PL.aT rfl rfl ?_; refine PL.nn ?_; obtain ⟨o53, h_54, hh0⟩ := bind_some hh0; refine PC.cutE hs (fun x : (List Int) => [(3, .os 0 0 x.length)]) (fun x => [⟨.tr (eL x), 3, 1⟩]) (fun x => m_S_sorted_k2 N x = some r) ?_ ?_
  · refine PC.block ?_; refine PC.loop hs (fun x : Nat × (Int × (List Int)) => [(3, .os 0 0 x.2.2.length), (4, iA x.2.1)]) (fun x => [⟨.tr (eL x.2.2), 3, 1⟩]) (fun x => loopM (β := (List Int)) (fun s : Int × (List Int) => m_S_sorted_b2 N s.1 s.2) x.1 x.2 = some o53) (fun x => x.1) (N, ((1 : Int), r1)) [some 0] ⟨rfl, rfl, ⟨⟨_, rfl, rfl, rfl, .tr _⟩, trivial⟩, ⟨.os rfl, .t _, trivial⟩⟩ h_54 ?_
    rintro ⟨f55_, k3, v4⟩ h_57
    obtain ⟨f55, y56, rfl, hh1, kk1⟩ := loopM_some h_57
    replace hh1 : m_S_sorted_b2 N k3 v4 = some y56 := hh1
    unfold m_S_sorted_b2 at hh1; (iterate 2 refine PC.seq ?_); refine PC.rg ?_; refine PL.mT rfl rfl ?_; refine PL.op rfl (Rd.moveO rfl) ?_; refine PL.op rfl (Rd.lenO rfl rfl) ?_; refine PL.op rfl (Rd.lss rfl rfl) ?_; refine PL.nn ?_; rcases cond_some hh1 with ⟨h_58, hh1⟩ | ⟨h_58, hh1⟩; rotate_left
    · refine PC.cf rfl h_58 ?_; refine PC.exit ?_; (iterate 2 refine thA_e ?_); refine inA_eq rfl ?_; refine thA_n ?_; obtain rfl := some_in hh1; obtain rfl : (v4 : (List Int)) = o53 := kk1; exact ⟨v4, hh0, [some 0], ⟨rfl, rfl, ⟨⟨_, rfl, rfl, rfl, .tr _⟩, trivial⟩, ⟨.os rfl, trivial⟩⟩⟩
    refine PC.ct rfl h_58 ?_; refine PC.skip ?_; refine thA_n ?_; refine PC.seq ?_; refine PC.block ?_; refine PC.seq ?_; refine PC.rg ?_; refine PL.mT rfl rfl ?_; refine PL.aT rfl rfl ?_; refine PL.nn ?_; obtain ⟨o80, h_81, hh1⟩ := bind_some hh1; refine PC.cutE hs (fun x : (List Int) => [(3, .os 0 0 x.length), (4, iA k3)]) (fun x => [⟨.tr (eL x), 3, 1⟩]) (fun x => m_S_sorted_k3 N k3 x = some y56) ?_ ?_
    · refine PC.block ?_; refine PC.loop hs (fun x : Nat × (Int × (List Int)) => [(3, .os 0 0 x.2.2.length), (4, iA k3), (5, iA x.2.1)]) (fun x => [⟨.tr (eL x.2.2), 3, 1⟩]) (fun x => loopM (β := (List Int)) (fun s : Int × (List Int) => m_S_sorted_b3 N s.1 s.2) x.1 x.2 = some o80) (fun x => x.1) (N, (k3, v4)) [some 0] ⟨rfl, rfl, ⟨⟨_, rfl, rfl, rfl, .tr _⟩, trivial⟩, ⟨.os rfl, .t _, .t _, trivial⟩⟩ h_81 ?_
      rintro ⟨f82_, x59, v60⟩ h_84
      obtain ⟨f82, y83, rfl, hh2, kk2⟩ := loopM_some h_84
      replace hh2 : m_S_sorted_b3 N x59 v60 = some y83 := hh2
      unfold m_S_sorted_b3 at hh2; (iterate 2 refine PC.seq ?_); rcases cond_some hh2 with ⟨h_87, hh2⟩ | ⟨h_87, hh2⟩; rotate_left
      · refine PC.any (id := 6) 14 (.seg [0, 1, 2, 3, 4, 5, 6, 7, 8, 9, 10, 11, 12, 13] .done) [] rfl (by kernel_rfl) rfl ?_; refine PT.seg ?_; refine PR.op rfl (Rd.moveT rfl) ?_; refine PR.op rfl (Rd.gtr rfl rfl) ?_; refine PR.op rfl (Rd.moveT rfl) ?_; (iterate 10 refine PR.guard_off rfl rfl h_87 ?_); refine PR.op rfl (Rd.pick_f rfl h_87) ?_; refine PR.nil ?_; refine PT.done ?_; refine PL.nn ?_; refine PC.cf rfl rfl ?_; refine PC.exit ?_; (iterate 2 refine thA_e ?_); refine inA_eq rfl ?_; refine thA_n ?_; obtain rfl := some_in hh2; obtain rfl : (v60 : (List Int)) = o80 := kk2; exact ⟨v60, hh1, [some 0], ⟨rfl, rfl, ⟨⟨_, rfl, rfl, rfl, .tr _⟩, trivial⟩, ⟨.os rfl, .t _, trivial⟩⟩⟩
      obtain ⟨x88, h_89, hh2⟩ := bind_some hh2; obtain ⟨n90, h_91, hh2⟩ := bind_some hh2; obtain ⟨x92, h_93, hh2⟩ := bind_some hh2; refine PC.any (id := 6) 14 (.seg [0, 1, 2, 3, 4, 5, 6, 7, 8, 9, 10, 11, 12, 13] .done) [] rfl (by kernel_rfl) rfl ?_; refine PT.seg ?_; refine PR.op rfl (Rd.moveT rfl) ?_; refine PR.op rfl (Rd.gtr rfl rfl) ?_; refine PR.op rfl (Rd.moveT rfl) ?_; refine PR.guard_on rfl rfl h_87 ?_; refine PR.op rfl (Rd.moveO rfl) ?_; refine PR.guard_on rfl rfl h_87 ?_; refine PR.op rfl (Rd.moveT rfl) ?_; refine PR.guard_on rfl rfl h_87 ?_; refine PR.ixOM rfl rfl rfl rfl (ixI_lt h_89) ?_; refine PR.guard_on rfl rfl h_87 ?_; refine PR.op rfl (Rd.owM1 rfl rfl h_89 rfl rfl) ?_; refine PR.guard_on rfl rfl h_87 ?_; refine PR.op rfl (Rd.moveO rfl) ?_; refine PR.guard_on rfl rfl h_87 ?_; refine PR.op rfl (Rd.moveT rfl) ?_; refine PR.guard_on rfl rfl h_87 ?_; refine PR.op rfl (Rd.subM rfl rfl h_91) ?_; refine PR.guard_on rfl rfl h_87 ?_; refine PR.ixOM rfl rfl rfl rfl (ixI_lt h_93) ?_; refine PR.guard_on rfl rfl h_87 ?_; refine PR.op rfl (Rd.owM1 rfl rfl h_93 rfl rfl) ?_; refine PR.guard_on rfl rfl h_87 ?_; refine PR.op rfl (Rd.lss rfl rfl) ?_; refine PR.op rfl (Rd.pick_t rfl h_87) ?_; refine PR.nil ?_; refine PT.done ?_; refine PL.nn ?_; rcases cond_some hh2 with ⟨h_94, hh2⟩ | ⟨h_94, hh2⟩; rotate_left
      · refine PC.cf rfl h_94 ?_; refine PC.exit ?_; (iterate 2 refine thA_e ?_); refine inA_eq rfl ?_; refine thA_n ?_; obtain rfl := some_in hh2; obtain rfl : (v60 : (List Int)) = o80 := kk2; exact ⟨v60, hh1, [some 0], ⟨rfl, rfl, ⟨⟨_, rfl, rfl, rfl, .tr _⟩, trivial⟩, ⟨.os rfl, .t _, trivial⟩⟩⟩
      refine PC.ct rfl h_94 ?_; refine PC.skip ?_; refine thA_n ?_; refine PC.seq ?_; refine PC.block ?_; refine PC.seq ?_; refine PC.rg ?_; refine PL.op rfl (Rd.moveO rfl) ?_; refine PL.mT rfl rfl ?_; refine PL.op rfl (Rd.ixOM rfl rfl rfl (ixI_lt h_89)) ?_; refine PL.op rfl (Rd.owM1 rfl rfl h_89 rfl rfl) ?_; refine PL.aT rfl rfl ?_; refine PL.nn ?_; refine PC.seq ?_; obtain ⟨n95, h_96, hh2⟩ := bind_some hh2; obtain ⟨x97, h_98, hh2⟩ := bind_some hh2; refine PC.rg ?_; refine PL.op rfl (Rd.moveO rfl) ?_; refine PL.mT rfl rfl ?_; refine PL.op rfl (Rd.moveO rfl) ?_; refine PL.mT rfl rfl ?_; refine PL.op rfl (Rd.subM rfl rfl h_96) ?_; refine PL.op rfl (Rd.ixOM rfl rfl rfl (ixI_lt h_98)) ?_; refine PL.op rfl (Rd.owM1 rfl rfl h_98 rfl rfl) ?_; refine PL.op rfl (Rd.ixOM rfl rfl rfl (ixI_lt h_89)) ?_; refine PL.stRM x97 rfl rfl rfl rfl rfl h_89 rfl ?_; refine PL.nO [some ⟨.tr (eL (v60.set x59.toNat x97)), 3, 1⟩] rfl ?_; refine PL.nn ?_; obtain ⟨n99, h_100, hh2⟩ := bind_some hh2; obtain ⟨x101, h_102, hh2⟩ := bind_some hh2; refine PC.rg ?_; refine PL.op rfl (Rd.moveO rfl) ?_; refine PL.mT rfl rfl ?_; refine PL.op rfl (Rd.subM rfl rfl h_100) ?_; refine PL.mT rfl rfl ?_; refine PL.op rfl (Rd.ixOM rfl rfl rfl (by have hq := ixI_lt h_102; simp only [List.length_set] at hq ⊢; exact hq)) ?_; refine PL.stRM x88 rfl rfl rfl rfl rfl h_102 rfl ?_; refine PL.nO [some ⟨.tr (eL ((v60.set x59.toNat x97).set n99.toNat x88)), 3, 1⟩] rfl ?_; refine PL.nil ?_; refine inA_n ?_; refine thA_n ?_; obtain ⟨n103, h_104, hh2⟩ := bind_some hh2; refine PC.rg ?_; refine PL.mT rfl rfl ?_; refine PL.op rfl (Rd.subM rfl rfl h_104) ?_; refine PL.aT rfl rfl ?_; refine PL.nil ?_; obtain rfl := some_in hh2; refine thA_n ?_; exact ⟨(f82, (n103, ((v60.set x59.toNat x97).set n99.toNat x88))), Nat.lt_succ_self _, kk2, [some 0], ⟨rfl, rfl, ⟨⟨_, rfl, rfl, rfl, .tr _⟩, trivial⟩, ⟨.osE rfl (by simp only [List.length_set]), .t _, .t _, trivial⟩⟩⟩
    clear hh1
    rintro v79 hh1
    replace hh1 : m_S_sorted_k3 N k3 v79 = some y56 := hh1
    unfold m_S_sorted_k3 at hh1; refine inA_n ?_; refine thA_n ?_; obtain ⟨n85, h_86, hh1⟩ := bind_some hh1; refine PC.rg ?_; refine PL.mT rfl rfl ?_; refine PL.op rfl (Rd.addM rfl rfl h_86) ?_; refine PL.aT rfl rfl ?_; refine PL.nil ?_; obtain rfl := some_in hh1; refine thA_n ?_; exact ⟨(f55, (n85, v79)), Nat.lt_succ_self _, kk1, [some 0], ⟨rfl, rfl, ⟨⟨_, rfl, rfl, rfl, .tr _⟩, trivial⟩, ⟨.os rfl, .t _, trivial⟩⟩⟩
  clear hh0
  rintro v52 hh0
  replace hh0 : m_S_sorted_k2 N v52 = some r := hh0
  unfold m_S_sorted_k2 at hh0; refine thA_n ?_; refine PC.seq ?_; refine PC.rg ?_; refine PL.op rfl (Rd.moveO rfl) ?_; refine PL.op rfl (Rd.asnO rfl) ?_; refine PL.nn ?_; refine PC.ret ?_; obtain rfl := some_in hh0; exact FinA.mk (r := .os 0 0 v52.length) (bl := [⟨.tr (eL v52), 3, 1⟩]) [some 0] (.inl rfl) rfl (rl := [.tmp 2]) (.tmp .nil) rfl rfl rfl (.os rfl) ⟨⟨_, rfl, rfl, rfl, .tr _⟩, trivial⟩ ⟨rfl, rfl⟩
def m_S_SearchPairs_k1 (N : Nat) (v31 : (List Int)) : Option ((List Int)) :=
  (m_S_sorted N v31).bind fun r37 =>
  some r37
def m_S_SearchPairs_b1 (N : Nat) (p_list : (List I_Pair)) (r8 : (ByteArray)) (r10 : (ByteArray)) (i12 : Int) (v13 : (List Int)) : Option ((Int × (List Int)) ⊕ (List Int)) :=
  cond (decide (i12 < (p_list.length : Int)))
    ((ixI p_list i12).bind fun x40 =>
    cond (Op.bytesLess x40.key.toList r8.toList)
      ((chk (i12 + (1 : Int))).bind fun n45 =>
      some (.inl (n45, v13)))
      ((ixI p_list i12).bind fun x43 =>
      cond (Op.bytesLess r10.toList x43.key.toList)
        ((chk (i12 + (1 : Int))).bind fun n48 =>
        some (.inl (n48, v13)))
        ((ixI p_list i12).bind fun x50 =>
        (appM 8 v13 [x50.row]).bind fun xs52 =>
        (chk (i12 + (1 : Int))).bind fun n54 =>
        some (.inl (n54, xs52)))))
    (some (.inr v13))
def m_S_SearchPairs (N : Nat) (p_list : (List I_Pair)) (p_low : I_Value) (p_high : I_Value) : Option ((List Int)) :=
  cond (decide ((10 : Int) < (p_list.length : Int)))
    (some ([] : List Int))
    ((m_S_validValue N p_low).bind fun r2 =>
    cond r2
      ((m_S_validValue N p_high).bind fun r5 =>
      cond r5
        ((m_S_encodeKey N [p_low]).bind fun r8 =>
        (m_S_encodeKey N [p_high]).bind fun r10 =>
        (loopM (β := (List Int)) (fun s : Int × (List Int) => m_S_SearchPairs_b1 N p_list r8 r10 s.1 s.2) N ((0 : Int), ([] : List Int))).bind fun e =>
        m_S_SearchPairs_k1 N e)
        (some ([] : List Int)))
      (some ([] : List Int)))
theorem w_S_SearchPairs (N : Nat) (p_list : (List I_Pair)) (p_low : I_Value) (p_high : I_Value) (r : (List Int)) (hh0 : m_S_SearchPairs N p_list p_low p_high = some r) : FnX Try.prog 17 [] [sL p_list, .agg [iA p_low.kind, iA p_low.num, sA p_low.text], .agg [iA p_high.kind, iA p_high.num, sA p_high.text]] (RE (.os 0 0 r.length) [⟨.tr (eL r), 3, 1⟩]) := by
  unfold m_S_SearchPairs at hh0; refine FnX.mk Try.func17 rfl rfl ?_; intro s hs; refine PC.seq ?_; refine PC.rg ?_; refine PL.ef rfl (Ef.box rfl rfl rfl) ?_; refine PL.nm (.op 0 0) [some ⟨.mx [iA p_low.kind, iA p_low.num, sA p_low.text], 42, 0⟩] rfl rfl ?_; refine PL.ef rfl (Ef.box rfl rfl rfl) ?_; refine PL.nm (.op 1 0) [some ⟨.mx [iA p_low.kind, iA p_low.num, sA p_low.text], 42, 0⟩, some ⟨.mx [iA p_high.kind, iA p_high.num, sA p_high.text], 42, 0⟩] rfl rfl ?_; refine PL.aT rfl rfl ?_; refine PL.nn ?_; refine PC.seq ?_; refine PC.rg ?_; refine PL.ef rfl (Ef.lit0M Int) ?_; refine PL.nm (.os 2 0 0) [some ⟨.mx [iA p_low.kind, iA p_low.num, sA p_low.text], 42, 0⟩, some ⟨.mx [iA p_high.kind, iA p_high.num, sA p_high.text], 42, 0⟩, some ⟨.tr (eL ([] : List Int)), 3, 1⟩] rfl rfl ?_; refine PL.op rfl (Rd.asnO rfl) ?_; refine PL.nn ?_; (iterate 2 refine PC.seq ?_); rcases cond_some hh0 with ⟨h_1, hh0⟩ | ⟨h_1, hh0⟩
  · refine PC.rg ?_; refine PL.mT rfl rfl ?_; refine PL.op rfl (Rd.lenT rfl) ?_; refine PL.op rfl (Rd.gtr rfl rfl) ?_; refine PL.mT rfl rfl ?_; (iterate 3 refine PL.gf rfl rfl h_1 ?_); refine PL.op rfl (Rd.pick_t rfl h_1) ?_; refine PL.mT rfl rfl ?_; (iterate 3 refine PL.gf rfl rfl rfl ?_); refine PL.op rfl (Rd.pick_t rfl rfl) ?_; refine PL.nn ?_; refine PC.ct rfl rfl ?_; refine PC.seq ?_; refine PC.rg ?_; refine PL.aT rfl rfl ?_; refine PL.nn ?_; refine PC.ret ?_; refine thA_r ?_; obtain rfl := some_in hh0; exact FinA.mk (r := .os 0 0 0) (bl := [⟨.tr (eL ([] : List Int)), 3, 1⟩]) [none] (.inl rfl) rfl (rl := [.tmp 6]) (.tmp .nil) rfl rfl rfl (.osn rfl) ⟨ow_nil _, trivial⟩ ⟨rfl, rfl⟩
  obtain ⟨r2, h_3, hh0⟩ := bind_some hh0; rcases cond_some hh0 with ⟨h_4, hh0⟩ | ⟨h_4, hh0⟩; rotate_left
  · refine PC.rg ?_; refine PL.mT rfl rfl ?_; refine PL.op rfl (Rd.lenT rfl) ?_; refine PL.op rfl (Rd.gtr rfl rfl) ?_; refine PL.mT rfl rfl ?_; refine PL.gn rfl h_1 ?_; refine PL.op rfl (Rd.loadBox rfl rfl rfl) ?_; refine PL.gn rfl h_1 ?_; refine PL.callM false [] (w_S_validValue N p_low r2 h_3) rfl Try.call38 rfl ⟨.aggL ⟨.t _, .t _, .t _, trivial⟩, trivial⟩ rfl trivial (fun h => by cases h) ?_; refine PL.gn rfl h_1 ?_; refine PL.op rfl (Rd.unnot rfl) ?_; refine PL.op rfl (Rd.pick_f rfl h_1) ?_; refine PL.mT rfl rfl ?_; (iterate 3 refine PL.gf rfl rfl (not_f h_4) ?_); refine PL.op rfl (Rd.pick_t rfl (not_f h_4)) ?_; refine PL.nn ?_; refine PC.ct rfl rfl ?_; refine PC.seq ?_; refine PC.rg ?_; refine PL.aT rfl rfl ?_; refine PL.nn ?_; refine PC.ret ?_; refine thA_r ?_; obtain rfl := some_in hh0; exact FinA.mk (r := .os 0 0 0) (bl := [⟨.tr (eL ([] : List Int)), 3, 1⟩]) [none] (.inl rfl) rfl (rl := [.tmp 6]) (.tmp .nil) rfl rfl rfl (.osn rfl) ⟨ow_nil _, trivial⟩ ⟨rfl, rfl⟩
  obtain ⟨r5, h_6, hh0⟩ := bind_some hh0; refine PC.rg ?_; refine PL.mT rfl rfl ?_; refine PL.op rfl (Rd.lenT rfl) ?_; refine PL.op rfl (Rd.gtr rfl rfl) ?_; refine PL.mT rfl rfl ?_; refine PL.gn rfl h_1 ?_; refine PL.op rfl (Rd.loadBox rfl rfl rfl) ?_; refine PL.gn rfl h_1 ?_; refine PL.callM false [] (w_S_validValue N p_low r2 h_3) rfl Try.call38 rfl ⟨.aggL ⟨.t _, .t _, .t _, trivial⟩, trivial⟩ rfl trivial (fun h => by cases h) ?_; refine PL.gn rfl h_1 ?_; refine PL.op rfl (Rd.unnot rfl) ?_; refine PL.op rfl (Rd.pick_f rfl h_1) ?_; refine PL.mT rfl rfl ?_; refine PL.gn rfl (not_t h_4) ?_; refine PL.op rfl (Rd.loadBox rfl rfl rfl) ?_; refine PL.gn rfl (not_t h_4) ?_; refine PL.callM false [] (w_S_validValue N p_high r5 h_6) rfl Try.call38 rfl ⟨.aggL ⟨.t _, .t _, .t _, trivial⟩, trivial⟩ rfl trivial (fun h => by cases h) ?_; refine PL.gn rfl (not_t h_4) ?_; refine PL.op rfl (Rd.unnot rfl) ?_; refine PL.op rfl (Rd.pick_f rfl (not_t h_4)) ?_; refine PL.nn ?_; rcases cond_some hh0 with ⟨h_7, hh0⟩ | ⟨h_7, hh0⟩; rotate_left
  · refine PC.ct rfl (not_f h_7) ?_; refine PC.seq ?_; refine PC.rg ?_; refine PL.aT rfl rfl ?_; refine PL.nn ?_; refine PC.ret ?_; refine thA_r ?_; obtain rfl := some_in hh0; exact FinA.mk (r := .os 0 0 0) (bl := [⟨.tr (eL ([] : List Int)), 3, 1⟩]) [none] (.inl rfl) rfl (rl := [.tmp 6]) (.tmp .nil) rfl rfl rfl (.osn rfl) ⟨ow_nil _, trivial⟩ ⟨rfl, rfl⟩
  refine PC.cf rfl (not_t h_7) ?_; refine PC.skip ?_; refine thA_n ?_; refine PC.seq ?_; obtain ⟨r8, h_9, hh0⟩ := bind_some hh0; refine PC.rg ?_; refine PL.op rfl (Rd.loadBox rfl rfl rfl) ?_; refine PL.ef rfl (Ef.litM (α := I_Value) [p_low] [_] rfl rfl (by decide) rfl rfl rfl rfl) ?_; refine PL.nm (.os 3 0 1) [some ⟨.mx [iA p_low.kind, iA p_low.num, sA p_low.text], 42, 0⟩, some ⟨.mx [iA p_high.kind, iA p_high.num, sA p_high.text], 42, 0⟩, some ⟨.tr (eL ([] : List Int)), 3, 1⟩, some ⟨.tr (eL [p_low]), 42, 3⟩] rfl rfl ?_; refine PL.callM true [] (w_S_encodeKey N [p_low] r8 h_9) rfl Try.call39 rfl ⟨.own rfl (by first | decide | exact List.not_mem_nil) rfl rfl, trivial⟩ rfl trivial (fun _ => ⟨trivial, flat_nil⟩) ?_; refine PL.aT rfl rfl ?_; refine PL.nn ?_; refine PC.seq ?_; obtain ⟨r10, h_11, hh0⟩ := bind_some hh0; refine PC.rg ?_; refine PL.op rfl (Rd.loadBox rfl rfl rfl) ?_; refine PL.ef rfl (Ef.litM (α := I_Value) [p_high] [_] rfl rfl (by decide) rfl rfl rfl rfl) ?_; refine PL.nm (.os 4 0 1) [some ⟨.mx [iA p_low.kind, iA p_low.num, sA p_low.text], 42, 0⟩, some ⟨.mx [iA p_high.kind, iA p_high.num, sA p_high.text], 42, 0⟩, some ⟨.tr (eL ([] : List Int)), 3, 1⟩, some ⟨.tr (eL [p_low]), 42, 3⟩, some ⟨.tr (eL [p_high]), 42, 3⟩] rfl rfl ?_; refine PL.callM true [] (w_S_encodeKey N [p_high] r10 h_11) rfl Try.call39 rfl ⟨.own rfl (by first | decide | exact List.not_mem_nil) rfl rfl, trivial⟩ rfl trivial (fun _ => ⟨trivial, flat_nil⟩) ?_; refine PL.aT rfl rfl ?_; refine PL.nn ?_; (iterate 2 refine PC.seq ?_); refine PC.rg ?_; refine PL.aT rfl rfl ?_; refine PL.nn ?_; obtain ⟨o32, h_33, hh0⟩ := bind_some hh0; refine PC.cutE hs (fun x : (List Int) => [(7, .os 0 0 x.length)]) (fun x => [⟨.tr (eL x), 3, 1⟩]) (fun x => m_S_SearchPairs_k1 N x = some r) ?_ ?_
  · refine PC.block ?_; refine PC.loop hs (fun x : Nat × (Int × (List Int)) => [(0, sL p_list), (7, .os 0 0 x.2.2.length), (8, sA r8), (9, sA r10), (10, iA x.2.1)]) (fun x => [⟨.tr (eL x.2.2), 3, 1⟩]) (fun x => loopM (β := (List Int)) (fun s : Int × (List Int) => m_S_SearchPairs_b1 N p_list r8 r10 s.1 s.2) x.1 x.2 = some o32) (fun x => x.1) (N, ((0 : Int), ([] : List Int))) [some 2] ⟨rfl, rfl, ⟨⟨_, rfl, rfl, rfl, .tr _⟩, trivial⟩, ⟨.t _, .os rfl, .t _, .t _, .t _, trivial⟩⟩ h_33 ?_
    rintro ⟨f34_, i12, v13⟩ h_36
    obtain ⟨f34, y35, rfl, hh1, kk1⟩ := loopM_some h_36
    replace hh1 : m_S_SearchPairs_b1 N p_list r8 r10 i12 v13 = some y35 := hh1
    unfold m_S_SearchPairs_b1 at hh1; (iterate 2 refine PC.seq ?_); refine PC.rg ?_; (iterate 2 refine PL.mT rfl rfl ?_); refine PL.op rfl (Rd.lenT rfl) ?_; refine PL.op rfl (Rd.lss rfl rfl) ?_; refine PL.nn ?_; rcases cond_some hh1 with ⟨h_39, hh1⟩ | ⟨h_39, hh1⟩; rotate_left
    · refine PC.cf rfl h_39 ?_; refine PC.exit ?_; (iterate 2 refine thA_e ?_); refine inA_eq rfl ?_; refine thA_n ?_; obtain rfl := some_in hh1; obtain rfl : (v13 : (List Int)) = o32 := kk1; exact ⟨v13, hh0, [some 0], ⟨rfl, rfl, ⟨⟨_, rfl, rfl, rfl, .tr _⟩, trivial⟩, ⟨.os rfl, trivial⟩⟩⟩
    refine PC.ct rfl h_39 ?_; refine PC.skip ?_; refine thA_n ?_; refine PC.seq ?_; refine PC.block ?_; refine PC.seq ?_; obtain ⟨x40, h_41, hh1⟩ := bind_some hh1; rcases cond_some hh1 with ⟨h_42, hh1⟩ | ⟨h_42, hh1⟩
    · refine PC.rg ?_; (iterate 3 refine PL.mT rfl rfl ?_); refine PL.op rfl (Rd.ixM rfl rfl h_41) ?_; refine PL.op rfl (Rd.fieldT rfl) ?_; refine PL.op rfl (Rd.elMF (f := 0) rfl h_41 rfl rfl) ?_; refine PL.op rfl (Rd.leqS rfl rfl) ?_; refine PL.mT rfl rfl ?_; (iterate 7 refine PL.gf rfl rfl (not_t h_42) ?_); refine PL.op rfl (Rd.pick_f rfl (not_t h_42)) ?_; refine PL.nn ?_; refine PC.cf rfl rfl ?_; refine PC.skip ?_; refine inA_n ?_; refine thA_n ?_; obtain ⟨n45, h_46, hh1⟩ := bind_some hh1; refine PC.rg ?_; refine PL.mT rfl rfl ?_; refine PL.op rfl (Rd.addM rfl rfl h_46) ?_; refine PL.aT rfl rfl ?_; refine PL.nil ?_; obtain rfl := some_in hh1; refine thA_n ?_; exact ⟨(f34, (n45, v13)), Nat.lt_succ_self _, kk1, [some 0], ⟨rfl, rfl, ⟨⟨_, rfl, rfl, rfl, .tr _⟩, trivial⟩, ⟨.t _, .os rfl, .t _, .t _, .t _, trivial⟩⟩⟩
    obtain ⟨x43, h_44, hh1⟩ := bind_some hh1; refine PC.rg ?_; (iterate 3 refine PL.mT rfl rfl ?_); refine PL.op rfl (Rd.ixM rfl rfl h_41) ?_; refine PL.op rfl (Rd.fieldT rfl) ?_; refine PL.op rfl (Rd.elMF (f := 0) rfl h_41 rfl rfl) ?_; refine PL.op rfl (Rd.leqS rfl rfl) ?_; refine PL.mT rfl rfl ?_; refine PL.gn rfl (not_f h_42) ?_; refine PL.mT rfl rfl ?_; refine PL.gn rfl (not_f h_42) ?_; refine PL.mT rfl rfl ?_; refine PL.gn rfl (not_f h_42) ?_; refine PL.op rfl (Rd.ixM rfl rfl h_44) ?_; refine PL.gn rfl (not_f h_42) ?_; refine PL.op rfl (Rd.fieldT rfl) ?_; refine PL.gn rfl (not_f h_42) ?_; refine PL.op rfl (Rd.elMF (f := 0) rfl h_44 rfl rfl) ?_; refine PL.gn rfl (not_f h_42) ?_; refine PL.mT rfl rfl ?_; refine PL.gn rfl (not_f h_42) ?_; refine PL.op rfl (Rd.leqS rfl rfl) ?_; refine PL.op rfl (Rd.pick_t rfl (not_f h_42)) ?_; refine PL.nn ?_; rcases cond_some hh1 with ⟨h_47, hh1⟩ | ⟨h_47, hh1⟩
    · refine PC.cf rfl (not_t h_47) ?_; refine PC.skip ?_; refine inA_n ?_; refine thA_n ?_; obtain ⟨n48, h_49, hh1⟩ := bind_some hh1; refine PC.rg ?_; refine PL.mT rfl rfl ?_; refine PL.op rfl (Rd.addM rfl rfl h_49) ?_; refine PL.aT rfl rfl ?_; refine PL.nil ?_; obtain rfl := some_in hh1; refine thA_n ?_; exact ⟨(f34, (n48, v13)), Nat.lt_succ_self _, kk1, [some 0], ⟨rfl, rfl, ⟨⟨_, rfl, rfl, rfl, .tr _⟩, trivial⟩, ⟨.t _, .os rfl, .t _, .t _, .t _, trivial⟩⟩⟩
    refine PC.ct rfl (not_f h_47) ?_; obtain ⟨x50, h_51, hh1⟩ := bind_some hh1; obtain ⟨xs52, h_53, hh1⟩ := bind_some hh1; refine PC.rg ?_; refine PL.op rfl (Rd.moveO rfl) ?_; (iterate 2 refine PL.mT rfl rfl ?_); refine PL.op rfl (Rd.ixM rfl rfl h_51) ?_; refine PL.op rfl (Rd.fieldT rfl) ?_; refine PL.op rfl (Rd.elMF (f := 1) rfl h_51 rfl rfl) ?_; refine PL.ef rfl (Ef.litM (α := Int) [x50.row] [_] rfl rfl (by decide) rfl rfl rfl rfl) ?_; refine PL.nm (.os 1 0 1) [some ⟨.tr (eL v13), 3, 1⟩, some ⟨.tr (eL [x50.row]), 3, 1⟩] rfl rfl ?_; refine PL.apM hs rfl rfl rfl rfl (SrcA.ownE rfl rfl rfl) rfl rfl rfl rfl h_53 ?_; refine PL.nm (.os 2 0 xs52.length) [none, some ⟨.tr (eL [x50.row]), 3, 1⟩, some ⟨.tr (eL xs52), 3, 1⟩] rfl rfl ?_; refine PL.op rfl (Rd.asnO rfl) ?_; refine PL.nil ?_; refine inA_n ?_; refine thA_n ?_; obtain ⟨n54, h_55, hh1⟩ := bind_some hh1; refine PC.rg ?_; refine PL.mT rfl rfl ?_; refine PL.op rfl (Rd.addM rfl rfl h_55) ?_; refine PL.aT rfl rfl ?_; refine PL.nil ?_; obtain rfl := some_in hh1; refine thA_n ?_; exact ⟨(f34, (n54, xs52)), Nat.lt_succ_self _, kk1, [some 2], ⟨rfl, rfl, ⟨⟨_, rfl, rfl, rfl, .tr _⟩, trivial⟩, ⟨.t _, .os rfl, .t _, .t _, .t _, trivial⟩⟩⟩
  clear hh0
  rintro v31 hh0
  replace hh0 : m_S_SearchPairs_k1 N v31 = some r := hh0
  unfold m_S_SearchPairs_k1 at hh0; refine thA_n ?_; refine PC.seq ?_; obtain ⟨r37, h_38, hh0⟩ := bind_some hh0; refine PC.rg ?_; refine PL.op rfl (Rd.moveO rfl) ?_; refine PL.callM true [] (w_S_sorted N v31 r37 h_38) rfl Try.call40 rfl ⟨.own rfl (by first | decide | exact List.not_mem_nil) rfl rfl, trivial⟩ rfl trivial (fun _ => ⟨trivial, (flat_cons flat_ow flat_nil)⟩) ?_; refine PL.nm (.os 1 0 r37.length) [some ⟨.tr (eL v31), 3, 1⟩, some ⟨.tr (eL r37), 3, 1⟩] rfl rfl ?_; refine PL.op rfl (Rd.asnO rfl) ?_; refine PL.nn ?_; refine PC.ret ?_; obtain rfl := some_in hh0; exact FinA.mk (r := .os 0 0 r37.length) (bl := [⟨.tr (eL r37), 3, 1⟩]) [some 1] (.inl rfl) rfl (rl := [.tmp 6]) (.tmp .nil) rfl rfl rfl (.os rfl) ⟨⟨_, rfl, rfl, rfl, .tr _⟩, trivial⟩ ⟨rfl, rfl⟩
end V
end Go.Proofs.Ytlpbgmahegoidaa
namespace Go.Proofs.Ytlpbgmahegoidaa
namespace V
set_option maxHeartbeats 1000000
def numB (n : Int) : List UInt8 := [i2b (48 + (n + 999999) / 200000), i2b (32 + (n + 999999) / 4000 % 50), i2b (32 + (n + 999999) / 80 % 50), i2b (32 + (n + 999999) % 80)]
def keyB (v : I_Value) : List UInt8 := if v.kind = 0 then [97] else if v.kind = 1 then 98 :: numB v.num else 99 :: (bytesL v.text ++ [1])
def keyP (v : I_Value) : ByteArray := b2s (keyB v)
theorem b2s_app (xs ys : List UInt8) : b2s (xs ++ ys) = b2s xs ++ b2s ys := by
  apply ByteArray.ext
  rw [ByteArray.data_append]
  unfold b2s
  simp
theorem b2s_bytes (u : ByteArray) : b2s (bytesL u) = u := by
  apply ByteArray.ext
  unfold b2s bytesL
  simp
section
variable {N : Nat} (hN : 100000000 ≤ N)
include hN
omit hN in
theorem encodeNum_ok {n : Int} (h : -999999 ≤ n ∧ n ≤ 999999) : m_S_encodeNum N n = some (b2s (numB n)) := by
  refine ok.val ?_
  unfold m_S_encodeNum numB
  refine ok.chk (by omega) ?_
  refine ok.eq (quoM_eq (by omega)) (ok.chk (by omega) (ok.eq (quoM_eq (by omega)) (ok.eq (remM_eq (by omega)) (ok.chk (by omega) (ok.eq (quoM_eq (by omega)) (ok.eq (remM_eq (by omega)) (ok.chk (by omega) (ok.eq (remM_eq (by omega)) (ok.chk (by omega) (ok.some rfl)))))))))) 
omit hN in
theorem loopM_1 {S β : Type} {body : S → Option (S ⊕ β)} {s s' : S} {b : β} (hN : 2 ≤ N) (h1 : body s = some (.inl s')) (h2 : body s' = some (.inr b)) : loopM body N s = some b := by
  obtain ⟨M, rfl⟩ : ∃ M, N = M + 2 := ⟨N - 2, by omega⟩
  unfold loopM
  rw [h1]
  show loopM body (M + 1) s' = _
  unfold loopM
  rw [h2]
theorem keyS {v : I_Value} (h : vV v) : m_S_encodeKey N [v] = some (keyP v) := by
  have h0 : ixI [v] (0 : Int) = some v := rfl
  have e0 : ByteArray.empty.size = 0 := rfl
  have e1 : (ByteArray.mk #[97]).size = 1 := rfl
  have e2 : (ByteArray.mk #[98]).size = 1 := rfl
  have e3 : (ByteArray.mk #[99]).size = 1 := rfl
  have e4 : (ByteArray.mk #[1]).size = 1 := rfl
  have hb : m_S_encodeKey_b1 N [v] ByteArray.empty 0 = some (.inl (keyP v, 1)) := by
    refine ok.val ?_
    unfold m_S_encodeKey_b1
    refine ok.ift (by simp) (ok.eq h0 ?_)
    unfold keyP keyB
    rcases h with ⟨k, n, t⟩ | ⟨k, n1, n2, t⟩ | ⟨k, n, t⟩
    · refine ok.ift k (ok.eq (addS_eq (by omega)) (ok.chk (by omega) (ok.some ?_)))
      rw [if_pos k]; rfl
    · have hl : (b2s (numB v.num)).size = 4 := rfl
      refine ok.iff (by omega) (ok.ift k (ok.eq (addS_eq (by omega)) (ok.eq h0 (ok.eq (encodeNum_ok ⟨n1, n2⟩) (ok.eq (addS_eq ?_) (ok.chk (by omega) (ok.some ?_)))))))
      · rw [ByteArray.size_append]; omega
      · have : b2s (98 :: numB v.num) = b2s ([98] ++ numB v.num) := rfl
        rw [if_neg (by omega), if_pos k, this, b2s_app]
        have : ByteArray.empty ++ ByteArray.mk #[98] = b2s [98] := rfl
        rw [this]; rfl
    · have hs := t.1
      refine ok.iff (by omega) (ok.iff (by omega) (ok.ift k (ok.eq (addS_eq (by omega)) (ok.eq h0 (ok.eq (addS_eq ?_) (ok.eq (addS_eq ?_) (ok.chk (by omega) (ok.some ?_))))))))
      · rw [ByteArray.size_append]; omega
      · rw [ByteArray.size_append, ByteArray.size_append]; omega
      · have : b2s (99 :: (bytesL v.text ++ [1])) = b2s ([99] ++ bytesL v.text ++ [1]) := rfl
        rw [if_neg (by omega), if_neg (by omega), this, b2s_app, b2s_app, b2s_bytes]
        have : ByteArray.empty ++ ByteArray.mk #[99] = b2s [99] := rfl
        rw [this]; rfl
  have he : m_S_encodeKey_b1 N [v] (keyP v) 1 = some (.inr (keyP v)) := by
    unfold m_S_encodeKey_b1
    rw [decide_eq_false (by simp)]; rfl
  unfold m_S_encodeKey
  rw [loopM_1 (by omega) hb he]; rfl
theorem keyI {v : I_Value} (h : vV v) (hbd : v.text.size ≤ 5000000) : m_I_EncodeKey N [v] = some (keyP v) := by
  have h0 : ixI [v] (0 : Int) = some v := rfl
  have hrow : m_I_validRow N [v] = some true := by
    have hb : m_I_validRow_b1 N [v] 0 = some (.inl 1) := by
      refine ok.val ?_
      unfold m_I_validRow_b1
      exact ok.ift (by simp) (ok.eq h0 (ok.eq (vVI hN hbd) (ok.ift h (ok.chk (by decide) (ok.some rfl)))))
    have he : m_I_validRow_b1 N [v] 1 = some (.inr (.inl ())) := rfl
    unfold m_I_validRow
    rw [decide_eq_false (by simp), cond_false, loopM_1 (by omega) hb he]; rfl
  have hb : m_I_EncodeKey_b1 N [v] 0 [] = some (.inl (1, keyB v)) := by
    refine ok.val ?_
    unfold m_I_EncodeKey_b1
    refine ok.ift (by simp) (ok.eq h0 ?_)
    unfold keyB numB
    rcases h with ⟨k, n, t⟩ | ⟨k, n1, n2, t⟩ | ⟨k, n, t⟩
    · refine ok.ift k (ok.app (by decide) (ok.chk (by decide) (ok.some ?_)))
      rw [if_pos k]; rfl
    · refine ok.iff (by omega) (ok.ift k (ok.chk (by omega) ?_))
      refine ok.eq (quoM_eq (by omega)) (ok.chk (by omega) (ok.eq (quoM_eq (by omega)) (ok.eq (remM_eq (by omega)) (ok.chk (by omega) (ok.eq (quoM_eq (by omega)) (ok.eq (remM_eq (by omega)) (ok.chk (by omega) (ok.eq (remM_eq (by omega)) (ok.chk (by omega) (ok.app ⟨by simp, by simp⟩ (ok.chk (by decide) (ok.some ?_))))))))))))
      rw [if_neg (by omega), if_pos k]; rfl
    · have hs := t.1
      have hl := bytesL_len v.text
      refine ok.iff (by omega) (ok.iff (by omega) (ok.app ⟨by simp, by simp⟩ (ok.app ⟨?_, ?_⟩ (ok.app ⟨?_, ?_⟩ (ok.chk (by decide) (ok.some ?_))))))
      · simp only [List.nil_append, List.length_cons, List.length_nil, hl]; omega
      · simp only [List.nil_append, List.length_cons, List.length_nil, hl]; omega
      · simp only [List.nil_append, List.length_append, List.length_cons, List.length_nil, hl]; omega
      · simp only [List.nil_append, List.length_append, List.length_cons, List.length_nil, hl]; omega
      · rw [if_neg (by omega), if_neg (by omega)]; rfl
  have he : m_I_EncodeKey_b1 N [v] 1 (keyB v) = some (.inr (keyB v)) := by
    unfold m_I_EncodeKey_b1
    rw [decide_eq_false (by simp)]; rfl
  unfold m_I_EncodeKey
  rw [hrow]
  show (loopM _ N _).bind _ = _
  rw [loopM_1 (s' := ((1 : Int), keyB v)) (by omega) hb he]; rfl
end
end V
end Go.Proofs.Ytlpbgmahegoidaa
