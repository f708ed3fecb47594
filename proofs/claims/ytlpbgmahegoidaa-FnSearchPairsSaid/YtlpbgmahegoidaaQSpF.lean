/- What the rows need, part 6. No condition. -/
import Derived.Test.YtlpbgmahegoidaaRows
import Derived.ProofKit
import Derived.Deep.Slices
import Derived.Test.YtlpbgmahegoidaaQSpE
set_option linter.unusedVariables false
set_option linter.unusedSimpArgs false
namespace Go.Proofs.Ytlpbgmahegoidaa
namespace V
open Enc (enc)
set_option maxHeartbeats 4000000
set_option maxRecDepth 100000
open Go.RowKit
attribute [local irreducible] thA inA FinA eL
def m_L_equalInts_k1 (N : Nat) : Option (Bool) :=
  some true
def m_L_equalInts_b1 (N : Nat) (p_a : (List Int)) (p_b : (List Int)) (i2 : Int) : Option (Int ⊕ (Unit ⊕ Bool)) :=
  cond (decide (i2 < (p_a.length : Int)))
    ((ixI p_a i2).bind fun x17 =>
    (ixI p_b i2).bind fun x19 =>
    cond (decide (x17 = x19))
      ((chk (i2 + (1 : Int))).bind fun n22 =>
      some (.inl n22))
      (some (.inr (.inr false))))
    (some (.inr (.inl ())))
def m_L_equalInts (N : Nat) (p_a : (List Int)) (p_b : (List Int)) : Option (Bool) :=
  cond (decide ((p_a.length : Int) = (p_b.length : Int)))
    ((loopM (β := Unit ⊕ Bool) (fun s : Int => m_L_equalInts_b1 N p_a p_b s) N (0 : Int)).bind fun o => match o with
    | .inl e =>
      m_L_equalInts_k1 N 
    | .inr v =>
      some v)
    (some false)
theorem w_L_equalInts (N : Nat) (p_a : (List Int)) (p_b : (List Int)) (r : Bool) (hh0 : m_L_equalInts N p_a p_b = some r) : FnX Try.prog 27 [] [sL p_a, sL p_b] (RE (bA r) []) := by
  unfold m_L_equalInts at hh0; refine FnX.mk Try.func27 rfl rfl ?_; intro s hs; refine PC.seq ?_; refine PC.rg ?_; refine PL.aT rfl rfl ?_; refine PL.nn ?_; (iterate 2 refine PC.seq ?_); refine PC.rg ?_; refine PL.mT rfl rfl ?_; refine PL.op rfl (Rd.lenT rfl) ?_; refine PL.mT rfl rfl ?_; refine PL.op rfl (Rd.lenT rfl) ?_; refine PL.op rfl (Rd.neq rfl rfl) ?_; refine PL.nn ?_; rcases cond_some hh0 with ⟨h_1, hh0⟩ | ⟨h_1, hh0⟩; rotate_left
  · refine PC.ct rfl (not_f h_1) ?_; refine PC.seq ?_; refine PC.rg ?_; refine PL.aT rfl rfl ?_; refine PL.nn ?_; refine PC.ret ?_; refine thA_r ?_; obtain rfl := some_in hh0; exact FinA.mk (r := bA false) (bl := []) [] (.inl rfl) rfl (rl := [.tmp 4]) (.tmp .nil) rfl rfl rfl (.t _) trivial ⟨rfl, rfl⟩
  refine PC.cf rfl (not_t h_1) ?_; refine PC.skip ?_; refine thA_n ?_; (iterate 2 refine PC.seq ?_); refine PC.rg ?_; refine PL.aT rfl rfl ?_; refine PL.nn ?_; obtain ⟨o11, h_12, hh0⟩ := bind_some hh0; refine PC.cutE hs (fun x : Unit => []) (fun x => []) (fun x => m_L_equalInts_k1 N  = some r) ?_ ?_
  · refine PC.block ?_; refine PC.loop hs (fun x : Nat × (Int) => [(0, sL p_a), (1, sL p_b), (5, iA x.2)]) (fun x => []) (fun x => loopM (β := Unit ⊕ Bool) (fun s : Int => m_L_equalInts_b1 N p_a p_b s) x.1 x.2 = some o11) (fun x => x.1) (N, (0 : Int)) [] ⟨rfl, rfl, trivial, ⟨.t _, .t _, .t _, trivial⟩⟩ h_12 ?_
    rintro ⟨f13_, i2⟩ h_15
    obtain ⟨f13, y14, rfl, hh1, kk1⟩ := loopM_some h_15
    replace hh1 : m_L_equalInts_b1 N p_a p_b i2 = some y14 := hh1
    unfold m_L_equalInts_b1 at hh1; (iterate 2 refine PC.seq ?_); refine PC.rg ?_; (iterate 2 refine PL.mT rfl rfl ?_); refine PL.op rfl (Rd.lenT rfl) ?_; refine PL.op rfl (Rd.lss rfl rfl) ?_; refine PL.nn ?_; rcases cond_some hh1 with ⟨h_16, hh1⟩ | ⟨h_16, hh1⟩; rotate_left
    · refine PC.cf rfl h_16 ?_; refine PC.exit ?_; (iterate 2 refine thA_e ?_); refine inA_eq rfl ?_; refine thA_n ?_; obtain rfl := some_in hh1; obtain rfl : (.inl () : Unit ⊕ Bool) = o11 := kk1; exact ⟨(), hh0, [], ⟨rfl, rfl, trivial, trivial⟩⟩
    refine PC.ct rfl h_16 ?_; refine PC.skip ?_; refine thA_n ?_; refine PC.seq ?_; refine PC.block ?_; refine PC.seq ?_; obtain ⟨x17, h_18, hh1⟩ := bind_some hh1; obtain ⟨x19, h_20, hh1⟩ := bind_some hh1; refine PC.any (id := 6) 9 (.seg [0, 1, 2, 3, 4, 5, 6, 7, 8] .done) [] rfl (by kernel_rfl) rfl ?_; refine PT.seg ?_; (iterate 2 refine PR.op rfl (Rd.moveT rfl) ?_); refine PR.op rfl (Rd.ixM rfl rfl h_18) ?_; refine PR.op rfl (Rd.elM1 rfl h_18 rfl rfl) ?_; (iterate 2 refine PR.op rfl (Rd.moveT rfl) ?_); refine PR.op rfl (Rd.ixM rfl rfl h_20) ?_; refine PR.op rfl (Rd.elM1 rfl h_20 rfl rfl) ?_; refine PR.op rfl (Rd.neq rfl rfl) ?_; refine PR.nil ?_; refine PT.done ?_; refine PL.nn ?_; rcases cond_some hh1 with ⟨h_21, hh1⟩ | ⟨h_21, hh1⟩
    · refine PC.cf rfl (not_t h_21) ?_; refine PC.skip ?_; refine inA_n ?_; refine thA_n ?_; obtain ⟨n22, h_23, hh1⟩ := bind_some hh1; refine PC.rg ?_; refine PL.mT rfl rfl ?_; refine PL.op rfl (Rd.addM rfl rfl h_23) ?_; refine PL.aT rfl rfl ?_; refine PL.nil ?_; obtain rfl := some_in hh1; refine thA_n ?_; exact ⟨(f13, n22), Nat.lt_succ_self _, kk1, [], ⟨rfl, rfl, trivial, ⟨.t _, .t _, .t _, trivial⟩⟩⟩
    refine PC.ct rfl (not_f h_21) ?_; refine PC.seq ?_; refine PC.rg ?_; refine PL.aT rfl rfl ?_; refine PL.nn ?_; refine PC.ret ?_; refine inA_r ?_; (iterate 2 refine thA_r ?_); refine inA_r ?_; refine thA_r ?_; obtain rfl := some_in hh1; obtain rfl : (.inr false : Unit ⊕ Bool) = o11 := kk1; refine thA_r ?_; obtain rfl := some_in hh0; exact FinA.mk (r := bA false) (bl := []) [] (.inl rfl) rfl (rl := [.tmp 4]) (.tmp .nil) rfl rfl rfl (.t _) trivial ⟨rfl, rfl⟩
  clear hh0
  rintro ⟨⟩ hh0
  replace hh0 : m_L_equalInts_k1 N  = some r := hh0
  unfold m_L_equalInts_k1 at hh0; refine thA_n ?_; refine PC.seq ?_; refine PC.rg ?_; refine PL.aT rfl rfl ?_; refine PL.nn ?_; refine PC.ret ?_; obtain rfl := some_in hh0; exact FinA.mk (r := bA true) (bl := []) [] (.inl rfl) rfl (rl := [.tmp 4]) (.tmp .nil) rfl rfl rfl (.t _) trivial ⟨rfl, rfl⟩
def m_L_FnSearchPairs_k1 (N : Nat) (r4 : ((List Int))) (r16 : ((List Int))) (i32 : Int) : Option (Bool) :=
  cond (decide ((r16.length : Int) = i32))
    (some (decide ((r16.length : Int) ≤ (r4.length : Int))))
    (some false)
def m_L_FnSearchPairs_b1 (N : Nat) (r2 : ((List I_Pair) × I_Value × I_Value)) (r18 : (ByteArray)) (i20 : Int) (i21 : Int) : Option ((Int × Int) ⊕ Int) :=
  cond (decide (i21 < (r2.1.length : Int)))
    ((ixI r2.1 i21).bind fun x40 =>
    cond (x40.key.toList == r18.toList)
      ((chk (i20 + (1 : Int))).bind fun n43 =>
      (chk (i21 + (1 : Int))).bind fun n45 =>
      some (.inl (n43, n45)))
      ((chk (i21 + (1 : Int))).bind fun n47 =>
      some (.inl (i20, n47))))
    (some (.inr i20))
def m_L_FnSearchPairs (N : Nat) (p_code : (List UInt8)) : Option (Bool) :=
  cond (decide ((1048576 : Int) < (p_code.length : Int)))
    (some true)
    ((m_S_DrawSearchPairs N p_code).bind fun r2 =>
    (m_I_SearchPairs N r2.1 r2.2.1 r2.2.2).bind fun r4 =>
    (m_S_SearchPairs N r2.1 r2.2.1 r2.2.2).bind fun r6 =>
    (m_L_equalInts N r4 r6).bind fun r8 =>
    cond r8
      (cond (decide ((r4.length : Int) = (0 : Int)))
        ((m_S_SearchPairs N r2.1 r2.2.1 r2.2.2).bind fun r12 =>
        (m_L_equalInts N r4 r12).bind fun r14 =>
        some r14)
        ((m_I_SearchPairs N r2.1 r2.2.1 r2.2.1).bind fun r16 =>
        (m_I_EncodeKey N [r2.2.1]).bind fun r18 =>
        (loopM (β := Int) (fun s : Int × Int => m_L_FnSearchPairs_b1 N r2 r18 s.1 s.2) N ((0 : Int), (0 : Int))).bind fun e =>
        m_L_FnSearchPairs_k1 N r4 r16 e))
      ((m_S_SearchPairs N r2.1 r2.2.1 r2.2.2).bind fun r49 =>
      (m_L_equalInts N r4 r49).bind fun r51 =>
      some r51))
theorem w_L_FnSearchPairs (N : Nat) (p_code : (List UInt8)) (r : Bool) (hh0 : m_L_FnSearchPairs N p_code = some r) : FnX Try.prog 5 [] [sL p_code] (RE (bA r) []) := by
  unfold m_L_FnSearchPairs at hh0; refine FnX.mk Try.func5 rfl rfl ?_; intro s hs; refine PC.seq ?_; refine PC.rg ?_; refine PL.aT rfl rfl ?_; refine PL.nn ?_; (iterate 2 refine PC.seq ?_); refine PC.rg ?_; refine PL.mT rfl rfl ?_; refine PL.op rfl (Rd.lenT rfl) ?_; refine PL.op rfl (Rd.gtr rfl rfl) ?_; refine PL.nn ?_; rcases cond_some hh0 with ⟨h_1, hh0⟩ | ⟨h_1, hh0⟩
  · refine PC.ct rfl h_1 ?_; refine PC.seq ?_; refine PC.rg ?_; refine PL.aT rfl rfl ?_; refine PL.nn ?_; refine PC.ret ?_; refine thA_r ?_; obtain rfl := some_in hh0; exact FinA.mk (r := bA true) (bl := []) [] (.inl rfl) rfl (rl := [.tmp 2]) (.tmp .nil) rfl rfl rfl (.t _) trivial ⟨rfl, rfl⟩
  refine PC.cf rfl h_1 ?_; refine PC.skip ?_; refine thA_n ?_; refine PC.seq ?_; obtain ⟨r2, h_3, hh0⟩ := bind_some hh0; refine PC.rg ?_; refine PL.mT rfl rfl ?_; refine PL.callM false [] (w_S_DrawSearchPairs N p_code r2 h_3) rfl Try.call26 rfl ⟨.t _, trivial⟩ rfl trivial (fun h => by cases h) ?_; refine PL.nm (.tup [.os 0 0 r2.1.length, .agg [iA r2.2.1.kind, iA r2.2.1.num, sA r2.2.1.text], .agg [iA r2.2.2.kind, iA r2.2.2.num, sA r2.2.2.text]]) [some ⟨.tr (eL r2.1), 55, 2⟩] rfl rfl ?_; refine PL.frz hs 0 1 [(16, .tup [sL r2.1, .agg [iA r2.2.1.kind, iA r2.2.1.num, sA r2.2.1.text], .agg [iA r2.2.2.kind, iA r2.2.2.num, sA r2.2.2.text]])] [none] rfl rfl ⟨(.tupL ⟨(.own rfl (by decide) rfl rfl), (.aggL ⟨(.t _), (.t _), (.t _), trivial⟩), (.aggL ⟨(.t _), (.t _), (.t _), trivial⟩), trivial⟩), trivial⟩ trivial ?_; refine PL.nm (.tup [sL r2.1, .agg [iA r2.2.1.kind, iA r2.2.1.num, sA r2.2.1.text], .agg [iA r2.2.2.kind, iA r2.2.2.num, sA r2.2.2.text]]) [none] rfl rfl ?_; refine PL.op rfl (Rd.moveU rfl) ?_; (iterate 3 refine PL.op rfl (Rd.extract rfl rfl) ?_); refine PL.ef rfl (Ef.alloc rfl rfl) ?_; refine PL.nm (.op 1 0) [none, some ⟨.mx [iA (0 : Int), iA (0 : Int), sA ByteArray.empty], 42, 0⟩] rfl rfl ?_; refine PL.ef rfl (Ef.alloc rfl rfl) ?_; refine PL.nm (.op 2 0) [none, some ⟨.mx [iA (0 : Int), iA (0 : Int), sA ByteArray.empty], 42, 0⟩, some ⟨.mx [iA (0 : Int), iA (0 : Int), sA ByteArray.empty], 42, 0⟩] rfl rfl ?_; refine PL.aT rfl rfl ?_; refine PL.store rfl rfl rfl rfl rfl rfl rfl ?_; refine PL.nO [none, some ⟨.mx [iA r2.2.1.kind, iA r2.2.1.num, sA r2.2.1.text], 42, 0⟩, some ⟨.mx [iA (0 : Int), iA (0 : Int), sA ByteArray.empty], 42, 0⟩] rfl ?_; refine PL.store rfl rfl rfl rfl rfl rfl rfl ?_; refine PL.nO [none, some ⟨.mx [iA r2.2.1.kind, iA r2.2.1.num, sA r2.2.1.text], 42, 0⟩, some ⟨.mx [iA r2.2.2.kind, iA r2.2.2.num, sA r2.2.2.text], 42, 0⟩] rfl ?_; refine PL.nn ?_; refine PC.seq ?_; obtain ⟨r4, h_5, hh0⟩ := bind_some hh0; refine PC.rg ?_; refine PL.mT rfl rfl ?_; (iterate 2 refine PL.op rfl (Rd.loadBox rfl rfl rfl) ?_); refine PL.callM false [] (w_I_SearchPairs N r2.1 r2.2.1 r2.2.2 r4 h_5) rfl Try.call20 rfl ⟨.t _, .aggL ⟨.t _, .t _, .t _, trivial⟩, .aggL ⟨.t _, .t _, .t _, trivial⟩, trivial⟩ rfl trivial (fun h => by cases h) ?_; refine PL.nm (.os 3 0 r4.length) [none, some ⟨.mx [iA r2.2.1.kind, iA r2.2.1.num, sA r2.2.1.text], 42, 0⟩, some ⟨.mx [iA r2.2.2.kind, iA r2.2.2.num, sA r2.2.2.text], 42, 0⟩, some ⟨.tr (eL r4), 3, 1⟩] rfl rfl ?_; refine PL.frz hs 3 4 [(23, sL r4)] [none, some ⟨.mx [iA r2.2.1.kind, iA r2.2.1.num, sA r2.2.1.text], 42, 0⟩, some ⟨.mx [iA r2.2.2.kind, iA r2.2.2.num, sA r2.2.2.text], 42, 0⟩, none] rfl rfl ⟨(.own rfl (by decide) rfl rfl), trivial⟩ ⟨⟨rfl, .inl rfl⟩, ⟨rfl, .inl rfl⟩, trivial⟩ ?_; refine PL.nm (sL r4) [none, some ⟨.mx [iA r2.2.1.kind, iA r2.2.1.num, sA r2.2.1.text], 42, 0⟩, some ⟨.mx [iA r2.2.2.kind, iA r2.2.2.num, sA r2.2.2.text], 42, 0⟩, none] rfl rfl ?_; refine PL.aT rfl rfl ?_; refine PL.nn ?_; (iterate 2 refine PC.seq ?_); obtain ⟨r6, h_7, hh0⟩ := bind_some hh0; obtain ⟨r8, h_9, hh0⟩ := bind_some hh0; rcases cond_some hh0 with ⟨h_10, hh0⟩ | ⟨h_10, hh0⟩; rotate_left
  · refine PC.rg ?_; (iterate 2 refine PL.mT rfl rfl ?_); (iterate 2 refine PL.op rfl (Rd.loadBox rfl rfl rfl) ?_); refine PL.callM false [] (w_S_SearchPairs N r2.1 r2.2.1 r2.2.2 r6 h_7) rfl Try.call17 rfl ⟨.t _, .aggL ⟨.t _, .t _, .t _, trivial⟩, .aggL ⟨.t _, .t _, .t _, trivial⟩, trivial⟩ rfl trivial (fun h => by cases h) ?_; refine PL.nm (.os 4 0 r6.length) [none, some ⟨.mx [iA r2.2.1.kind, iA r2.2.1.num, sA r2.2.1.text], 42, 0⟩, some ⟨.mx [iA r2.2.2.kind, iA r2.2.2.num, sA r2.2.2.text], 42, 0⟩, none, some ⟨.tr (eL r6), 3, 1⟩] rfl rfl ?_; refine PL.frz hs 4 5 [(28, sL r6)] [none, some ⟨.mx [iA r2.2.1.kind, iA r2.2.1.num, sA r2.2.1.text], 42, 0⟩, some ⟨.mx [iA r2.2.2.kind, iA r2.2.2.num, sA r2.2.2.text], 42, 0⟩, none, none] rfl rfl ⟨(.own rfl (by decide) rfl rfl), trivial⟩ ⟨⟨rfl, .inl rfl⟩, ⟨rfl, .inl rfl⟩, trivial⟩ ?_; refine PL.nm (sL r6) [none, some ⟨.mx [iA r2.2.1.kind, iA r2.2.1.num, sA r2.2.1.text], 42, 0⟩, some ⟨.mx [iA r2.2.2.kind, iA r2.2.2.num, sA r2.2.2.text], 42, 0⟩, none, none] rfl rfl ?_; refine PL.callM false [] (w_L_equalInts N r4 r6 r8 h_9) rfl Try.call27 rfl ⟨.t _, .t _, trivial⟩ rfl trivial (fun h => by cases h) ?_; refine PL.op rfl (Rd.unnot rfl) ?_; refine PL.mT rfl rfl ?_; (iterate 3 refine PL.gf rfl rfl (not_f h_10) ?_); refine PL.op rfl (Rd.pick_t rfl (not_f h_10)) ?_; refine PL.nn ?_; refine PC.ct rfl rfl ?_; refine PC.seq ?_; obtain ⟨r49, h_50, hh0⟩ := bind_some hh0; obtain ⟨r51, h_52, hh0⟩ := bind_some hh0; refine PC.rg ?_; (iterate 2 refine PL.mT rfl rfl ?_); (iterate 2 refine PL.op rfl (Rd.loadBox rfl rfl rfl) ?_); refine PL.callM false [] (w_S_SearchPairs N r2.1 r2.2.1 r2.2.2 r49 h_50) rfl Try.call17 rfl ⟨.t _, .aggL ⟨.t _, .t _, .t _, trivial⟩, .aggL ⟨.t _, .t _, .t _, trivial⟩, trivial⟩ rfl trivial (fun h => by cases h) ?_; refine PL.nm (.os 5 0 r49.length) [none, some ⟨.mx [iA r2.2.1.kind, iA r2.2.1.num, sA r2.2.1.text], 42, 0⟩, some ⟨.mx [iA r2.2.2.kind, iA r2.2.2.num, sA r2.2.2.text], 42, 0⟩, none, none, some ⟨.tr (eL r49), 3, 1⟩] rfl rfl ?_; refine PL.frz hs 5 6 [(40, sL r49)] [none, some ⟨.mx [iA r2.2.1.kind, iA r2.2.1.num, sA r2.2.1.text], 42, 0⟩, some ⟨.mx [iA r2.2.2.kind, iA r2.2.2.num, sA r2.2.2.text], 42, 0⟩, none, none, none] rfl rfl ⟨(.own rfl (by decide) rfl rfl), trivial⟩ ⟨⟨rfl, .inl rfl⟩, ⟨rfl, .inl rfl⟩, trivial⟩ ?_; refine PL.nm (sL r49) [none, some ⟨.mx [iA r2.2.1.kind, iA r2.2.1.num, sA r2.2.1.text], 42, 0⟩, some ⟨.mx [iA r2.2.2.kind, iA r2.2.2.num, sA r2.2.2.text], 42, 0⟩, none, none, none] rfl rfl ?_; refine PL.callM false [] (w_L_equalInts N r4 r49 r51 h_52) rfl Try.call27 rfl ⟨.t _, .t _, trivial⟩ rfl trivial (fun h => by cases h) ?_; refine PL.aT rfl rfl ?_; refine PL.nn ?_; refine PC.ret ?_; refine thA_r ?_; obtain rfl := some_in hh0; exact FinA.mk (r := bA r51) (bl := []) [] (.inl rfl) rfl (rl := [.tmp 2]) (.tmp .nil) rfl rfl rfl (.t _) trivial ⟨rfl, rfl⟩
  refine PC.rg ?_; (iterate 2 refine PL.mT rfl rfl ?_); (iterate 2 refine PL.op rfl (Rd.loadBox rfl rfl rfl) ?_); refine PL.callM false [] (w_S_SearchPairs N r2.1 r2.2.1 r2.2.2 r6 h_7) rfl Try.call17 rfl ⟨.t _, .aggL ⟨.t _, .t _, .t _, trivial⟩, .aggL ⟨.t _, .t _, .t _, trivial⟩, trivial⟩ rfl trivial (fun h => by cases h) ?_; refine PL.nm (.os 4 0 r6.length) [none, some ⟨.mx [iA r2.2.1.kind, iA r2.2.1.num, sA r2.2.1.text], 42, 0⟩, some ⟨.mx [iA r2.2.2.kind, iA r2.2.2.num, sA r2.2.2.text], 42, 0⟩, none, some ⟨.tr (eL r6), 3, 1⟩] rfl rfl ?_; refine PL.frz hs 4 5 [(28, sL r6)] [none, some ⟨.mx [iA r2.2.1.kind, iA r2.2.1.num, sA r2.2.1.text], 42, 0⟩, some ⟨.mx [iA r2.2.2.kind, iA r2.2.2.num, sA r2.2.2.text], 42, 0⟩, none, none] rfl rfl ⟨(.own rfl (by decide) rfl rfl), trivial⟩ ⟨⟨rfl, .inl rfl⟩, ⟨rfl, .inl rfl⟩, trivial⟩ ?_; refine PL.nm (sL r6) [none, some ⟨.mx [iA r2.2.1.kind, iA r2.2.1.num, sA r2.2.1.text], 42, 0⟩, some ⟨.mx [iA r2.2.2.kind, iA r2.2.2.num, sA r2.2.2.text], 42, 0⟩, none, none] rfl rfl ?_; refine PL.callM false [] (w_L_equalInts N r4 r6 r8 h_9) rfl Try.call27 rfl ⟨.t _, .t _, trivial⟩ rfl trivial (fun h => by cases h) ?_; refine PL.op rfl (Rd.unnot rfl) ?_; refine PL.mT rfl rfl ?_; refine PL.gn rfl (not_t h_10) ?_; refine PL.mT rfl rfl ?_; refine PL.gn rfl (not_t h_10) ?_; refine PL.op rfl (Rd.lenT rfl) ?_; refine PL.gn rfl (not_t h_10) ?_; refine PL.op rfl (Rd.eql rfl rfl) ?_; refine PL.op rfl (Rd.pick_f rfl (not_t h_10)) ?_; refine PL.nn ?_; rcases cond_some hh0 with ⟨h_11, hh0⟩ | ⟨h_11, hh0⟩
  · refine PC.ct rfl h_11 ?_; refine PC.seq ?_; obtain ⟨r12, h_13, hh0⟩ := bind_some hh0; obtain ⟨r14, h_15, hh0⟩ := bind_some hh0; refine PC.rg ?_; (iterate 2 refine PL.mT rfl rfl ?_); (iterate 2 refine PL.op rfl (Rd.loadBox rfl rfl rfl) ?_); refine PL.callM false [] (w_S_SearchPairs N r2.1 r2.2.1 r2.2.2 r12 h_13) rfl Try.call17 rfl ⟨.t _, .aggL ⟨.t _, .t _, .t _, trivial⟩, .aggL ⟨.t _, .t _, .t _, trivial⟩, trivial⟩ rfl trivial (fun h => by cases h) ?_; refine PL.nm (.os 5 0 r12.length) [none, some ⟨.mx [iA r2.2.1.kind, iA r2.2.1.num, sA r2.2.1.text], 42, 0⟩, some ⟨.mx [iA r2.2.2.kind, iA r2.2.2.num, sA r2.2.2.text], 42, 0⟩, none, none, some ⟨.tr (eL r12), 3, 1⟩] rfl rfl ?_; refine PL.frz hs 5 6 [(40, sL r12)] [none, some ⟨.mx [iA r2.2.1.kind, iA r2.2.1.num, sA r2.2.1.text], 42, 0⟩, some ⟨.mx [iA r2.2.2.kind, iA r2.2.2.num, sA r2.2.2.text], 42, 0⟩, none, none, none] rfl rfl ⟨(.own rfl (by decide) rfl rfl), trivial⟩ ⟨⟨rfl, .inl rfl⟩, ⟨rfl, .inl rfl⟩, trivial⟩ ?_; refine PL.nm (sL r12) [none, some ⟨.mx [iA r2.2.1.kind, iA r2.2.1.num, sA r2.2.1.text], 42, 0⟩, some ⟨.mx [iA r2.2.2.kind, iA r2.2.2.num, sA r2.2.2.text], 42, 0⟩, none, none, none] rfl rfl ?_; refine PL.callM false [] (w_L_equalInts N r4 r12 r14 h_15) rfl Try.call27 rfl ⟨.t _, .t _, trivial⟩ rfl trivial (fun h => by cases h) ?_; refine PL.aT rfl rfl ?_; refine PL.nn ?_; refine PC.ret ?_; refine thA_r ?_; obtain rfl := some_in hh0; exact FinA.mk (r := bA r14) (bl := []) [] (.inl rfl) rfl (rl := [.tmp 2]) (.tmp .nil) rfl rfl rfl (.t _) trivial ⟨rfl, rfl⟩
  refine PC.cf rfl h_11 ?_; refine PC.skip ?_; refine thA_n ?_; refine PC.seq ?_; obtain ⟨r16, h_17, hh0⟩ := bind_some hh0; refine PC.rg ?_; refine PL.mT rfl rfl ?_; (iterate 2 refine PL.op rfl (Rd.loadBox rfl rfl rfl) ?_); refine PL.callM false [] (w_I_SearchPairs N r2.1 r2.2.1 r2.2.1 r16 h_17) rfl Try.call20 rfl ⟨.t _, .aggL ⟨.t _, .t _, .t _, trivial⟩, .aggL ⟨.t _, .t _, .t _, trivial⟩, trivial⟩ rfl trivial (fun h => by cases h) ?_; refine PL.nm (.os 5 0 r16.length) [none, some ⟨.mx [iA r2.2.1.kind, iA r2.2.1.num, sA r2.2.1.text], 42, 0⟩, some ⟨.mx [iA r2.2.2.kind, iA r2.2.2.num, sA r2.2.2.text], 42, 0⟩, none, none, some ⟨.tr (eL r16), 3, 1⟩] rfl rfl ?_; refine PL.frz hs 5 6 [(45, sL r16)] [none, some ⟨.mx [iA r2.2.1.kind, iA r2.2.1.num, sA r2.2.1.text], 42, 0⟩, some ⟨.mx [iA r2.2.2.kind, iA r2.2.2.num, sA r2.2.2.text], 42, 0⟩, none, none, none] rfl rfl ⟨(.own rfl (by decide) rfl rfl), trivial⟩ ⟨⟨rfl, .inl rfl⟩, ⟨rfl, .inl rfl⟩, trivial⟩ ?_; refine PL.nm (sL r16) [none, some ⟨.mx [iA r2.2.1.kind, iA r2.2.1.num, sA r2.2.1.text], 42, 0⟩, some ⟨.mx [iA r2.2.2.kind, iA r2.2.2.num, sA r2.2.2.text], 42, 0⟩, none, none, none] rfl rfl ?_; refine PL.aT rfl rfl ?_; refine PL.nn ?_; refine PC.seq ?_; obtain ⟨r18, h_19, hh0⟩ := bind_some hh0; refine PC.rg ?_; refine PL.op rfl (Rd.loadBox rfl rfl rfl) ?_; refine PL.ef rfl (Ef.litM (α := I_Value) [r2.2.1] [_] rfl rfl (by decide) rfl rfl rfl rfl) ?_; refine PL.nm (.os 6 0 1) [none, some ⟨.mx [iA r2.2.1.kind, iA r2.2.1.num, sA r2.2.1.text], 42, 0⟩, some ⟨.mx [iA r2.2.2.kind, iA r2.2.2.num, sA r2.2.2.text], 42, 0⟩, none, none, none, some ⟨.tr (eL [r2.2.1]), 42, 3⟩] rfl rfl ?_; refine PL.callM true [] (w_I_EncodeKey N [r2.2.1] r18 h_19) rfl Try.call28 rfl ⟨.own rfl (by first | decide | exact List.not_mem_nil) rfl rfl, trivial⟩ rfl trivial (fun _ => ⟨trivial, flat_nil⟩) ?_; refine PL.aT rfl rfl ?_; refine PL.nn ?_; refine PC.seq ?_; refine PC.rg ?_; refine PL.aT rfl rfl ?_; refine PL.nn ?_; (iterate 2 refine PC.seq ?_); refine PC.rg ?_; refine PL.aT rfl rfl ?_; refine PL.nn ?_; obtain ⟨o33, h_34, hh0⟩ := bind_some hh0; refine PC.cutE hs (fun x : Int => [(6, sL r4), (7, sL r16), (9, iA x)]) (fun x => []) (fun x => m_L_FnSearchPairs_k1 N r4 r16 x = some r) ?_ ?_
  · refine PC.block ?_; refine PC.loop hs (fun x : Nat × (Int × Int) => [(3, sL r2.1), (6, sL r4), (7, sL r16), (8, sA r18), (9, iA x.2.1), (10, iA x.2.2)]) (fun x => []) (fun x => loopM (β := Int) (fun s : Int × Int => m_L_FnSearchPairs_b1 N r2 r18 s.1 s.2) x.1 x.2 = some o33) (fun x => x.1) (N, ((0 : Int), (0 : Int))) [] ⟨rfl, rfl, trivial, ⟨.t _, .t _, .t _, .t _, .t _, .t _, trivial⟩⟩ h_34 ?_
    rintro ⟨f35_, i20, i21⟩ h_37
    obtain ⟨f35, y36, rfl, hh1, kk1⟩ := loopM_some h_37
    replace hh1 : m_L_FnSearchPairs_b1 N r2 r18 i20 i21 = some y36 := hh1
    unfold m_L_FnSearchPairs_b1 at hh1; (iterate 2 refine PC.seq ?_); refine PC.rg ?_; (iterate 2 refine PL.mT rfl rfl ?_); refine PL.op rfl (Rd.lenT rfl) ?_; refine PL.op rfl (Rd.lss rfl rfl) ?_; refine PL.nn ?_; rcases cond_some hh1 with ⟨h_39, hh1⟩ | ⟨h_39, hh1⟩; rotate_left
    · refine PC.cf rfl h_39 ?_; refine PC.exit ?_; (iterate 2 refine thA_e ?_); refine inA_eq rfl ?_; refine thA_n ?_; obtain rfl := some_in hh1; obtain rfl : (i20 : Int) = o33 := kk1; exact ⟨i20, hh0, [], ⟨rfl, rfl, trivial, ⟨.t _, .t _, .t _, trivial⟩⟩⟩
    refine PC.ct rfl h_39 ?_; refine PC.skip ?_; refine thA_n ?_; refine PC.seq ?_; refine PC.block ?_; refine PC.seq ?_; obtain ⟨x40, h_41, hh1⟩ := bind_some hh1; refine PC.rg ?_; (iterate 2 refine PL.mT rfl rfl ?_); refine PL.op rfl (Rd.ixM rfl rfl h_41) ?_; refine PL.op rfl (Rd.fieldT rfl) ?_; refine PL.op rfl (Rd.elMF (f := 0) rfl h_41 rfl rfl) ?_; refine PL.mT rfl rfl ?_; refine PL.op rfl (Rd.eqlS rfl rfl) ?_; refine PL.nn ?_; rcases cond_some hh1 with ⟨h_42, hh1⟩ | ⟨h_42, hh1⟩; rotate_left
    · refine PC.cf rfl h_42 ?_; refine PC.skip ?_; refine inA_n ?_; refine thA_n ?_; obtain ⟨n47, h_48, hh1⟩ := bind_some hh1; refine PC.rg ?_; refine PL.mT rfl rfl ?_; refine PL.op rfl (Rd.addM rfl rfl h_48) ?_; refine PL.aT rfl rfl ?_; refine PL.nil ?_; obtain rfl := some_in hh1; refine thA_n ?_; exact ⟨(f35, (i20, n47)), Nat.lt_succ_self _, kk1, [], ⟨rfl, rfl, trivial, ⟨.t _, .t _, .t _, .t _, .t _, .t _, trivial⟩⟩⟩
    refine PC.ct rfl h_42 ?_; obtain ⟨n43, h_44, hh1⟩ := bind_some hh1; refine PC.rg ?_; refine PL.mT rfl rfl ?_; refine PL.op rfl (Rd.addM rfl rfl h_44) ?_; refine PL.aT rfl rfl ?_; refine PL.nil ?_; refine inA_n ?_; refine thA_n ?_; obtain ⟨n45, h_46, hh1⟩ := bind_some hh1; refine PC.rg ?_; refine PL.mT rfl rfl ?_; refine PL.op rfl (Rd.addM rfl rfl h_46) ?_; refine PL.aT rfl rfl ?_; refine PL.nil ?_; obtain rfl := some_in hh1; refine thA_n ?_; exact ⟨(f35, (n43, n45)), Nat.lt_succ_self _, kk1, [], ⟨rfl, rfl, trivial, ⟨.t _, .t _, .t _, .t _, .t _, .t _, trivial⟩⟩⟩
  clear hh0
  rintro i32 hh0
  replace hh0 : m_L_FnSearchPairs_k1 N r4 r16 i32 = some r := hh0
  unfold m_L_FnSearchPairs_k1 at hh0; refine thA_n ?_; refine PC.seq ?_; rcases cond_some hh0 with ⟨h_38, hh0⟩ | ⟨h_38, hh0⟩; rotate_left
  · refine PC.rg ?_; refine PL.mT rfl rfl ?_; refine PL.op rfl (Rd.lenT rfl) ?_; refine PL.mT rfl rfl ?_; refine PL.op rfl (Rd.eql rfl rfl) ?_; refine PL.mT rfl rfl ?_; (iterate 5 refine PL.gf rfl rfl h_38 ?_); refine PL.op rfl (Rd.pick_f rfl h_38) ?_; refine PL.aT rfl rfl ?_; refine PL.nn ?_; refine PC.ret ?_; obtain rfl := some_in hh0; exact FinA.mk (r := bA false) (bl := []) [] (.inl rfl) rfl (rl := [.tmp 2]) (.tmp .nil) rfl rfl rfl (.t _) trivial ⟨rfl, rfl⟩
  refine PC.rg ?_; refine PL.mT rfl rfl ?_; refine PL.op rfl (Rd.lenT rfl) ?_; refine PL.mT rfl rfl ?_; refine PL.op rfl (Rd.eql rfl rfl) ?_; refine PL.mT rfl rfl ?_; refine PL.gn rfl h_38 ?_; refine PL.mT rfl rfl ?_; refine PL.gn rfl h_38 ?_; refine PL.op rfl (Rd.lenT rfl) ?_; refine PL.gn rfl h_38 ?_; refine PL.mT rfl rfl ?_; refine PL.gn rfl h_38 ?_; refine PL.op rfl (Rd.lenT rfl) ?_; refine PL.gn rfl h_38 ?_; refine PL.op rfl (Rd.leq rfl rfl) ?_; refine PL.op rfl (Rd.pick_t rfl h_38) ?_; refine PL.aT rfl rfl ?_; refine PL.nn ?_; refine PC.ret ?_; obtain rfl := some_in hh0; exact FinA.mk (r := bA (decide ((r16.length : Int) ≤ (r4.length : Int)))) (bl := []) [] (.inl rfl) rfl (rl := [.tmp 2]) (.tmp .nil) rfl rfl rfl (.t _) trivial ⟨rfl, rfl⟩
end V
end Go.Proofs.Ytlpbgmahegoidaa
namespace Go.Proofs.Ytlpbgmahegoidaa
namespace V
set_option maxHeartbeats 1000000
def btwK (a b : ByteArray) (p : I_Pair) : Bool := !Op.bytesLess p.key.toList a.toList && !Op.bytesLess b.toList p.key.toList
noncomputable def serP (l : List I_Pair) (lo hi : I_Value) : List Int := if l.length ≤ 10 ∧ vV lo ∧ vV hi then sortP ((l.filter (btwK (keyP lo) (keyP hi))).map I_Pair.row) else []
theorem serP_len (l : List I_Pair) (lo hi : I_Value) : (serP l lo hi).length ≤ 10 := by
  unfold serP; split
  · rename_i h
    have := filt_len (btwK (keyP lo) (keyP hi)) I_Pair.row l
    rw [sortP_len]; have := h.1; omega
  · simp
section
variable {N : Nat} (hN : 100000000 ≤ N)
include hN
theorem serI {l : List I_Pair} {lo hi : I_Value} (h1 : lo.text.size ≤ 5000000) (h2 : hi.text.size ≤ 5000000) : m_I_SearchPairs N l lo hi = some (serP l lo hi) := by
  refine ok.val ?_
  unfold m_I_SearchPairs
  refine ok.ite (fun hc => ok.some ?_) fun hl => ok.eq (vVI hN h1) (ok.ite (fun v1 => ok.eq (vVI hN h2) (ok.ite (fun v2 => ?_) fun v2 => ok.some ?_)) fun v1 => ok.some ?_)
  · unfold serP; rw [if_neg (by omega)]
  · refine ok.eq (keyI hN v1 h1) (ok.eq (keyI hN v2 h2) ?_)
    refine ok.call (ok.each l.length (fun i st => st = ((i : Int), ((l.take i).filter (btwK (keyP lo) (keyP hi))).map I_Pair.row)) (fun e => e = (l.filter (btwK (keyP lo) (keyP hi))).map I_Pair.row) ?_ ?_ N 0 _ (Nat.zero_le _) rfl (by omega)) ?_
    · rintro i _ hi' rfl
      have hf := filt_len (btwK (keyP lo) (keyP hi)) I_Pair.row (l.take i)
      have hfl : (l.take i).length ≤ 10 := by simp; omega
      have hstep := filt_take (btwK (keyP lo) (keyP hi)) I_Pair.row hi'
      have hu : btwK (keyP lo) (keyP hi) l[i] = (!Op.bytesLess l[i].key.toList (keyP lo).toList && !Op.bytesLess (keyP hi).toList l[i].key.toList) := rfl
      unfold m_I_SearchPairs_b1
      dsimp only
      refine ok.ift (by omega) (ok.eq (ixI_nat hi') (ok.cond (fun c => ok.chk (by omega) (ok.some ?_)) fun c => ok.cond (fun c2 => ok.chk (by omega) (ok.some ?_)) fun c2 => ok.app ⟨by simp only [List.length_cons, List.length_nil]; omega, by simp only [List.length_cons, List.length_nil]; omega⟩ (ok.chk (by omega) (ok.some ?_))))
      · show (_, _) = (_, _)
        rw [hstep, if_neg (by rw [hu, c]; simp), List.append_nil]; rfl
      · show (_, _) = (_, _)
        rw [hstep, if_neg (by rw [hu, c2]; simp), List.append_nil]; rfl
      · show (_, _) = (_, _)
        rw [hstep, if_pos (by rw [hu, c, c2]; rfl)]; rfl
    · rintro _ rfl
      unfold m_I_SearchPairs_b1
      refine ok.iff (by dsimp only; omega) (ok.some ?_)
      show _ = _
      rw [List.take_length]
    · rintro _ rfl
      have hf := filt_len (btwK (keyP lo) (keyP hi)) I_Pair.row l
      unfold m_I_SearchPairs_k1 m_slices_Sort_int
      rw [if_pos (by omega)]
      refine ok.bs (ok.some ?_)
      unfold serP; rw [if_pos ⟨by omega, v1, v2⟩]
  · unfold serP; rw [if_neg fun h => v2 h.2.2]
  · unfold serP; rw [if_neg fun h => v1 h.2.1]
end
end V
end Go.Proofs.Ytlpbgmahegoidaa

namespace Go.Proofs.Ytlpbgmahegoidaa
namespace V
set_option maxHeartbeats 1000000
structure SrI (v : List Int) (n i : Nat) : Prop where
  hn : n ≤ v.length
  hi : i < n
  oth : ∀ a b (ha : a < v.length) (hb : b < v.length), a < b → b < n → a ≠ i → b ≠ i → v[a] ≤ v[b]
  beh : ∀ b (hb : b < v.length) (h : i < v.length), i < b → b < n → v[i] ≤ v[b]
def Sr (v : List Int) (n : Nat) : Prop := ∀ a b (ha : a < v.length) (hb : b < v.length), a < b → b < n → v[a] ≤ v[b]
theorem SrI.done {v : List Int} {n i : Nat} (h : SrI v n i) (hc : i = 0 ∨ ∃ (h1 : i - 1 < v.length) (h2 : i < v.length), v[i - 1] ≤ v[i]) : Sr v n := by
  intro a b ha hb hab hbn
  by_cases h1 : b = i
  · subst h1
    rcases hc with rfl | ⟨h3, h4, h5⟩
    · omega
    · by_cases h6 : a = b - 1
      · subst h6; exact h5
      · exact Int.le_trans (h.oth a (b - 1) ha h3 (by omega) (by omega) (by omega) (by omega)) h5
  · by_cases h2 : a = i
    · subst h2; exact h.beh b hb ha hab hbn
    · exact h.oth a b ha hb hab hbn h2 h1
theorem SrI.step {v : List Int} {n i : Nat} (h : SrI v n (i + 1)) (h1 : i < v.length) (h2 : i + 1 < v.length) (hc : v[i + 1] < v[i]) : SrI ((v.set (i + 1) v[i]).set i v[i + 1]) n i := by
  have hl : ((v.set (i + 1) v[i]).set i v[i + 1]).length = v.length := by simp
  have hg : ∀ k (hk : k < v.length), ((v.set (i + 1) v[i]).set i v[i + 1])[k]'(by omega) = if k = i then v[i + 1] else if k = i + 1 then v[i] else v[k] := by
    intro k hk
    rw [List.getElem_set]
    by_cases h3 : k = i
    · subst h3; simp
    · rw [if_neg (fun e => h3 e.symm), if_neg h3, List.getElem_set]
      by_cases h4 : k = i + 1
      · subst h4; simp
      · rw [if_neg (fun e => h4 e.symm), if_neg h4]
  refine ⟨by have := h.hn; omega, by have := h.hi; omega, fun a b ha hb hab hbn hai hbi => ?_, fun b hb hi hib hbn => ?_⟩
  · rw [hl] at ha hb
    rw [hg a ha, hg b hb, if_neg hai, if_neg hbi]
    by_cases h3 : a = i + 1
    · subst h3
      rw [if_pos rfl, if_neg (by omega)]
      exact h.oth i b h1 hb (by omega) hbn (by omega) (by omega)
    · rw [if_neg h3]
      by_cases h4 : b = i + 1
      · rw [if_pos h4]
        exact h.oth a i ha h1 (by omega) (by omega) (by omega) (by omega)
      · rw [if_neg h4]
        exact h.oth a b ha hb hab hbn h3 h4
  · rw [hl] at hb
    rw [hg b hb, hg i h1, if_pos rfl, if_neg (by omega)]
    by_cases h4 : b = i + 1
    · rw [if_pos h4]; omega
    · rw [if_neg h4]; exact h.beh b hb h2 (by omega) hbn
theorem Sr.all {v : List Int} (h : Sr v v.length) : v.Pairwise (· ≤ ·) := by
  rw [List.pairwise_iff_getElem]
  exact fun i j hi hj hij => h i j hi hj hij hj
section
variable {N : Nat} (hN : 100000000 ≤ N)
include hN
theorem sortedS {l : List Int} (hl : l.length ≤ 5000000) : m_S_sorted N l = some (sortP l) := by
  refine ok.val ?_
  unfold m_S_sorted
  have hcp : m_S_copyInts N l = some l := by
    unfold m_S_copyInts
    rw [appM_eq ⟨by simp; omega, by simp; omega⟩]; rfl
  refine ok.eq hcp ?_
  refine ok.call (P := fun v => v.Perm l ∧ v.Pairwise (· ≤ ·)) (ok.each (l.length - 1) (fun k st => st.1 = (k : Int) + 1 ∧ st.2.Perm l ∧ Sr st.2 (k + 1)) _ ?_ ?_ N 0 _ (Nat.zero_le _) ⟨rfl, .refl _, fun a b _ _ h1 h2 => by omega⟩ (by omega)) fun v hv => ?_
  · rintro k ⟨_, v⟩ hk ⟨rfl, hp, hs⟩
    have hvl := hp.length_eq
    dsimp only at hp hs hvl ⊢
    unfold m_S_sorted_b2
    refine ok.ift (by omega) ?_
    refine ok.call (P := fun w => w.Perm l ∧ Sr w (k + 2)) (ok.loop (fun st => ∃ i : Nat, st.1 = (i : Int) ∧ st.2.Perm l ∧ SrI st.2 (k + 2) i) (fun st => st.1.toNat) _ ?_ N _ ⟨k + 1, by simp, hp, by dsimp only; omega, by omega, fun a b ha hb hab hbn h1 h2 => hs a b ha hb hab (by omega), fun b hb h h1 h2 => by omega⟩ (by dsimp only; omega)) fun w hw => ?_
    · rintro ⟨_, w⟩ ⟨i, rfl, hp, hs⟩
      have hwl := hp.length_eq
      have hn := hs.hn
      have hi := hs.hi
      dsimp only at hp hs hn hwl ⊢
      unfold m_S_sorted_b3
      refine ok.ite (fun h0 => ?_) fun h0 => ok.some ⟨hp, hs.done (.inl (by omega))⟩
      obtain ⟨i, rfl⟩ : ∃ j, i = j + 1 := ⟨i - 1, by omega⟩
      refine ok.eq (ixI_nat (show i + 1 < w.length by omega)) (ok.chk (by omega) (ok.eq (ixI_eq (n := i) (by omega) (by omega)) ?_))
      refine ok.ite (fun hc => ?_) fun hc => ok.some ⟨hp, hs.done (.inr ⟨by omega, by omega, by show w[i] ≤ _; omega⟩)⟩
      refine ok.chk (by omega) (ok.eq (ixI_eq (n := i) (by omega) (by omega)) (ok.chk (by omega) ?_))
      refine ok.eq (ixI_eq (n := i) (by omega) (by simp; omega)) (ok.chk (by omega) (ok.some ⟨⟨i, by simp, ?_, ?_⟩, by dsimp only; omega⟩))
      · have e1 : ((i + 1 : Nat) : Int).toNat = i + 1 := by omega
        have e2 : (((i + 1 : Nat) : Int) - 1).toNat = i := by omega
        dsimp only
        rw [e1, e2]
        exact (List.set_set_perm (by omega) (by omega)).trans hp
      · have e1 : ((i + 1 : Nat) : Int).toNat = i + 1 := by omega
        have e2 : (((i + 1 : Nat) : Int) - 1).toNat = i := by omega
        dsimp only
        rw [e1, e2]
        exact hs.step (by omega) (by omega) hc
    · unfold m_S_sorted_k3
      exact ok.chk (by omega) (ok.some ⟨by simp, hw⟩)
  · rintro ⟨_, v⟩ ⟨rfl, hp, hs⟩
    have hvl := hp.length_eq
    dsimp only at hp hs hvl ⊢
    unfold m_S_sorted_b2
    refine ok.iff (by omega) (ok.some ⟨hp, Sr.all fun a b ha hb hab _ => hs a b ha hb hab (by omega)⟩)
  · unfold m_S_sorted_k2
    exact ok.some (sortP_of hv.1 hv.2)
end
end V
end Go.Proofs.Ytlpbgmahegoidaa
namespace Go.Proofs.Ytlpbgmahegoidaa
namespace V
set_option maxHeartbeats 1000000
section
variable {N : Nat} (hN : 100000000 ≤ N)
include hN
theorem serS {l : List I_Pair} {lo hi : I_Value} (h1 : lo.text.size ≤ 5000000) (h2 : hi.text.size ≤ 5000000) : m_S_SearchPairs N l lo hi = some (serP l lo hi) := by
  refine ok.val ?_
  unfold m_S_SearchPairs
  refine ok.ite (fun hc => ok.some ?_) fun hl => ok.eq (vVS hN h1) (ok.ite (fun v1 => ok.eq (vVS hN h2) (ok.ite (fun v2 => ?_) fun v2 => ok.some ?_)) fun v1 => ok.some ?_)
  · unfold serP; rw [if_neg (by omega)]
  · refine ok.eq (keyS hN v1) (ok.eq (keyS hN v2) ?_)
    refine ok.call (ok.each l.length (fun i st => st = ((i : Int), ((l.take i).filter (btwK (keyP lo) (keyP hi))).map I_Pair.row)) (fun e => e = (l.filter (btwK (keyP lo) (keyP hi))).map I_Pair.row) ?_ ?_ N 0 _ (Nat.zero_le _) rfl (by omega)) ?_
    · rintro i _ hi' rfl
      have hf := filt_len (btwK (keyP lo) (keyP hi)) I_Pair.row (l.take i)
      have hfl : (l.take i).length ≤ 10 := by simp; omega
      have hstep := filt_take (btwK (keyP lo) (keyP hi)) I_Pair.row hi'
      have hu : btwK (keyP lo) (keyP hi) l[i] = (!Op.bytesLess l[i].key.toList (keyP lo).toList && !Op.bytesLess (keyP hi).toList l[i].key.toList) := rfl
      unfold m_S_SearchPairs_b1
      dsimp only
      refine ok.ift (by omega) (ok.eq (ixI_nat hi') (ok.cond (fun c => ok.chk (by omega) (ok.some ?_)) fun c => ok.eq (ixI_nat hi') (ok.cond (fun c2 => ok.chk (by omega) (ok.some ?_)) fun c2 => ok.eq (ixI_nat hi') (ok.app ⟨by simp only [List.length_cons, List.length_nil]; omega, by simp only [List.length_cons, List.length_nil]; omega⟩ (ok.chk (by omega) (ok.some ?_))))))
      · show (_, _) = (_, _)
        rw [hstep, if_neg (by rw [hu, c]; simp), List.append_nil]; rfl
      · show (_, _) = (_, _)
        rw [hstep, if_neg (by rw [hu, c2]; simp), List.append_nil]; rfl
      · show (_, _) = (_, _)
        rw [hstep, if_pos (by rw [hu, c, c2]; rfl)]; rfl
    · rintro _ rfl
      unfold m_S_SearchPairs_b1
      refine ok.iff (by dsimp only; omega) (ok.some ?_)
      show _ = _
      rw [List.take_length]
    · rintro _ rfl
      have hf := filt_len (btwK (keyP lo) (keyP hi)) I_Pair.row l
      unfold m_S_SearchPairs_k1
      refine ok.eq (sortedS hN (by omega)) (ok.some ?_)
      unfold serP; rw [if_pos ⟨by omega, v1, v2⟩]
  · unfold serP; rw [if_neg fun h => v2 h.2.2]
  · unfold serP; rw [if_neg fun h => v1 h.2.1]
end
end V
end Go.Proofs.Ytlpbgmahegoidaa
namespace Go.Proofs.Ytlpbgmahegoidaa
namespace V
set_option maxHeartbeats 1000000
theorem bl_self : ∀ x : List UInt8, Op.bytesLess x x = false
  | [] => rfl
  | a :: x => by
    have := bl_self x
    simp [Op.bytesLess, this]
theorem bl_eq {x y : List UInt8} (h1 : Op.bytesLess x y = false) (h2 : Op.bytesLess y x = false) : x = y := by
  have := bl_total x y
  rw [h1, h2, Bool.false_or] at this
  simpa using this
theorem bl_trans : ∀ {x y z : List UInt8}, Op.bytesLess x y = true → Op.bytesLess z y = false → Op.bytesLess x z = true
  | _, [], _, h, _ => by simp [Op.bytesLess] at h
  | x, b :: y, [], _, h => by simp [Op.bytesLess] at h
  | [], b :: y, c :: z, _, _ => rfl
  | a :: x, b :: y, c :: z, h1, h2 => by
    simp only [Op.bytesLess, Bool.or_eq_true, Bool.and_eq_true, decide_eq_true_eq, beq_iff_eq, Bool.or_eq_false_iff, Bool.and_eq_false_iff, decide_eq_false_iff_not, beq_eq_false_iff_ne] at h1 h2 ⊢
    obtain ⟨h3, h4⟩ := h2
    have h3' : b.toNat ≤ c.toNat := by
      rcases Nat.lt_or_ge c.toNat b.toNat with h | h
      · exact (h3 (UInt8.lt_iff_toNat_lt.2 h)).elim
      · exact h
    rcases h1 with h | ⟨rfl, h⟩
    · left
      have := UInt8.lt_iff_toNat_lt.1 h
      exact UInt8.lt_iff_toNat_lt.2 (by omega)
    · rcases Nat.lt_or_ge a.toNat c.toNat with hc | hc
      · exact .inl (UInt8.lt_iff_toNat_lt.2 hc)
      · have hac : a = c := UInt8.toNat_inj.1 (by omega)
        subst hac
        rcases h4 with h4 | h4
        · exact (h4 rfl).elim
        · exact .inr ⟨rfl, bl_trans h h4⟩
section
variable {α : Type} {lt : α → α → Bool}
def insR (lt : α → α → Bool) (x : α) (l : List α) : List α := (l.reverse.dropWhile (lt x)).reverse ++ x :: (l.reverse.takeWhile (lt x)).reverse
theorem insR_t {x q : α} {l : List α} (h : lt x q = true) : insR lt x (l ++ [q]) = insR lt x l ++ [q] := by
  simp [insR, List.takeWhile_cons, List.dropWhile_cons, h]
theorem insR_f {x q : α} {l : List α} (h : lt x q = false) : insR lt x (l ++ [q]) = l ++ [q] ++ [x] := by
  simp [insR, List.takeWhile_cons, List.dropWhile_cons, h]
theorem insR_perm (x : α) (l : List α) : (insR lt x l).Perm (x :: l) := by
  have h : (l.reverse.dropWhile (lt x)).reverse ++ (l.reverse.takeWhile (lt x)).reverse = l := by
    rw [← List.reverse_append, List.takeWhile_append_dropWhile, List.reverse_reverse]
  have h2 : (insR lt x l).Perm (x :: ((l.reverse.dropWhile (lt x)).reverse ++ (l.reverse.takeWhile (lt x)).reverse)) := List.perm_middle
  rwa [h] at h2
theorem snoc_cases (l : List α) : l = [] ∨ ∃ A q, l = A ++ [q] := by
  rcases h : l.reverse with _ | ⟨q, A⟩
  · exact .inl (by simpa using h)
  · exact .inr ⟨A.reverse, q, by rw [← List.reverse_reverse l, h]; simp⟩
def insA (lt : α → α → Bool) (l : List α) : List α := l.foldl (fun S p => insR lt p S) []
theorem insA_snoc (l : List α) (x : α) : insA lt (l ++ [x]) = insR lt x (insA lt l) := by simp [insA]
theorem insA_perm : ∀ (n : Nat) (l : List α), l.length = n → (insA lt l).Perm l
  | 0, l, h => by
    obtain rfl := List.eq_nil_of_length_eq_zero h
    exact .refl _
  | n + 1, l, h => by
    rcases snoc_cases l with rfl | ⟨A, q, rfl⟩
    · simp at h
    rw [insA_snoc]
    refine (insR_perm q _).trans (((insA_perm n A (by simpa using h)).cons q).trans ?_)
    exact List.perm_append_singleton q A |>.symm
theorem insA_len (l : List α) : (insA lt l).length = l.length := (insA_perm _ l rfl).length_eq
theorem insR_loop {x : α} {body : Int × List α → Option ((Int × List α) ⊕ List α)} {G : α → Prop} {m : Nat}
    (h1 : ∀ A q C, (A ++ q :: x :: C).length = m → G q → lt x q = true → body (((A.length + 1 : Nat) : Int), A ++ q :: x :: C) = some (.inl ((A.length : Int), A ++ x :: q :: C)))
    (h2 : ∀ A q C, (A ++ q :: x :: C).length = m → G q → lt x q = false → body (((A.length + 1 : Nat) : Int), A ++ q :: x :: C) = some (.inr (A ++ q :: x :: C)))
    (h3 : ∀ C, (x :: C).length = m → body (0, x :: C) = some (.inr (x :: C))) :
    ∀ (n N : Nat) (A C : List α), A.length = n → (A ++ x :: C).length = m → n < N → (∀ q ∈ A, G q) → loopM body N ((A.length : Int), A ++ x :: C) = some (insR lt x A ++ C)
  | n, 0, A, C, _, _, h, _ => by omega
  | 0, N + 1, A, C, hA, hm, _, _ => by
    obtain rfl := List.eq_nil_of_length_eq_zero hA
    unfold loopM
    have e : body ((([] : List α).length : Int), [] ++ x :: C) = some (.inr (x :: C)) := h3 C hm
    rw [e]; rfl
  | n + 1, N + 1, A, C, hA, hm, hN, hG => by
    rcases snoc_cases A with rfl | ⟨B, q, rfl⟩
    · simp at hA
    have hB : B.length = n := by simpa using hA
    have hm' : (B ++ q :: x :: C).length = m := by rw [← hm]; simp
    have hq := hG q (by simp)
    have e0 : B ++ [q] ++ x :: C = B ++ q :: x :: C := by simp
    have e1 : (((B ++ [q]).length : Nat) : Int) = ((B.length + 1 : Nat) : Int) := by simp
    unfold loopM
    rw [e0, e1]
    cases hl : lt x q with
    | true =>
      rw [h1 B q C hm' hq hl]
      show loopM body N ((B.length : Int), B ++ x :: q :: C) = _
      rw [insR_loop h1 h2 h3 n N B (q :: C) hB (by rw [← hm']; simp) (by omega) (fun a ha => hG a (by simp [ha])), insR_t hl]
      simp
    | false =>
      rw [h2 B q C hm' hq hl, insR_f hl]
      simp
end
theorem swap_set {α : Type} (A C : List α) (q x : α) : ((A ++ q :: x :: C).set (A.length + 1) q).set A.length x = A ++ x :: q :: C := by
  rw [List.set_append_right _ _ (by omega), List.set_append_right _ _ (by simp)]
  simp
theorem at_0 {α : Type} (A C : List α) (q : α) : ixI (A ++ q :: C) ((A.length : Nat) : Int) = some q := by
  rw [ixI_nat (by simp)]; simp
theorem at_1 {α : Type} (A C : List α) (q x : α) : ixI (A ++ q :: x :: C) ((A.length + 1 : Nat) : Int) = some x := by
  rw [ixI_nat (by simp)]; simp
end V
end Go.Proofs.Ytlpbgmahegoidaa
namespace Go.Proofs.Ytlpbgmahegoidaa
namespace V
set_option maxHeartbeats 1000000
def cV (c : I_Column) : Prop := (c.kind = 1 ∨ c.kind = 2) ∧ vV c.default ∧ (c.default.kind = 0 ∨ c.default.kind = c.kind)
noncomputable instance (c : I_Column) : Decidable (cV c) := Classical.propDecidable _
def vF (f : List I_Column) : Prop := (1 ≤ f.length ∧ f.length ≤ 5) ∧ ∀ i (h : i < f.length), cV f[i]
noncomputable instance (f : List I_Column) : Decidable (vF f) := Classical.propDecidable _
def poss (f : List I_Column) (c : I_Change) : Prop := (c.kind = 1 ∧ 0 ≤ c.at_ ∧ c.at_ ≤ f.length ∧ f.length < 5 ∧ cV c.column) ∨ (c.kind = 2 ∧ 0 ≤ c.at_ ∧ c.at_ < f.length ∧ 1 < f.length) ∨ (c.kind = 3 ∧ 0 ≤ c.at_ ∧ ∃ h : c.at_.toNat < f.length, f[c.at_.toNat].kind = 1)
noncomputable instance (f : List I_Column) (c : I_Change) : Decidable (poss f c) := Classical.propDecidable _
def wid (v : I_Value) : I_Value := if v.kind = 1 then ⟨2, 0, itoaB v.num⟩ else v
def chF (f : List I_Column) (c : I_Change) : List I_Column := if c.kind = 1 then f.insertIdx c.at_.toNat c.column else if c.kind = 2 then f.eraseIdx c.at_.toNat else f.modify c.at_.toNat fun x => ⟨2, wid x.default⟩
def mv (r : List I_Value) (c : I_Change) : List I_Value := if c.kind = 1 then r.insertIdx c.at_.toNat c.column.default else if c.kind = 2 then r.eraseIdx c.at_.toNat else r.modify c.at_.toNat wid
def fitP (f : List I_Column) (r : List I_Value) : Prop := r.length = f.length ∧ ∀ i (h : i < r.length) (h' : i < f.length), vV r[i] ∧ (r[i].kind = 0 ∨ r[i].kind = f[i].kind)
noncomputable instance (f : List I_Column) (r : List I_Value) : Decidable (fitP f r) := Classical.propDecidable _
def bS (f : List I_Column) : Prop := f.length ≤ 5000000 ∧ ∀ c ∈ f, c.default.text.size ≤ 5000000
def bN (f : List I_Column) : Prop := ∀ c ∈ f, -1000000000 ≤ c.default.num ∧ c.default.num ≤ 1000000000
theorem vV_size {v : I_Value} (h : vV v) : v.text.size ≤ 12 := by
  rcases h with h | h | h
  · rw [h.2.2]; exact Nat.zero_le _
  · rw [h.2.2.2]; exact Nat.zero_le _
  · exact h.2.2.1
theorem vV_num {v : I_Value} (h : vV v) : -999999 ≤ v.num ∧ v.num ≤ 999999 := by rcases h with h | h | h <;> omega
theorem vV_wid {v : I_Value} (h : vV v) : vV (wid v) ∧ ((wid v).kind = 0 ∨ (wid v).kind = 2) := by
  unfold wid
  split
  · rename_i hk
    exact ⟨.inr (.inr ⟨rfl, rfl, itoaB_ok (vV_num h)⟩), .inr rfl⟩
  · rename_i hk
    exact ⟨h, by rcases h with h | h | h <;> omega⟩
theorem vF_bN {f : List I_Column} (h : vF f) : bN f := fun c hc => by
  obtain ⟨i, hi, rfl⟩ := List.mem_iff_getElem.1 hc
  have := vV_num (h.2 i hi).2.1; omega
theorem wid_num {v : I_Value} (h : -1000000000 ≤ v.num ∧ v.num ≤ 1000000000) : -1000000000 ≤ (wid v).num ∧ (wid v).num ≤ 1000000000 := by
  unfold wid; split
  · dsimp only; omega
  · exact h
theorem poss_at {f : List I_Column} {c : I_Change} (h : poss f c) : 0 ≤ c.at_ ∧ c.at_ ≤ f.length := by
  rcases h with h | h | ⟨h1, h2, h3, h4⟩ <;> omega
theorem bN_chF {f : List I_Column} {c : I_Change} (h : bN f) (hp : poss f c) : bN (chF f c) := by
  intro x hx
  unfold chF at hx
  rcases hp with ⟨k, h1, h2, h3, h4⟩ | ⟨k, h1, h2, h3⟩ | ⟨k, h1, h2, h3⟩
  · rw [if_pos k, List.mem_insertIdx (by omega)] at hx
    rcases hx with rfl | hx
    · have := vV_num h4.2.1; omega
    · exact h x hx
  · rw [if_neg (by omega), if_pos k] at hx
    exact h x (List.mem_of_mem_eraseIdx hx)
  · rw [if_neg (by omega), if_neg (by omega)] at hx
    obtain ⟨i, hi, rfl⟩ := List.mem_iff_getElem.1 hx
    rw [List.getElem_modify]
    split
    · exact wid_num (h _ (List.getElem_mem _))
    · exact h _ (List.getElem_mem _)
theorem vF_chF {f : List I_Column} {c : I_Change} (h : vF f) (hp : poss f c) : vF (chF f c) := by
  unfold chF
  obtain ⟨hl, h⟩ := h
  rcases hp with ⟨k, h1, h2, h3, h4⟩ | ⟨k, h1, h2, h3⟩ | ⟨k, h1, h2, h3⟩
  · rw [if_pos k]
    refine ⟨by rw [List.length_insertIdx]; split <;> omega, fun i hi => ?_⟩
    rw [List.getElem_insertIdx]
    split
    · exact h _ _
    · split
      · exact h4
      · exact h _ _
  · rw [if_neg (by omega), if_pos k]
    refine ⟨by rw [List.length_eraseIdx]; split <;> omega, fun i hi => ?_⟩
    rw [List.getElem_eraseIdx]
    split <;> exact h _ _
  · rw [if_neg (by omega), if_neg (by omega)]
    refine ⟨by rw [List.length_modify]; omega, fun i hi => ?_⟩
    rw [List.getElem_modify]
    split
    · have := vV_wid (h i (by rw [List.length_modify] at hi; exact hi)).2.1
      exact ⟨.inr rfl, this.1, this.2⟩
    · exact h _ _
theorem fit_mv {f : List I_Column} {c : I_Change} {r : List I_Value} (h : fitP f r) (hp : poss f c) : fitP (chF f c) (mv r c) := by
  obtain ⟨hl, h⟩ := h
  unfold chF mv
  rcases hp with ⟨k, h1, h2, h3, h4⟩ | ⟨k, h1, h2, h3⟩ | ⟨k, h1, h2, h3⟩
  · rw [if_pos k, if_pos k]
    refine ⟨by rw [List.length_insertIdx, List.length_insertIdx, hl], fun i hi hi' => ?_⟩
    rw [List.length_insertIdx, if_pos (by omega)] at hi hi'
    rw [List.getElem_insertIdx, List.getElem_insertIdx]
    by_cases a1 : i < c.at_.toNat
    · rw [dif_pos a1, dif_pos a1]; exact h _ _ _
    · rw [dif_neg a1, dif_neg a1]
      by_cases a2 : i = c.at_.toNat
      · rw [dif_pos a2, dif_pos a2]; exact ⟨h4.2.1, h4.2.2⟩
      · rw [dif_neg a2, dif_neg a2]; exact h _ _ _
  · rw [if_neg (by omega), if_pos k, if_neg (by omega), if_pos k]
    refine ⟨by rw [List.length_eraseIdx, List.length_eraseIdx, hl], fun i hi hi' => ?_⟩
    rw [List.getElem_eraseIdx, List.getElem_eraseIdx]
    split <;> exact h _ _ _
  · rw [if_neg (by omega), if_neg (by omega), if_neg (by omega), if_neg (by omega)]
    refine ⟨by rw [List.length_modify, List.length_modify, hl], fun i hi hi' => ?_⟩
    rw [List.length_modify] at hi hi'
    rw [List.getElem_modify, List.getElem_modify]
    by_cases a : c.at_.toNat = i
    · rw [if_pos a, if_pos a]
      exact vV_wid (h i hi hi').1
    · rw [if_neg a, if_neg a]; exact h _ _ _
theorem mod_eq {α : Type} {xs : List α} {i : Nat} {f : α → α} (h : i < xs.length) : xs.modify i f = xs.set i (f xs[i]) := by
  apply List.ext_getElem
  · rw [List.length_modify, List.length_set]
  · intro k h1 h2
    rw [List.getElem_modify, List.getElem_set]
    by_cases a : i = k
    · subst a; simp
    · rw [if_neg a, if_neg a]
theorem ins_eq {α : Type} {xs : List α} {i : Nat} {a : α} (h : i ≤ xs.length) : xs.take i ++ a :: xs.drop i = xs.insertIdx i a := by
  apply List.ext_getElem
  · rw [List.length_insertIdx, if_pos h]; simp; omega
  · intro k h1 h2
    rw [List.getElem_insertIdx]
    by_cases a1 : k < i
    · rw [dif_pos a1, List.getElem_append_left (by simp; omega), List.getElem_take]
    · rw [dif_neg a1, List.getElem_append_right (by simp; omega)]
      simp only [List.length_take, Nat.min_eq_left h]
      by_cases a2 : k = i
      · subst a2; simp
      · rw [dif_neg a2]
        obtain ⟨m, hm⟩ : ∃ m, k - i = m + 1 := ⟨k - i - 1, by omega⟩
        simp only [hm, List.getElem_cons_succ, List.getElem_drop]
        congr 1; omega
theorem appM0 {α : Type} {w : Nat} {xs : List α} (h : xs.length * w ≤ 140737488355328 ∧ xs.length ≤ 4611686018427387904) : appM w [] xs = some xs := by
  rw [appM_eq (by simpa using h)]; rfl
section
variable {N : Nat} (hN : 100000000 ≤ N)
include hN
theorem cVS {c : I_Column} (h : c.default.text.size ≤ 5000000) : m_S_validColumn N c = some (decide (cV c)) := by
  refine bool_eq ?_
  unfold m_S_validColumn cV
  refine ok.eq (inRange_eq N _ _ _) (ok.ite (fun k1 => ok.eq (vVS hN h) (ok.ite (fun n0 => ok.ite (fun n1 => ok.some ?_) fun n1 => ok.some ?_) fun n0 => ok.some ?_)) fun k2 => ok.some ?_)
  · exact ⟨fun _ => ⟨by omega, n0, .inl n1⟩, fun _ => rfl⟩
  · rw [decide_eq_true_eq]; exact ⟨fun e => ⟨by omega, n0, .inr e⟩, fun e => by rcases e.2.2 with e | e; exact (n1 e).elim; exact e⟩
  · exact ⟨fun e => (by cases e), fun e => (n0 e.2.1).elim⟩
  · exact ⟨fun e => (by cases e), fun e => by omega⟩
theorem vFS {f : List I_Column} (h : bS f) : m_S_validFormat N f = some (decide (vF f)) := by
  have hl := h.1
  refine bool_eq ?_
  unfold m_S_validFormat vF
  refine ok.call (all_ok (n := f.length) 0 (fun i => ∀ h : i < f.length, cV f[i]) (by omega) (fun i hi _ => ?_) ?_) ?_
  · rw [Int.add_zero]
    show ok (m_S_validFormat_b1 N f (i : Int)) _
    unfold m_S_validFormat_b1
    refine ok.ift (by omega) (ok.eq (ixI_nat hi) (ok.eq (cVS hN (h.2 _ (List.getElem_mem _))) (ok.ite (fun hc => ok.chk (by omega) (ok.some (.inl ⟨rfl, fun _ => hc⟩))) fun hc => ok.some (.inr ⟨rfl, fun e => hc (e hi)⟩))))
  · rw [Int.add_zero]
    show m_S_validFormat_b1 N f _ = _
    unfold m_S_validFormat_b1
    rw [decide_eq_false (by omega)]; rfl
  · rintro o (⟨rfl, hh⟩ | ⟨rfl, hh⟩)
    · refine ok.eq (inRange_eq N _ _ _) (ok.some ?_)
      rw [decide_eq_true_eq]
      exact ⟨fun e => ⟨by omega, fun i hi => hh i hi hi⟩, fun e => by omega⟩
    · exact ok.some ⟨fun e => (by cases e), fun e => (hh fun k hk h => e.2 k h).elim⟩
theorem widS {v : I_Value} (h : -1000000000 ≤ v.num ∧ v.num ≤ 1000000000) : m_S_widen N v = some (wid v) := by
  refine ok.val ?_
  unfold m_S_widen wid
  refine ok.ite (fun k => ok.eq (decimal_ok (by omega) h) (ok.some ?_)) fun k => ok.some ?_
  · rw [if_pos k]
  · rw [if_neg k]
theorem chFS {f : List I_Column} {c : I_Change} (hl : f.length ≤ 5000000) (h : bN f) (hc : c.column.default.text.size ≤ 5000000) : m_S_change N f c = some (if poss f c then (chF f c, true) else ([], false)) := by
  refine ok.val ?_
  unfold m_S_change
  have hcp : ∀ g : List I_Column, g.length ≤ 5000000 → m_S_copyColumns N g = some g := fun g hg => by
    unfold m_S_copyColumns
    rw [appM0 (by omega)]; rfl
  refine ok.ite (fun k => ok.eq (inRange_eq N _ _ _) (ok.ite (fun a => ok.eq (cVS hN hc) (ok.ite (fun b => ok.ite (fun l => ?_) fun l => ok.some ?_) fun b => ok.some ?_)) fun a => ok.some ?_)) fun k => ok.ite (fun k2 => ok.chk (by omega) (ok.eq (inRange_eq N _ _ _) (ok.ite (fun a => ok.ite (fun l => ?_) fun l => ok.some ?_) fun a => ok.some ?_))) fun k2 => ok.ite (fun k3 => ok.chk (by omega) (ok.eq (inRange_eq N _ _ _) (ok.ite (fun a => ok.ix (by omega) (by omega) fun n hn he => ok.ite (fun k1 => ok.eq (hcp _ hl) (ok.eq (ixI_eq he hn) (ok.eq (widS hN (h _ (List.getElem_mem _))) (ok.eq (ixI_eq he hn) (ok.some ?_))))) fun k1 => ok.some ?_) fun a => ok.some ?_))) fun k3 => ok.some ?_
  · have hp : poss f c := .inl ⟨k, a.1, a.2, by omega, b⟩
    rw [if_pos hp]
    refine ok.eq (subM_eq (by omega)) (ok.eq (hcp _ (by simp; omega)) (ok.app (by simp; omega) (ok.eq (subM_eq (by omega)) (ok.app (by simp; omega) (ok.some ?_)))))
    unfold chF
    rw [if_pos k, ← ins_eq (by omega)]
    simp only [Int.toNat_zero, List.drop_zero, Nat.sub_zero, List.append_assoc, List.singleton_append]
    congr 4
    exact List.take_of_length_le (by simp)
  · rw [if_neg]; rintro (e | e | ⟨e1, e2, e3, e4⟩) <;> omega
  · rw [if_neg]; rintro (e | e | ⟨e1, e2, e3, e4⟩); exact b e.2.2.2.2; omega; omega
  · rw [if_neg]; rintro (e | e | ⟨e1, e2, e3, e4⟩) <;> omega
  · have hp : poss f c := .inr (.inl ⟨k2, a.1, by omega, by omega⟩)
    rw [if_pos hp]
    refine ok.eq (subM_eq (by omega)) (ok.eq (hcp _ (by simp; omega)) (ok.chk (by omega) (ok.eq (subM_eq (by omega)) (ok.app (by simp; omega) (ok.some ?_)))))
    unfold chF
    rw [if_neg (by omega), if_pos k2, List.eraseIdx_eq_take_drop_succ]
    simp only [Int.toNat_zero, List.drop_zero, Nat.sub_zero]
    have e : (c.at_ + 1).toNat = c.at_.toNat + 1 := by omega
    rw [e]
    congr 2
    exact List.take_of_length_le (by simp)
  · rw [if_neg]; rintro (e | e | ⟨e1, e2, e3, e4⟩) <;> omega
  · rw [if_neg]; rintro (e | e | ⟨e1, e2, e3, e4⟩) <;> omega
  · obtain rfl : n = c.at_.toNat := by omega
    have hp : poss f c := .inr (.inr ⟨k3, by omega, hn, k1⟩)
    rw [if_pos hp]
    unfold chF
    rw [if_neg (by omega), if_neg (by omega), mod_eq hn]
  · obtain rfl : n = c.at_.toNat := by omega
    rw [if_neg]; rintro (e | e | ⟨e1, e2, e3, e4⟩); omega; omega; exact k1 e4
  · rw [if_neg]; rintro (e | e | ⟨e1, e2, e3, e4⟩) <;> omega
  · rw [if_neg]; rintro (e | e | ⟨e1, e2, e3, e4⟩) <;> omega
end
end V
end Go.Proofs.Ytlpbgmahegoidaa
namespace Go.Proofs.Ytlpbgmahegoidaa
namespace V
set_option maxHeartbeats 1000000
def fA (f : List I_Column) (l : List I_Change) (i : Nat) : List I_Column := (l.take i).foldl chF f
theorem fA_succ (f : List I_Column) {l : List I_Change} {i : Nat} (h : i < l.length) : fA f l (i + 1) = chF (fA f l i) l[i] := by
  unfold fA; rw [take_succ1 h, List.foldl_append]; rfl
def gC (f : List I_Column) (l : List I_Change) : Prop := ∀ i (h : i < l.length), poss (fA f l i) l[i]
noncomputable instance (f : List I_Column) (l : List I_Change) : Decidable (gC f l) := Classical.propDecidable _
def cO (f : List I_Column) (l : List I_Change) : Prop := vF f ∧ l.length ≤ 8 ∧ gC f l
noncomputable instance (f : List I_Column) (l : List I_Change) : Decidable (cO f l) := Classical.propDecidable _
def chs (f : List I_Column) (l : List I_Change) : List (List I_Column) := (List.range (l.length + 1)).map (fA f l)
theorem chs_len (f : List I_Column) (l : List I_Change) : (chs f l).length = l.length + 1 := by unfold chs; simp
theorem chs_get {f : List I_Column} {l : List I_Change} {i : Nat} (h : i < (chs f l).length) : (chs f l)[i] = fA f l i := by show ((List.range (l.length + 1)).map (fA f l))[i]'(by simpa [chs] using h) = _; simp
theorem chs_ix {f : List I_Column} {l : List I_Change} {i : Int} {n : Nat} (h : i = n) (hn : n ≤ l.length) : ixI (chs f l) i = some (fA f l n) := by
  rw [ixI_eq h (by rw [chs_len]; omega), chs_get]
def bCs (l : List I_Change) : Prop := l.length ≤ 5000000 ∧ ∀ c ∈ l, c.column.default.text.size ≤ 5000000
def vRow (r : List I_Value) : Prop := r.length ≤ 5 ∧ ∀ i (h : i < r.length), vV r[i]
noncomputable instance (r : List I_Value) : Decidable (vRow r) := Classical.propDecidable _
def bR (r : List I_Value) : Prop := r.length ≤ 5000000 ∧ ∀ v ∈ r, v.text.size ≤ 5000000
theorem fit_bR {f : List I_Column} {r : List I_Value} (h : fitP f r) (hl : f.length ≤ 5000000) : bR r := ⟨by have := h.1; omega, fun v hv => by
  obtain ⟨i, hi, rfl⟩ := List.mem_iff_getElem.1 hv
  have := vV_size (h.2 i hi (by have := h.1; omega)).1; omega⟩
theorem len_chF {f : List I_Column} {c : I_Change} (h : f.length ≤ 5000000) (hp : poss f c) : (chF f c).length ≤ 5000000 := by
  unfold chF
  split
  · rcases hp with e | e | ⟨e1, e2, e3, e4⟩
    · rw [List.length_insertIdx]; split <;> omega
    · omega
    · omega
  · split
    · rw [List.length_eraseIdx]; split <;> omega
    · rw [List.length_modify]; exact h
theorem vF_fA {f : List I_Column} {l : List I_Change} (h : vF f) : ∀ (i : Nat), i ≤ l.length → (∀ k (h : k < l.length), k < i → poss (fA f l k) l[k]) → vF (fA f l i)
  | 0, _, _ => h
  | i + 1, hi, hg => by
    rw [fA_succ f (by omega)]
    exact vF_chF (vF_fA h i (by omega) fun k hk hki => hg k hk (by omega)) (hg i (by omega) (by omega))
theorem bN_fA {f : List I_Column} {l : List I_Change} (h : bN f) (hl : f.length ≤ 5000000) : ∀ (i : Nat), i ≤ l.length → (∀ k (h : k < l.length), k < i → poss (fA f l k) l[k]) → bN (fA f l i) ∧ (fA f l i).length ≤ 5000000
  | 0, _, _ => ⟨h, hl⟩
  | i + 1, hi, hg => by
    rw [fA_succ f (by omega)]
    have h1 := bN_fA h hl i (by omega) fun k hk hki => hg k hk (by omega)
    have h2 := hg i (by omega) (by omega)
    exact ⟨bN_chF h1.1 h2, len_chF h1.2 h2⟩
theorem cO_fA {f : List I_Column} {l : List I_Change} (h : cO f l) {i : Nat} (hi : i ≤ l.length) : vF (fA f l i) := vF_fA h.1 i hi fun k hk _ => h.2.2 k hk
theorem ext_fA {f : List I_Column} {l : List I_Change} {i : Nat} (h : i < l.length) : (List.range (i + 1 + 1)).map (fA f l) = (List.range (i + 1)).map (fA f l) ++ [chF (fA f l i) l[i]] := by
  rw [List.range_succ (n := i + 1), List.map_append, ← fA_succ f h]; rfl
theorem rng_ix {f : List I_Column} {l : List I_Change} {i m : Nat} (h : i ≤ m) : ixI ((List.range (m + 1)).map (fA f l)) (i : Int) = some (fA f l i) := by
  rw [ixI_nat (by simp; omega)]; simp
def mA (r : List I_Value) (l : List I_Change) (a i : Nat) : List I_Value := ((l.take i).drop a).foldl mv r
theorem mA_self (r : List I_Value) (l : List I_Change) (a : Nat) : mA r l a a = r := by
  unfold mA; rw [List.drop_eq_nil_of_le (by rw [List.length_take]; omega)]; rfl
theorem mA_succ (r : List I_Value) {l : List I_Change} {a i : Nat} (ha : a ≤ i) (h : i < l.length) : mA r l a (i + 1) = mv (mA r l a i) l[i] := by
  unfold mA; rw [take_succ1 h, List.drop_append_of_le_length (by rw [List.length_take]; omega), List.foldl_append]; rfl
theorem fit_mA {f : List I_Column} {l : List I_Change} {r : List I_Value} {a : Nat} (hg : gC f l) (h : fitP (fA f l a) r) : ∀ (i : Nat), a ≤ i → i ≤ l.length → fitP (fA f l i) (mA r l a i)
  | i, ha, hi => by
    rcases Nat.lt_or_eq_of_le ha with hlt | rfl
    · obtain ⟨i, rfl⟩ : ∃ j, i = j + 1 := ⟨i - 1, by omega⟩
      rw [fA_succ f (by omega), mA_succ r (by omega) (by omega)]
      exact fit_mv (fit_mA hg h i (by omega) (by omega)) (hg i (by omega))
    · rw [mA_self]; exact h
section
variable {N : Nat} (hN : 100000000 ≤ N)
include hN
omit hN in
theorem copyS {g : List I_Column} (hg : g.length ≤ 5000000) : m_S_copyColumns N g = some g := by
  unfold m_S_copyColumns
  rw [appM0 (by omega)]; rfl
theorem formatsS {f : List I_Column} {l : List I_Change} (hl : f.length ≤ 5000000) (hb : bN f) (hc : bCs l) : m_S_formats N f l = some (if gC f l then (chs f l, true) else ([], false)) := by
  have hcl := hc.1
  refine ok.val ?_
  unfold m_S_formats
  refine ok.eq (copyS hl) (ok.call (P := fun o => (o = .inl (chs f l) ∧ gC f l) ∨ (o = .inr ([], false) ∧ ¬ gC f l)) (ok.each l.length (fun i s => s = ((i : Int), (List.range (i + 1)).map (fA f l)) ∧ ∀ k (h : k < l.length), k < i → poss (fA f l k) l[k]) _ ?_ ?_ N 0 _ (Nat.zero_le _) ⟨rfl, fun k h hk => by omega⟩ (by omega)) ?_)
  · rintro i s hi ⟨rfl, hg⟩
    have hf := bN_fA hb hl i (by omega) hg
    show ok (m_S_formats_b1 N l (i : Int) _) _
    unfold m_S_formats_b1
    refine ok.ift (by omega) (ok.eq (rng_ix (Nat.le_refl _)) (ok.eq (ixI_nat hi) (ok.eq (chFS hN hf.2 hf.1 (hc.2 _ (List.getElem_mem _))) ?_)))
    by_cases hp : poss (fA f l i) l[i]
    · rw [if_pos hp]
      refine ok.bt rfl (ok.app (by simp; omega) (ok.chk (by omega) (ok.some ⟨?_, fun k hk hki => ?_⟩)))
      · rw [ext_fA hi]; simp
      · rcases Nat.lt_succ_iff_lt_or_eq.1 hki with h | rfl
        · exact hg k hk h
        · exact hp
    · rw [if_neg hp]
      exact ok.bf rfl (ok.some (.inr ⟨rfl, fun h => hp (h i hi)⟩))
  · rintro s ⟨rfl, hg⟩
    show ok (m_S_formats_b1 N l _ _) _
    unfold m_S_formats_b1
    exact ok.iff (by omega) (ok.some (.inl ⟨rfl, fun k hk => hg k hk hk⟩))
  · rintro o (⟨rfl, h⟩ | ⟨rfl, h⟩)
    · rw [if_pos h]; exact ok.some rfl
    · rw [if_neg h]; exact ok.some rfl
theorem vchainS {f : List I_Column} {l : List I_Change} (hb : bS f) (hc : bCs l) : m_S_validChain N f l = some (decide (cO f l)) := by
  refine bool_eq ?_
  unfold m_S_validChain
  refine ok.eq (vFS hN hb) (ok.ite (fun hv => ok.ite (fun h8 => ok.some ?_) fun h8 => ok.eq (formatsS hN hb.1 (vF_bN hv) hc) (ok.some ?_)) fun hv => ok.some ?_)
  · exact ⟨fun e => (by cases e), fun e => by have := e.2.1; omega⟩
  · by_cases hg : gC f l
    · rw [if_pos hg]; exact ⟨fun _ => ⟨hv, by omega, hg⟩, fun _ => rfl⟩
    · rw [if_neg hg]; exact ⟨fun e => (by cases e), fun e => (hg e.2.2).elim⟩
  · exact ⟨fun e => (by cases e), fun e => (hv e.1).elim⟩
theorem vrowS {r : List I_Value} (hr : bR r) : m_S_validRow N r = some (decide (vRow r)) := by
  have hrl := hr.1
  refine bool_eq ?_
  unfold m_S_validRow vRow
  refine ok.call (all_ok (n := r.length) 0 (fun i => ∀ (h : i < r.length), vV r[i]) (by omega) (fun i hi _ => ?_) ?_) ?_
  · rw [Int.add_zero]
    show ok (m_S_validRow_b1 N r (i : Int)) _
    unfold m_S_validRow_b1
    refine ok.ift (by omega) (ok.eq (ixI_nat hi) (ok.eq (vVS hN (hr.2 _ (List.getElem_mem _))) (ok.ite (fun hc => ok.chk (by omega) (ok.some (.inl ⟨rfl, fun _ => hc⟩))) fun hc => ok.some (.inr ⟨rfl, fun e => hc (e hi)⟩))))
  · rw [Int.add_zero]
    show m_S_validRow_b1 N r _ = _
    unfold m_S_validRow_b1
    rw [decide_eq_false (by omega)]; rfl
  · rintro o (⟨rfl, hh⟩ | ⟨rfl, hh⟩)
    · refine ok.some ?_
      rw [decide_eq_true_eq]
      exact ⟨fun e => ⟨by omega, fun i hi => hh i hi hi⟩, fun e => by have := e.1; omega⟩
    · exact ok.some ⟨fun e => (by cases e), fun e => (hh fun k hk h => e.2 k h).elim⟩
theorem fitS {f : List I_Column} {r : List I_Value} (hr : bR r) (hf : f.length ≤ 5) : m_S_fits N f r = some (decide (fitP f r)) := by
  have hrl := hr.1
  refine bool_eq ?_
  unfold m_S_fits
  refine ok.ite (fun hl => ?_) fun hl => ok.some ⟨fun e => (by cases e), fun e => by have := e.1; omega⟩
  refine ok.eq (vrowS hN hr) (ok.ite (fun hv => ?_) fun hv => ok.some ⟨fun e => (by cases e), fun e => (hv ⟨by omega, fun i hi => (e.2 i hi (by omega)).1⟩).elim⟩)
  unfold fitP
  refine ok.call (all_ok (n := r.length) 0 (fun i => ∀ (h : i < r.length) (h' : i < f.length), vV r[i] ∧ (r[i].kind = 0 ∨ r[i].kind = f[i].kind)) (by omega) (fun i hi _ => ?_) ?_) ?_
  · rw [Int.add_zero]
    have hi' : i < f.length := by omega
    have hc := hv.2 i hi
    show ok (m_S_fits_b1 N f r (i : Int)) _
    unfold m_S_fits_b1
    refine ok.ift (by omega) (ok.eq (ixI_nat hi) (ok.ite (fun k0 => ok.chk (by omega) (ok.some (.inl ⟨rfl, fun _ _ => ⟨hc, .inl k0⟩⟩))) fun k0 => ok.eq (ixI_nat hi) (ok.eq (ixI_nat hi') (ok.ite (fun k1 => ok.chk (by omega) (ok.some (.inl ⟨rfl, fun _ _ => ⟨hc, .inr k1⟩⟩))) fun k1 => ok.some (.inr ⟨rfl, fun e => ?_⟩)))))
    rcases (e hi hi').2 with e | e
    · exact k0 e
    · exact k1 e
  · rw [Int.add_zero]
    show m_S_fits_b1 N f r _ = _
    unfold m_S_fits_b1
    rw [decide_eq_false (by omega)]; rfl
  · rintro o (⟨rfl, hh⟩ | ⟨rfl, hh⟩)
    · exact ok.some ⟨fun _ => ⟨by omega, fun i hi => hh i hi hi⟩, fun _ => rfl⟩
    · exact ok.some ⟨fun e => (by cases e), fun e => (hh fun k hk h => e.2 k h).elim⟩
theorem moveS {f : List I_Column} {r : List I_Value} {c : I_Change} (hv : vF f) (hf : fitP f r) (hp : poss f c) : m_S_move N r c = some (mv r c) := by
  have hl := hv.1
  have hrl := hf.1
  have hat := poss_at hp
  refine ok.val ?_
  unfold m_S_move
  refine ok.eq (subM_eq (by omega)) (ok.eq (appM0 (by simp; omega)) ?_)
  unfold mv
  rcases hp with ⟨k, h1, h2, h3, h4⟩ | ⟨k, h1, h2, h3⟩ | ⟨k, h1, h2, h3⟩
  · refine ok.ift k (ok.app (by simp; omega) (ok.eq (subM_eq (by omega)) (ok.app (by simp; omega) (ok.some ?_))))
    rw [if_pos k, ← ins_eq (by omega)]
    simp only [Int.toNat_zero, List.drop_zero, Nat.sub_zero, List.append_assoc, List.singleton_append]
    congr 2
    exact List.take_of_length_le (by simp)
  · refine ok.iff (by omega) (ok.iff (by omega) (ok.chk (by omega) (ok.eq (subM_eq (by omega)) (ok.app (by simp; omega) (ok.some ?_)))))
    rw [if_neg (by omega), if_pos k, List.eraseIdx_eq_take_drop_succ]
    have e : (c.at_ + 1).toNat = c.at_.toNat + 1 := by omega
    simp only [Int.toNat_zero, List.drop_zero, Nat.sub_zero, e]
    congr 1
    exact List.take_of_length_le (by simp)
  · have h2' : c.at_.toNat < r.length := by omega
    have hn := vV_num (hf.2 _ h2' h2).1
    refine ok.iff (by omega) (ok.ift k (ok.eq (ixI_eq (n := c.at_.toNat) (by omega) h2') (ok.eq (widS hN (by omega)) (ok.app (by simp; omega) (ok.chk (by omega) (ok.eq (subM_eq (by omega)) (ok.app (by simp; omega) (ok.some ?_))))))))
    rw [if_neg (by omega), if_neg (by omega), List.modify_eq_take_cons_drop h2']
    have e : (c.at_ + 1).toNat = c.at_.toNat + 1 := by omega
    simp only [Int.toNat_zero, List.drop_zero, Nat.sub_zero, e, List.append_assoc, List.singleton_append]
    congr 2
    exact List.take_of_length_le (by simp)
theorem advS {f : List I_Column} {l : List I_Change} {r : List I_Value} {n : Nat} (ho : cO f l) (hn : n ≤ l.length) (hf : fitP (fA f l n) r) : m_S_advance N r (l.drop n) = some (mA r l n l.length) := by
  have h8 := ho.2.1
  have hvn := cO_fA ho hn
  have hrl := hf.1
  have hvl := hvn.1
  refine ok.val ?_
  unfold m_S_advance
  refine ok.eq (appM0 (by omega)) (ok.call (P := fun o => o = mA r l n l.length) (ok.each (l.length - n) (fun i s => s = ((i : Int), mA r l n (n + i))) _ ?_ ?_ N 0 _ (Nat.zero_le _) (by rw [Nat.add_zero, mA_self]; rfl) (by omega)) ?_)
  · rintro i s hi rfl
    show ok (m_S_advance_b1 N _ _ _) _
    unfold m_S_advance_b1
    have hd : i < (l.drop n).length := by simp; omega
    refine ok.ift (by simp; omega) (ok.eq (ixI_nat hd) ?_)
    have e : (l.drop n)[i] = l[n + i] := List.getElem_drop
    rw [e]
    refine ok.eq (moveS hN (cO_fA ho (by omega)) (fit_mA ho.2.2 hf _ (by omega) (by omega)) (ho.2.2 (n + i) (by omega))) (ok.chk (by omega) (ok.some ?_))
    rw [show n + (i + 1) = n + i + 1 from rfl, mA_succ r (by omega) (by omega)]; simp
  · rintro s rfl
    show ok (m_S_advance_b1 N _ _ _) _
    unfold m_S_advance_b1
    refine ok.iff (by simp) (ok.some ?_)
    rw [show n + (l.length - n) = l.length by omega]
  · rintro o rfl
    exact ok.some rfl
end
end V
end Go.Proofs.Ytlpbgmahegoidaa
namespace Go.Proofs.Ytlpbgmahegoidaa
namespace V
set_option maxHeartbeats 1000000
def rV (t : I_Table) (r : I_Tagged) : Prop := 0 ≤ r.tag ∧ r.tag ≤ t.changes.length ∧ fitP (fA t.first t.changes r.tag.toNat) r.row
def tV (t : I_Table) : Prop := cO t.first t.changes ∧ t.rows.length ≤ 10 ∧ ∀ i (h : i < t.rows.length), rV t t.rows[i]
noncomputable instance (t : I_Table) : Decidable (tV t) := Classical.propDecidable _
structure bT (t : I_Table) : Prop where
  f : bS t.first
  c : bCs t.changes
  rl : t.rows.length ≤ 5000000
  r : ∀ i (h : i < t.rows.length), bR t.rows[i].row
def fL (t : I_Table) : List I_Column := fA t.first t.changes t.changes.length
theorem fL_v {t : I_Table} (h : tV t) : vF (fL t) := cO_fA h.1 (Nat.le_refl _)
theorem rV_bR {t : I_Table} {r : I_Tagged} (ho : cO t.first t.changes) (h : rV t r) : bR r.row := by
  have := (cO_fA ho (i := r.tag.toNat) (by have := h.2.1; omega)).1
  exact fit_bR h.2.2 (by omega)
def adv (t : I_Table) (r : I_Tagged) : List I_Value := mA r.row t.changes r.tag.toNat t.changes.length
theorem adv_fit {t : I_Table} {r : I_Tagged} (h : tV t) (hr : rV t r) : fitP (fL t) (adv t r) := fit_mA h.1.2.2 hr.2.2 _ (by have := hr.2.1; omega) (Nat.le_refl _)
section
variable {α β : Type} (o : α → Bool) (a : α → α)
end
theorem fA_app (f : List I_Column) {l : List I_Change} (c : I_Change) {i : Nat} (h : i ≤ l.length) : fA f (l ++ [c]) i = fA f l i := by
  unfold fA; rw [List.take_append_of_le_length h]
theorem gC_app {f : List I_Column} {l : List I_Change} {c : I_Change} : gC f (l ++ [c]) ↔ gC f l ∧ poss (fA f l l.length) c := by
  constructor
  · intro h
    refine ⟨fun i hi => ?_, ?_⟩
    · have := h i (by simp; omega)
      rw [fA_app f c (by omega), List.getElem_append_left hi] at this; exact this
    · have := h l.length (by simp)
      rw [fA_app f c (Nat.le_refl _), List.getElem_append_right (Nat.le_refl _)] at this
      simpa using this
  · rintro ⟨h1, h2⟩ i hi
    rw [List.length_append, List.length_singleton] at hi
    rw [fA_app f c (by omega)]
    rcases Nat.lt_succ_iff_lt_or_eq.1 hi with h | rfl
    · rw [List.getElem_append_left h]; exact h1 i h
    · rw [List.getElem_append_right (Nat.le_refl _)]
      simp only [Nat.sub_self, List.getElem_cons_zero]; exact h2
section
variable {N : Nat} (hN : 100000000 ≤ N)
include hN
theorem validTS {t : I_Table} (hb : bT t) : m_S_validTable N t = some (decide (tV t)) := by
  have hcl := hb.c.1
  have hrl := hb.rl
  refine bool_eq ?_
  unfold m_S_validTable
  refine ok.eq (vchainS hN hb.f hb.c) (ok.ite (fun ho => ok.ite (fun h10 => ok.some ⟨fun e => (by cases e), fun e => by have := e.2.1; omega⟩) fun h10 => ?_) fun ho => ok.some ⟨fun e => (by cases e), fun e => (ho e.1).elim⟩)
  refine ok.eq (formatsS hN hb.f.1 (vF_bN ho.1) hb.c) ?_
  rw [if_pos ho.2.2]
  refine ok.call (all_ok (n := t.rows.length) 0 (fun i => ∀ (h : i < t.rows.length), rV t t.rows[i]) (by omega) (fun i hi _ => ?_) ?_) ?_
  · rw [Int.add_zero]
    show ok (m_S_validTable_b1 N t _ (i : Int)) _
    unfold m_S_validTable_b1
    refine ok.ift (by omega) (ok.eq (ixI_nat hi) (ok.eq (inRange_eq N _ _ _) (ok.ite (fun c1 => ?_) fun c1 => ok.some (.inr ⟨rfl, fun e => c1 ⟨(e hi).1, (e hi).2.1⟩⟩))))
    have hr := hb.r i hi
    have hv := cO_fA ho (i := t.rows[i].tag.toNat) (by omega)
    refine ok.eq (ixI_nat hi) (ok.eq (chs_ix (n := t.rows[i].tag.toNat) (by omega) (by omega)) (ok.eq (ixI_nat hi) (ok.eq (fitS hN hr hv.1.2) (ok.ite (fun c3 => ok.chk (by omega) (ok.some (.inl ⟨rfl, fun _ => ⟨c1.1, c1.2, c3⟩⟩))) fun c3 => ok.some (.inr ⟨rfl, fun e => c3 (e hi).2.2⟩)))))
  · rw [Int.add_zero]
    show m_S_validTable_b1 N t _ _ = _
    unfold m_S_validTable_b1
    rw [decide_eq_false (by omega)]; rfl
  · rintro o (⟨rfl, hh⟩ | ⟨rfl, hh⟩)
    · exact ok.some ⟨fun _ => ⟨ho, by omega, fun i hi => hh i hi hi⟩, fun _ => rfl⟩
    · exact ok.some ⟨fun e => (by cases e), fun e => (hh fun k hk h => e.2.2 k h).elim⟩
theorem adv1S {t : I_Table} {r : I_Tagged} (h : tV t) (hr : rV t r) : m_S_advance N r.row (t.changes.drop r.tag.toNat) = some (adv t r) := advS hN h.1 (by have := hr.2.1; omega) hr.2.2
omit hN in
theorem map_take {α β : Type} (f : α → β) {xs : List α} {i : Nat} (h : i < xs.length) : (xs.take (i + 1)).map f = (xs.take i).map f ++ [f xs[i]] := by rw [take_succ1 h, List.map_append]; rfl
theorem latestS {t : I_Table} (h : tV t) : m_S_latest N t = some (t.rows.map (adv t)) := by
  have hrl := h.2.1
  have h8 := h.1.2.1
  refine ok.val ?_
  unfold m_S_latest
  refine ok.call (P := fun o => o = t.rows.map (adv t)) (ok.each t.rows.length (fun i s => s = ((i : Int), (t.rows.take i).map (adv t))) _ ?_ ?_ N 0 _ (Nat.zero_le _) rfl (by omega)) ?_
  · rintro i s hi rfl
    show ok (m_S_latest_b1 N t (i : Int) _) _
    unfold m_S_latest_b1
    have hr := h.2.2 i hi
    have h1 := hr.1
    have h2 := hr.2.1
    refine ok.ift (by omega) (ok.eq (ixI_nat hi) (ok.eq (ixI_nat hi) (ok.eq (subM_eq (by omega)) ?_)))
    rw [Int.toNat_natCast, List.take_of_length_le (by rw [List.length_drop]; exact Nat.le_refl _)]
    refine ok.eq (adv1S hN h hr) (ok.app (by simp; omega) (ok.chk (by omega) (ok.some ?_)))
    rw [map_take _ hi]; simp
  · rintro s rfl
    show ok (m_S_latest_b1 N t _ _) _
    unfold m_S_latest_b1
    refine ok.iff (by omega) (ok.some ?_)
    rw [List.take_length]
  · rintro o rfl
    exact ok.some rfl
omit hN in
theorem count_take {α : Type} (p : α → Bool) {xs : List α} {i : Nat} (h : i < xs.length) : (xs.take (i + 1)).countP p = (xs.take i).countP p + if p xs[i] = true then 1 else 0 := by
  rw [take_succ1 h, List.countP_append, List.countP_singleton]
omit hN in
theorem count_le {α : Type} (p : α → Bool) (xs : List α) (i : Nat) : (xs.take i).countP p ≤ i := by
  have := List.countP_le_length (p := p) (l := xs.take i)
  rw [List.length_take] at this; omega
end
end V
end Go.Proofs.Ytlpbgmahegoidaa
namespace Go.Proofs.Ytlpbgmahegoidaa
namespace V
set_option maxHeartbeats 1000000
theorem loop_self {body : Int → Option (Int ⊕ (Unit ⊕ Bool))} {N n : Nat} (hN : n < N) (h : ∀ i, i < n → body (i : Int) = some (.inl ((i : Int) + 1))) (he : body (n : Int) = some (.inr (.inl ()))) : loopM body N (0 : Int) = some (.inl ()) := by
  have : ok (loopM body N (0 : Int)) fun o => o = .inl () := by
    refine ok.each n (fun i s => s = (i : Int)) _ ?_ ?_ N 0 _ (Nat.zero_le _) rfl (by omega)
    · rintro i s hi rfl
      rw [h i hi]; exact ok.some (by simp)
    · rintro s rfl
      rw [he]; exact ok.some rfl
  exact ok.val this
section
variable {N : Nat} (hN : 100000000 ≤ N)
include hN
end
end V
end Go.Proofs.Ytlpbgmahegoidaa
namespace Go.Proofs.Ytlpbgmahegoidaa
namespace V
theorem pick_ok (N : Nat) {r : S_reader} {n : Int} (h : r.b.length ≤ 4000000000) (h0 : 0 ≤ r.p ∧ r.p ≤ 2000000000) (hn : n ≤ 4000000000) : ok (m_S_reader_pick N r n) fun x => x.2 = ⟨r.b, r.p + 1⟩ ∧ 0 ≤ x.1 ∧ (x.1 < n ∨ x.1 = 0) := by
  unfold m_S_reader_pick
  have hb : ∀ u : UInt8, (0 : Int) ≤ (u.toNat : Int) ∧ (u.toNat : Int) ≤ 255 := fun u => by have := u.toNat_lt; omega
  repeat' (first | (with_reducible refine ok.some ?_) | ((with_reducible refine ok.ix (by omega) (by omega) (fun q hq he => ?_); have := hb (r.b[q]); generalize (r.b[q].toNat : Int) = u at *)) | ((with_reducible refine ok.xorM (by omega) (fun _ hq => ?_))) | (with_reducible refine ok.ite (fun hc => ?_) (fun hc => ?_)) | (with_reducible refine ok.cond (fun hc => ?_) (fun hc => ?_)) | (with_reducible refine ok.chk (by omega) ?_) | (with_reducible refine ok.bs ?_) | (with_reducible refine ok.remM (by omega) (fun _ hq => ?_)) | (with_reducible refine ok.quoM (by omega) (fun _ hq => ?_)) | (with_reducible refine ok.ix (by omega) (by omega) (fun q hq he => ?_)))
  all_goals (first | exact ⟨rfl, Int.le_refl _, .inr rfl⟩ | exact ⟨rfl, by omega, by omega⟩)
theorem newReader_ok (N : Nat) (l : List UInt8) : ok (m_S_newReader N l) fun r => r.b.length ≤ 2000 ∧ r.p = 0 := by
  unfold m_S_newReader
  repeat' (first | (with_reducible refine ok.some ?_) | ((rw [subM_eq (by omega)]; refine ok.some ?_)) | (with_reducible refine ok.ite (fun hc => ?_) (fun hc => ?_)) | (with_reducible refine ok.cond (fun hc => ?_) (fun hc => ?_)) | (with_reducible refine ok.chk (by omega) ?_) | (with_reducible refine ok.bs ?_) | (with_reducible refine ok.remM (by omega) (fun _ hq => ?_)) | (with_reducible refine ok.quoM (by omega) (fun _ hq => ?_)) | (with_reducible refine ok.ix (by omega) (by omega) (fun q hq he => ?_)))
  · exact ⟨by simp; omega, rfl⟩
  · exact ⟨by show l.length ≤ 2000; omega, rfl⟩
theorem one_ok (N : Nat) {r : S_reader} {l : List Int} (h : r.b.length ≤ 4000000000) (h0 : 0 ≤ r.p ∧ r.p ≤ 2000000000) (hl : 0 < l.length) (hl' : l.length ≤ 1000) : ok (m_S_reader_one N r l) fun x => x.2 = ⟨r.b, r.p + 1⟩ ∧ x.1 ∈ l := by
  unfold m_S_reader_one
  refine ok.call (pick_ok N h h0 (by omega)) ?_
  rintro x ⟨h1, h2, h3⟩
  repeat' (first | (with_reducible refine ok.some ?_) | (with_reducible refine ok.ite (fun hc => ?_) (fun hc => ?_)) | (with_reducible refine ok.cond (fun hc => ?_) (fun hc => ?_)) | (with_reducible refine ok.chk (by omega) ?_) | (with_reducible refine ok.bs ?_) | (with_reducible refine ok.remM (by omega) (fun _ hq => ?_)) | (with_reducible refine ok.quoM (by omega) (fun _ hq => ?_)) | (with_reducible refine ok.ix (by omega) (by omega) (fun q hq he => ?_)))
  exact ⟨h1, List.getElem_mem _⟩
theorem of_ok (N : Nat) {r : S_reader} {l : List ByteArray} (h : r.b.length ≤ 4000000000) (h0 : 0 ≤ r.p ∧ r.p ≤ 2000000000) (hl : 0 < l.length) (hl' : l.length ≤ 1000) : ok (m_S_reader_of N r l) fun x => x.2 = ⟨r.b, r.p + 1⟩ ∧ x.1 ∈ l := by
  unfold m_S_reader_of
  refine ok.call (pick_ok N h h0 (by omega)) ?_
  rintro x ⟨h1, h2, h3⟩
  repeat' (first | (with_reducible refine ok.some ?_) | (with_reducible refine ok.ite (fun hc => ?_) (fun hc => ?_)) | (with_reducible refine ok.cond (fun hc => ?_) (fun hc => ?_)) | (with_reducible refine ok.chk (by omega) ?_) | (with_reducible refine ok.bs ?_) | (with_reducible refine ok.remM (by omega) (fun _ hq => ?_)) | (with_reducible refine ok.quoM (by omega) (fun _ hq => ?_)) | (with_reducible refine ok.ix (by omega) (by omega) (fun q hq he => ?_)))
  exact ⟨h1, List.getElem_mem _⟩
end V
end Go.Proofs.Ytlpbgmahegoidaa
namespace Go.Proofs.Ytlpbgmahegoidaa
namespace V
set_option maxHeartbeats 1000000
def RdB (r : S_reader) (c : Int) : Prop := r.b.length ≤ 2000 ∧ 0 ≤ r.p ∧ r.p ≤ c
theorem RdB.mono {r : S_reader} {c d : Int} (h : RdB r c) (hd : c ≤ d) : RdB r d := ⟨h.1, h.2.1, by have := h.2.2; omega⟩
def bV (v : I_Value) : Prop := (-1000000000 ≤ v.num ∧ v.num ≤ 1000000000) ∧ v.text.size ≤ 5000000
def bFm (f : List I_Column) (n : Nat) : Prop := f.length ≤ n ∧ ∀ c ∈ f, bV c.default
theorem bFm.bN {f : List I_Column} {n : Nat} (h : bFm f n) : bN f := fun c hc => (h.2 c hc).1
theorem bFm.bS {f : List I_Column} {n : Nat} (h : bFm f n) (hn : n ≤ 100) : bS f := ⟨by have := h.1; omega, fun c hc => (h.2 c hc).2⟩
theorem bFm.mono {f : List I_Column} {n m : Nat} (h : bFm f n) (hn : n ≤ m) : bFm f m := ⟨by have := h.1; omega, h.2⟩
theorem len_chF2 {f : List I_Column} {c : I_Change} {B : Nat} (h : f.length ≤ B) (hB : 5 ≤ B) (hp : poss f c) : (chF f c).length ≤ B := by
  unfold chF
  split
  · rcases hp with e | e | ⟨e1, e2, e3, e4⟩
    · rw [List.length_insertIdx]; split <;> omega
    · omega
    · omega
  · split
    · rw [List.length_eraseIdx]; split <;> omega
    · rw [List.length_modify]; exact h
theorem len_fA {f : List I_Column} {l : List I_Change} {B : Nat} (h : f.length ≤ B) (hB : 5 ≤ B) (hg : gC f l) : ∀ (i : Nat), i ≤ l.length → (fA f l i).length ≤ B
  | 0, _ => h
  | i + 1, hi => by
    rw [fA_succ f (by omega)]
    exact len_chF2 (len_fA h hB hg i (by omega)) hB (hg i (by omega))
theorem fA_snoc (f : List I_Column) (l : List I_Change) (c : I_Change) : fA f (l ++ [c]) (l ++ [c]).length = chF (fA f l l.length) c := by
  rw [List.length_append, List.length_singleton, fA_succ f (by simp), fA_app f c (Nat.le_refl _), List.getElem_append_right (Nat.le_refl _)]; simp
theorem of_size {l : List ByteArray} (h : l.all (fun x => decide (x.size ≤ 100)) = true) {x : ByteArray} (hx : x ∈ l) : x.size ≤ 5000000 := by
  have := of_decide_eq_true (List.all_eq_true.1 h x hx); omega
theorem zV_b : bV ⟨0, 0, ByteArray.empty⟩ := ⟨by constructor <;> decide, by decide⟩
theorem bR_snoc {r : List I_Value} {v : I_Value} {n : Nat} (h : r.length ≤ n ∧ ∀ x ∈ r, bV x) (hv : bV v) : (r ++ [v]).length ≤ n + 1 ∧ ∀ x ∈ r ++ [v], bV x := ⟨by simp; omega, fun x hx => by
  rcases List.mem_append.1 hx with h1 | h1
  · exact h.2 x h1
  · rw [List.mem_singleton.1 h1]; exact hv⟩
section
variable {N : Nat} (hN : 100000000 ≤ N)
include hN
omit hN in
theorem pickB {r : S_reader} {c n : Int} (h : RdB r c) (hc : c ≤ 1000000000) (hn : n ≤ 4000000000) : ok (m_S_reader_pick N r n) fun x => RdB x.2 (c + 1) ∧ 0 ≤ x.1 ∧ (x.1 < n ∨ x.1 = 0) := by
  have h1 := h.1
  have h2 := h.2.1
  have h3 := h.2.2
  refine (pick_ok N (by omega) (by omega) hn).mono ?_
  rintro ⟨x, r'⟩ ⟨e, e1, e2⟩
  dsimp only at *
  subst e
  exact ⟨⟨h1, by show 0 ≤ r.p + 1; omega, by show r.p + 1 ≤ _; omega⟩, e1, e2⟩
omit hN in
theorem oneB {r : S_reader} {c : Int} {l : List Int} (h : RdB r c) (hc : c ≤ 1000000000) (hl : 0 < l.length) (hl' : l.length ≤ 1000) : ok (m_S_reader_one N r l) fun x => RdB x.2 (c + 1) ∧ x.1 ∈ l := by
  have h1 := h.1
  have h2 := h.2.1
  have h3 := h.2.2
  refine (one_ok N (by omega) (by omega) hl hl').mono ?_
  rintro ⟨x, r'⟩ ⟨e, e1⟩
  dsimp only at *
  subst e
  exact ⟨⟨h1, by show 0 ≤ r.p + 1; omega, by show r.p + 1 ≤ _; omega⟩, e1⟩
omit hN in
theorem ofB {r : S_reader} {c : Int} {l : List ByteArray} (h : RdB r c) (hc : c ≤ 1000000000) (hl : 0 < l.length) (hl' : l.length ≤ 1000) : ok (m_S_reader_of N r l) fun x => RdB x.2 (c + 1) ∧ x.1 ∈ l := by
  have h1 := h.1
  have h2 := h.2.1
  have h3 := h.2.2
  refine (of_ok N (by omega) (by omega) hl hl').mono ?_
  rintro ⟨x, r'⟩ ⟨e, e1⟩
  dsimp only at *
  subst e
  exact ⟨⟨h1, by show 0 ≤ r.p + 1; omega, by show r.p + 1 ≤ _; omega⟩, e1⟩
omit hN in
theorem newB (l : List UInt8) : ok (m_S_newReader N l) fun r => RdB r 0 := (newReader_ok N l).mono fun r h => ⟨h.1, by have := h.2; omega, by have := h.2; omega⟩
omit hN in
theorem valB {r : S_reader} {c k : Int} (h : RdB r c) (hc : c ≤ 900000000) : ok (m_S_randomValue N r k) fun x => RdB x.2 (c + 4) ∧ bV x.1 := by
  have e0 : ByteArray.empty.size = 0 := rfl
  have hnum : ∀ (r : S_reader) (d : Int) (k : Int), RdB r d → d ≤ 950000000 → ok ((m_S_reader_pick N r (250 : Int)).bind fun r8 => (chk (r8.1 * (777 : Int))).bind fun n10 => (m_S_reader_one N r8.2 [(0 : Int), (1 : Int), (7 : Int), (-7 : Int), (79 : Int), (80 : Int), (4000 : Int), (200000 : Int), (999999 : Int), (-999999 : Int), n10]).bind fun r12 => some ((I_Value.mk k r12.1 ByteArray.empty), r12.2)) fun x => RdB x.2 (d + 2) ∧ bV x.1 := by
    intro r d k hr hd
    refine ok.call (pickB hr (by omega) (by omega)) ?_
    rintro ⟨x, r1⟩ ⟨h1, h2, h3⟩
    refine ok.chk (by dsimp only at *; omega) (ok.call (oneB h1 (by omega) (by simp) (by simp)) ?_)
    rintro ⟨y, r2⟩ ⟨h4, h5⟩
    dsimp only at *
    refine ok.some ⟨h4.mono (by omega), ⟨?_, by dsimp only; omega⟩⟩
    dsimp only
    simp only [List.mem_cons, List.not_mem_nil, or_false] at h5
    omega
  have htxt : ∀ (r : S_reader) (d : Int) (k : Int), RdB r d → d ≤ 950000000 → ok ((m_S_reader_of N r ([ByteArray.empty, (ByteArray.mk #[97]), (ByteArray.mk #[97, 98]), (ByteArray.mk #[98]), (ByteArray.mk #[49, 50]), (ByteArray.mk #[45, 55]), (ByteArray.mk #[126, 126]), (ByteArray.mk #[97, 32, 98]), (ByteArray.mk #[97, 98, 99, 100, 101, 102, 103, 104, 105, 106, 107, 108]), (ByteArray.mk #[32])])).bind fun r15 => some ((I_Value.mk k (0 : Int) r15.1), r15.2)) fun x => RdB x.2 (d + 1) ∧ bV x.1 := by
    intro r d k hr hd
    refine ok.call (ofB hr (by omega) (by simp) (by simp)) ?_
    rintro ⟨y, r2⟩ ⟨h4, h5⟩
    exact ok.some ⟨h4, ⟨by dsimp only; omega, of_size (by rfl) h5⟩⟩
  unfold m_S_randomValue
  refine ok.ite (fun _ => ok.call (pickB h (by omega) (by omega)) ?_) fun _ => ok.call (pickB h (by omega) (by omega)) ?_
  · rintro ⟨x, r1⟩ ⟨h1, h2, h3⟩
    refine ok.call (pickB h1 (by omega) (by omega)) ?_
    rintro ⟨y, r2⟩ ⟨h4, h5, h6⟩
    refine ok.ite (fun _ => ok.some ⟨h4.mono (by omega), zV_b⟩) fun _ => ok.ite (fun _ => (hnum _ _ _ h4 (by omega)).mono fun x hx => ⟨hx.1.mono (by omega), hx.2⟩) fun _ => ok.ite (fun _ => (htxt _ _ _ h4 (by omega)).mono fun x hx => ⟨hx.1.mono (by omega), hx.2⟩) fun _ => ok.some ⟨h4.mono (by omega), zV_b⟩
  · rintro ⟨y, r2⟩ ⟨h4, h5, h6⟩
    refine ok.ite (fun _ => ok.some ⟨h4.mono (by omega), zV_b⟩) fun _ => ok.ite (fun _ => (hnum _ _ _ h4 (by omega)).mono fun x hx => ⟨hx.1.mono (by omega), hx.2⟩) fun _ => ok.ite (fun _ => (htxt _ _ _ h4 (by omega)).mono fun x hx => ⟨hx.1.mono (by omega), hx.2⟩) fun _ => ok.some ⟨h4.mono (by omega), zV_b⟩
omit hN in
theorem colB {r : S_reader} {c : Int} (h : RdB r c) (hc : c ≤ 800000000) : ok (m_S_randomColumn N r) fun x => RdB x.2 (c + 5) ∧ bV x.1.default := by
  unfold m_S_randomColumn
  refine ok.call (pickB h (by omega) (by omega)) ?_
  rintro ⟨x, r1⟩ ⟨h1, h2, h3⟩
  refine ok.chk (by dsimp only at *; omega) (ok.call (valB h1 (by omega)) ?_)
  rintro ⟨y, r2⟩ ⟨h4, h5⟩
  exact ok.some ⟨h4.mono (by omega), h5⟩
omit hN in
theorem bFm_snoc {f : List I_Column} {n : Nat} {x : I_Column} (h : bFm f n) (hx : bV x.default) : bFm (f ++ [x]) (n + 1) := ⟨by have := h.1; simp; omega, fun y hy => by
  rcases List.mem_append.1 hy with h1 | h1
  · exact h.2 y h1
  · rw [List.mem_singleton.1 h1]; exact hx⟩
theorem fmtB {r : S_reader} {c : Int} (h : RdB r c) (hc : c ≤ 700000000) : ok (m_S_randomFormat N r) fun x => RdB x.2 (c + 26) ∧ bFm x.1 5 ∧ 1 ≤ x.1.length := by
  unfold m_S_randomFormat
  refine ok.call (oneB h (by omega) (by simp) (by simp)) ?_
  rintro ⟨n, r1⟩ ⟨h1, h2⟩
  have hn : 1 ≤ n ∧ n ≤ 5 := by
    simp only [List.mem_cons, List.not_mem_nil, or_false] at h2
    omega
  obtain ⟨n, rfl⟩ : ∃ m : Nat, n = m := ⟨n.toNat, by omega⟩
  refine ok.call (P := fun e => RdB ⟨e.1, e.2.1⟩ (c + 26) ∧ bFm e.2.2 5 ∧ e.2.2.length = n) (ok.each n (fun i s => s.1 = ((n - i : Nat) : Int) ∧ RdB ⟨s.2.1, s.2.2.1⟩ (c + 1 + 5 * i) ∧ bFm s.2.2.2 i ∧ s.2.2.2.length = i) _ ?_ ?_ N 0 _ (Nat.zero_le _) ⟨rfl, h1.mono (by omega), ⟨Nat.zero_le _, fun c h => by cases h⟩, rfl⟩ (by omega)) ?_
  · rintro i ⟨s1, s2, s3, s4⟩ hi ⟨h3, h4, h5, h6⟩
    dsimp only at *
    unfold m_S_randomFormat_b1
    refine ok.ift (by omega) (ok.call (colB h4 (by omega)) ?_)
    rintro ⟨x, r2⟩ ⟨h7, h8⟩
    dsimp only at *
    refine ok.app (by simp; omega) (ok.chk (by omega) (ok.some ⟨by dsimp only; omega, h7.mono (by omega), bFm_snoc h5 h8, by simp; omega⟩))
  · rintro ⟨s1, s2, s3, s4⟩ ⟨h3, h4, h5, h6⟩
    dsimp only at *
    unfold m_S_randomFormat_b1
    exact ok.iff (by omega) (ok.some ⟨h4.mono (by omega), h5.mono (by omega), h6⟩)
  · rintro ⟨e1, e2, e3⟩ ⟨h3, h4, h5⟩
    exact ok.some ⟨h3, h4, by dsimp only at *; omega⟩
theorem chgB' {r : S_reader} {f : List I_Column} {c : Int} (h : RdB r c) (hc : c ≤ 600000000) (hf : bN f) (hfl : f.length ≤ 7) : ok (m_S_randomChange N r f) fun x => RdB x.2 (c + 42) ∧ bV x.1.column.default := by
  unfold m_S_randomChange
  refine ok.call (P := fun o => match o with | .inl e => RdB ⟨e.1, e.2⟩ (c + 42) | .inr v => RdB v.2 (c + 42) ∧ bV v.1.column.default) (ok.each 6 (fun i s => s.1 = (i : Int) ∧ RdB ⟨s.2.1, s.2.2⟩ (c + 7 * i)) _ ?_ ?_ N 0 _ (Nat.zero_le _) ⟨rfl, h.mono (by omega)⟩ (by omega)) ?_
  · rintro i ⟨s1, s2, s3⟩ hi ⟨h3, h4⟩
    dsimp only at *
    unfold m_S_randomChange_b1
    refine ok.ift (by omega) (ok.call (pickB h4 (by omega) (by omega)) ?_)
    rintro ⟨x, r2⟩ ⟨h5, h6, h7⟩
    dsimp only at *
    refine ok.chk (by omega) (ok.chk (by omega) (ok.call (pickB h5 (by omega) (by omega)) ?_))
    rintro ⟨y, r3⟩ ⟨h8, h9, h10⟩
    dsimp only at *
    refine ok.ite (fun hk => ok.call (colB h8 (by omega)) ?_) fun hk => ok.eq (chFS hN (by omega) hf (by show ByteArray.empty.size ≤ _; decide)) ?_
    · rintro ⟨z, r4⟩ ⟨h11, h12⟩
      dsimp only at *
      refine ok.eq (chFS hN (by omega) hf h12.2) (ok.cond (fun _ => ok.some ⟨h11.mono (by omega), h12⟩) fun _ => ok.chk (by omega) (ok.some ⟨by dsimp only; omega, h11.mono (by omega)⟩))
    · refine ok.cond (fun _ => ok.some ⟨h8.mono (by omega), zV_b⟩) fun _ => ok.chk (by omega) (ok.some ⟨by dsimp only; omega, h8.mono (by omega)⟩)
  · rintro ⟨s1, s2, s3⟩ ⟨h3, h4⟩
    dsimp only at *
    unfold m_S_randomChange_b1
    exact ok.iff (by omega) (ok.some (h4.mono (by omega)))
  · rintro (⟨e1, e2⟩ | v) h3
    · exact ok.some ⟨h3, zV_b⟩
    · exact ok.some h3
omit hN in
theorem bCs_snoc {l : List I_Change} {x : I_Change} {n : Nat} (h : l.length ≤ n ∧ ∀ c ∈ l, bV c.column.default) (hx : bV x.column.default) : (l ++ [x]).length ≤ n + 1 ∧ ∀ c ∈ l ++ [x], bV c.column.default := ⟨by simp; omega, fun y hy => by
  rcases List.mem_append.1 hy with h1 | h1
  · exact h.2 y h1
  · rw [List.mem_singleton.1 h1]; exact hx⟩
theorem rchainB {r : S_reader} {c : Int} (h : RdB r c) (hc : c ≤ 500000000) : ok (m_S_randomChain N r) fun x => RdB x.2.2 (c + 400) ∧ (bFm x.1 5 ∧ 1 ≤ x.1.length) ∧ (x.2.1.length ≤ 8 ∧ ∀ c ∈ x.2.1, bV c.column.default) ∧ gC x.1 x.2.1 := by
  unfold m_S_randomChain
  refine ok.call (fmtB hN h (by omega)) ?_
  rintro ⟨f, r1⟩ ⟨h1, h2, h2'⟩
  refine ok.call (oneB h1 (by omega) (by simp) (by simp)) ?_
  rintro ⟨n, r2⟩ ⟨h3, h4⟩
  have hn : 0 ≤ n ∧ n ≤ 8 := by
    simp only [List.mem_cons, List.not_mem_nil, or_false] at h4
    omega
  obtain ⟨n, rfl⟩ : ∃ m : Nat, n = m := ⟨n.toNat, by omega⟩
  dsimp only at *
  refine ok.call (P := fun e => RdB ⟨e.1, e.2.1⟩ (c + 400) ∧ (e.2.2.length ≤ 8 ∧ ∀ c ∈ e.2.2, bV c.column.default) ∧ gC f e.2.2) (ok.each n (fun i s => s.1 = fA f s.2.2.2.2 s.2.2.2.2.length ∧ s.2.1 = ((n - i : Nat) : Int) ∧ RdB ⟨s.2.2.1, s.2.2.2.1⟩ (c + 27 + 42 * i) ∧ (s.2.2.2.2.length ≤ i ∧ ∀ c ∈ s.2.2.2.2, bV c.column.default) ∧ gC f s.2.2.2.2) _ ?_ ?_ N 0 _ (Nat.zero_le _) ⟨rfl, rfl, h3.mono (by omega), ⟨Nat.zero_le _, fun c h => by cases h⟩, fun i h => absurd h (Nat.not_lt_zero _)⟩ (by omega)) ?_
  · rintro i ⟨s1, s2, s3, s4, s5⟩ hi ⟨h5, h6, h7, h8, h9⟩
    dsimp only at *
    subst h5
    have hl6 := len_fA (B := 5) h2.1 (by omega) h9 s5.length (Nat.le_refl _)
    have hbn := bN_fA h2.bN (by have := h2.1; omega) s5.length (Nat.le_refl _) fun k hk _ => h9 k hk
    unfold m_S_randomChain_b1
    refine ok.ift (by omega) ?_
    refine ok.call (chgB' hN h7 (by omega) hbn.1 (by omega)) ?_
    rintro ⟨x, r3⟩ ⟨h10, h11⟩
    dsimp only at *
    refine ok.eq (chFS hN hbn.2 hbn.1 h11.2) ?_
    by_cases hp : poss (fA f s5 s5.length) x
    · rw [if_pos hp]
      have h12 := bCs_snoc h8 h11
      refine ok.bt rfl (ok.app (by have := h12.1; simp at this ⊢; omega) (ok.chk (by omega) (ok.some ⟨?_, by dsimp only; omega, h10.mono (by omega), h12, gC_app.2 ⟨h9, hp⟩⟩)))
      show chF _ _ = fA f (s5 ++ [x]) (s5 ++ [x]).length
      rw [fA_snoc]
    · rw [if_neg hp]
      exact ok.bf rfl (ok.chk (by omega) (ok.some ⟨rfl, by dsimp only; omega, h10.mono (by omega), ⟨by have := h8.1; dsimp only; omega, h8.2⟩, h9⟩))
  · rintro ⟨s1, s2, s3, s4, s5⟩ ⟨h5, h6, h7, h8, h9⟩
    dsimp only at *
    unfold m_S_randomChain_b1
    exact ok.iff (by omega) (ok.some ⟨h7.mono (by omega), ⟨by have := h8.1; dsimp only; omega, h8.2⟩, h9⟩)
  · rintro ⟨e1, e2, e3⟩ ⟨h5, h6, h7⟩
    exact ok.some ⟨h5, ⟨h2, h2'⟩, h6, h7⟩
omit hN in
theorem anyvalB {r : S_reader} {c : Int} (h : RdB r c) (hc : c ≤ 800000000) : ok (m_S_anyValue N r) fun x => RdB x.2 (c + 6) ∧ bV x.1 := by
  unfold m_S_anyValue
  refine ok.call (valB h (by omega)) ?_
  rintro ⟨v, r1⟩ ⟨h1, h2⟩
  refine ok.call (pickB h1 (by omega) (by omega)) ?_
  rintro ⟨y, r2⟩ ⟨h4, h5, h6⟩
  refine ok.ite (fun _ => ok.call (oneB h4 (by omega) (by simp) (by simp)) ?_) fun _ => ok.ite (fun _ => ok.call (ofB h4 (by omega) (by simp) (by simp)) ?_) fun _ => ok.ite (fun _ => ok.call (oneB h4 (by omega) (by simp) (by simp)) ?_) fun _ => ok.some ⟨h4.mono (by omega), h2⟩
  · rintro ⟨z, r3⟩ ⟨h7, h8⟩
    refine ok.some ⟨h7.mono (by omega), ⟨?_, h2.2⟩⟩
    dsimp only at *
    simp only [List.mem_cons, List.not_mem_nil, or_false] at h8
    omega
  · rintro ⟨z, r3⟩ ⟨h7, h8⟩
    exact ok.some ⟨h7.mono (by omega), ⟨h2.1, of_size (by rfl) h8⟩⟩
  · rintro ⟨z, r3⟩ ⟨h7, h8⟩
    exact ok.some ⟨h7.mono (by omega), h2⟩
omit hN in
theorem bFm_set {f : List I_Column} {n i : Nat} {x : I_Column} (h : bFm f n) (hx : bV x.default) : bFm (f.set i x) n := ⟨by rw [List.length_set]; exact h.1, fun y hy => by
  rcases List.mem_or_eq_of_mem_set hy with h1 | h1
  · exact h.2 y h1
  · rw [h1]; exact hx⟩
theorem anyfmtB {r : S_reader} {c : Int} (h : RdB r c) (hc : c ≤ 500000000) : ok (m_S_anyFormat N r) fun x => RdB x.2 (c + 60) ∧ bFm x.1 6 := by
  unfold m_S_anyFormat
  refine ok.call (fmtB hN h (by omega)) ?_
  rintro ⟨f, r1⟩ ⟨h1, h2, h2'⟩
  refine ok.call (pickB h1 (by omega) (by omega)) ?_
  rintro ⟨y, r2⟩ ⟨h4, h5, h6⟩
  dsimp only at *
  refine ok.ite (fun _ => ok.call (oneB h4 (by omega) (by simp) (by simp)) ?_) fun _ => ok.ite (fun _ => ok.call (anyvalB h4 (by omega)) ?_) fun _ => ok.ite (fun _ => ok.some ⟨h4.mono (by omega), Nat.zero_le _, fun c h => by cases h⟩) fun _ => ok.ite (fun _ => ?_) fun _ => ok.some ⟨h4.mono (by omega), h2.mono (by omega)⟩
  · rintro ⟨z, r3⟩ ⟨h7, h8⟩
    refine ok.eq (ixI_eq (n := 0) rfl (by omega)) (ok.some ⟨h7.mono (by omega), bFm_set (h2.mono (by omega)) (show bV (f[0]'(by omega)).default from h2.2 _ (List.getElem_mem _))⟩)
  · rintro ⟨z, r3⟩ ⟨h7, h8⟩
    refine ok.eq (ixI_eq (n := 0) rfl (by omega)) (ok.some ⟨h7.mono (by omega), bFm_set (h2.mono (by omega)) h8⟩)
  · have hl := h2.1
    refine ok.call (P := fun e => RdB ⟨e.1, e.2.1⟩ (c + 60) ∧ bFm e.2.2 6) (ok.each (6 - f.length) (fun i s => RdB ⟨s.1, s.2.1⟩ (c + 27 + 5 * i) ∧ bFm s.2.2 (f.length + i) ∧ s.2.2.length = f.length + i) _ ?_ ?_ N 0 _ (Nat.zero_le _) ⟨h4.mono (by omega), ⟨Nat.le_refl _, h2.2⟩, rfl⟩ (by omega)) ?_
    · rintro i ⟨s1, s2, s3⟩ hi ⟨h7, h8, h9⟩
      dsimp only at *
      unfold m_S_anyFormat_b1
      refine ok.ift (by omega) (ok.call (colB h7 (by omega)) ?_)
      rintro ⟨x, r3⟩ ⟨h10, h11⟩
      dsimp only at *
      exact ok.app (by simp; omega) (ok.some ⟨h10.mono (by omega), bFm_snoc h8 h11, by simp; omega⟩)
    · rintro ⟨s1, s2, s3⟩ ⟨h7, h8, h9⟩
      dsimp only at *
      unfold m_S_anyFormat_b1
      exact ok.iff (by omega) (ok.some ⟨h7.mono (by omega), h8.mono (by omega)⟩)
    · rintro ⟨e1, e2, e3⟩ ⟨h7, h8⟩
      exact ok.some ⟨h7, h8⟩
theorem anychgB {r : S_reader} {f : List I_Column} {c : Int} (h : RdB r c) (hc : c ≤ 500000000) (hf : bN f) (hfl : f.length ≤ 6) : ok (m_S_anyChange N r f) fun x => RdB x.2 (c + 50) ∧ bV x.1.column.default := by
  unfold m_S_anyChange
  refine ok.eq (copyS (by omega)) (ok.app (by simp; omega) (ok.eq (subM_eq (by simp; omega)) ?_))
  refine ok.call (chgB' hN h (by omega) (f := _) ?_ (by simp; omega)) ?_
  · intro x hx
    have hx' := List.mem_of_mem_drop (List.mem_of_mem_take hx)
    rcases List.mem_append.1 hx' with h1 | h1
    · exact hf x h1
    · rw [List.mem_singleton.1 h1]; exact ⟨by decide, by decide⟩
  rintro ⟨y, r2⟩ ⟨h4, h5⟩
  refine ok.call (pickB h4 (by omega) (by omega)) ?_
  rintro ⟨z, r3⟩ ⟨h6, h7⟩
  dsimp only at *
  refine ok.ite (fun _ => ok.call (oneB h6 (by omega) (by simp) (by simp)) ?_) fun _ => ok.ite (fun _ => ok.chk (by omega) (ok.call (oneB h6 (by omega) (by simp) (by simp)) ?_)) fun _ => ok.some ⟨h6.mono (by omega), h5⟩
  · rintro ⟨z, r3⟩ ⟨h7, h8⟩
    exact ok.some ⟨h7.mono (by omega), h5⟩
  · rintro ⟨z, r3⟩ ⟨h7, h8⟩
    exact ok.some ⟨h7.mono (by omega), h5⟩
theorem anychainB {r : S_reader} {c : Int} (h : RdB r c) (hc : c ≤ 400000000) : ok (m_S_anyChain N r) fun x => RdB x.2.2 (c + 500) ∧ bFm x.1 6 ∧ (x.2.1.length ≤ 9 ∧ ∀ c ∈ x.2.1, bV c.column.default) := by
  unfold m_S_anyChain
  refine ok.call (rchainB hN h (by omega)) ?_
  rintro ⟨f, l, r1⟩ ⟨h1, h2, h3, h3'⟩
  refine ok.call (pickB h1 (by omega) (by omega)) ?_
  rintro ⟨y, r2⟩ ⟨h4, h5, h6⟩
  dsimp only at *
  have hl8 := h3.1
  refine ok.ite (fun _ => ok.call (anyfmtB hN h4 (by omega)) ?_) fun _ => ok.ite (fun _ => ok.call (anychgB hN h4 (by omega) h2.1.bN (by have := h2.1.1; omega)) ?_) fun _ => ok.ite (fun _ => ?_) fun _ => ok.some ⟨h4.mono (by omega), h2.1.mono (by omega), by dsimp only; omega, h3.2⟩
  · rintro ⟨z, r3⟩ ⟨h7, h8⟩
    exact ok.some ⟨h7.mono (by omega), h8, by dsimp only; omega, h3.2⟩
  · rintro ⟨z, r3⟩ ⟨h7, h8⟩
    have h9 := bCs_snoc h3 h8
    exact ok.app (by simp; omega) (ok.some ⟨h7.mono (by omega), h2.1.mono (by omega), h9⟩)
  · refine ok.call (P := fun e => e.length ≤ 9 ∧ ∀ c ∈ e, bV c.column.default) (ok.each (9 - l.length) (fun i s => (s.length ≤ l.length + i ∧ ∀ c ∈ s, bV c.column.default) ∧ s.length = l.length + i) _ ?_ ?_ N 0 _ (Nat.zero_le _) ⟨⟨Nat.le_refl _, h3.2⟩, rfl⟩ (by omega)) ?_
    · rintro i s hi ⟨h7, h8⟩
      unfold m_S_anyChain_b1
      have h9 := bCs_snoc h7 (x := I_Change.mk (3 : Int) (0 : Int) (I_Column.mk (0 : Int) (I_Value.mk (0 : Int) (0 : Int) ByteArray.empty))) zV_b
      exact ok.ift (by omega) (ok.app (by simp; omega) (ok.some ⟨h9, by simp; omega⟩))
    · rintro s ⟨h7, h8⟩
      unfold m_S_anyChain_b1
      exact ok.iff (by omega) (ok.some ⟨by omega, h7.2⟩)
    · rintro e h7
      exact ok.some ⟨h4.mono (by omega), h2.1.mono (by omega), h7⟩
theorem rrowB {r : S_reader} {f : List I_Column} {c : Int} (h : RdB r c) (hc : c ≤ 500000000) (hfl : f.length ≤ 6) : ok (m_S_randomRow N r f) fun x => RdB x.2 (c + 24) ∧ x.1.length ≤ 6 ∧ ∀ v ∈ x.1, bV v := by
  unfold m_S_randomRow
  refine ok.call (P := fun e => RdB ⟨e.1, e.2.1⟩ (c + 24) ∧ e.2.2.length ≤ 6 ∧ ∀ v ∈ e.2.2, bV v) (ok.each f.length (fun i s => s.1 = (i : Int) ∧ RdB ⟨s.2.1, s.2.2.1⟩ (c + 4 * i) ∧ (s.2.2.2.length ≤ i ∧ ∀ v ∈ s.2.2.2, bV v)) _ ?_ ?_ N 0 _ (Nat.zero_le _) ⟨rfl, h.mono (by omega), Nat.zero_le _, fun c h => by cases h⟩ (by omega)) ?_
  · rintro i ⟨s1, s2, s3, s4⟩ hi ⟨h3, h4, h5⟩
    dsimp only at *
    subst h3
    unfold m_S_randomRow_b1
    refine ok.ift (by omega) (ok.eq (ixI_nat hi) (ok.call (valB h4 (by omega)) ?_))
    rintro ⟨x, r2⟩ ⟨h7, h8⟩
    dsimp only at *
    have := h5.1
    refine ok.app (by simp; omega) (ok.chk (by omega) (ok.some ⟨by simp, h7.mono (by omega), bR_snoc h5 h8⟩))
  · rintro ⟨s1, s2, s3, s4⟩ ⟨h3, h4, h5⟩
    dsimp only at *
    subst h3
    unfold m_S_randomRow_b1
    exact ok.iff (by omega) (ok.some ⟨h4.mono (by omega), by have := h5.1; dsimp only; omega, h5.2⟩)
  · rintro ⟨e1, e2, e3⟩ h3
    exact ok.some h3
theorem anyrowB {r : S_reader} {c : Int} (h : RdB r c) (hc : c ≤ 500000000) : ok (m_S_anyRow N r) fun x => RdB x.2 (c + 40) ∧ x.1.length ≤ 6 ∧ ∀ v ∈ x.1, bV v := by
  unfold m_S_anyRow
  refine ok.call (oneB h (by omega) (by simp) (by simp)) ?_
  rintro ⟨n, r2⟩ ⟨h3, h4⟩
  have hn : 0 ≤ n ∧ n ≤ 6 := by
    simp only [List.mem_cons, List.not_mem_nil, or_false] at h4
    omega
  obtain ⟨n, rfl⟩ : ∃ m : Nat, n = m := ⟨n.toNat, by omega⟩
  dsimp only at *
  refine ok.call (P := fun e => RdB ⟨e.1, e.2.1⟩ (c + 25) ∧ e.2.2.length ≤ 6 ∧ ∀ v ∈ e.2.2, bV v) (ok.each n (fun i s => s.1 = ((n - i : Nat) : Int) ∧ RdB ⟨s.2.1, s.2.2.1⟩ (c + 1 + 4 * i) ∧ (s.2.2.2.length ≤ i ∧ ∀ v ∈ s.2.2.2, bV v)) _ ?_ ?_ N 0 _ (Nat.zero_le _) ⟨rfl, h3.mono (by omega), Nat.zero_le _, fun c h => by cases h⟩ (by omega)) ?_
  · rintro i ⟨s1, s2, s3, s4⟩ hi ⟨h3, h4, h5⟩
    dsimp only at *
    unfold m_S_anyRow_b1
    refine ok.ift (by omega) (ok.call (valB h4 (by omega)) ?_)
    rintro ⟨x, r2⟩ ⟨h7, h8⟩
    dsimp only at *
    have := h5.1
    refine ok.app (by simp; omega) (ok.chk (by omega) (ok.some ⟨by dsimp only; omega, h7.mono (by omega), bR_snoc h5 h8⟩))
  · rintro ⟨s1, s2, s3, s4⟩ ⟨h3, h4, h5⟩
    dsimp only at *
    unfold m_S_anyRow_b1
    exact ok.iff (by omega) (ok.some ⟨h4.mono (by omega), by have := h5.1; dsimp only; omega, h5.2⟩)
  · rintro ⟨e1, e2, e3⟩ ⟨h4, h5, h6⟩
    dsimp only at *
    show ok (m_S_anyRow_k1 N _ _ _) _
    unfold m_S_anyRow_k1
    refine ok.ite (fun h0 => ok.call (pickB h4 (by omega) (by omega)) ?_) fun h0 => ok.some ⟨h4.mono (by omega), h5, h6⟩
    rintro ⟨y, r3⟩ ⟨h7, h8, h9⟩
    refine ok.ite (fun _ => ok.call (pickB h7 (by omega) (by omega)) ?_) fun _ => ok.some ⟨h7.mono (by omega), h5, h6⟩
    rintro ⟨z, r4⟩ ⟨h10, h11, h12⟩
    dsimp only at *
    refine ok.call (anyvalB h10 (by omega)) ?_
    rintro ⟨v, r5⟩ ⟨h13, h14⟩
    dsimp only at *
    refine ok.ix (by omega) (by omega) fun m hm he => ok.some ⟨h13.mono (by omega), by rw [List.length_set]; exact h5, fun x hx => ?_⟩
    rcases List.mem_or_eq_of_mem_set hx with h1 | h1
    · exact h6 x h1
    · rw [h1]; exact h14
end
end V
end Go.Proofs.Ytlpbgmahegoidaa
namespace Go.Proofs.Ytlpbgmahegoidaa
namespace V
set_option maxHeartbeats 1000000
def rOk (l : List I_Tagged) (n : Nat) : Prop := l.length ≤ n ∧ ∀ r ∈ l, r.row.length ≤ 6 ∧ ∀ v ∈ r.row, bV v
theorem rOk.snoc {l : List I_Tagged} {n : Nat} {x : I_Tagged} (h : rOk l n) (hx : x.row.length ≤ 6 ∧ ∀ v ∈ x.row, bV v) : rOk (l ++ [x]) (n + 1) := ⟨by have := h.1; simp; omega, fun y hy => by
  rcases List.mem_append.1 hy with h1 | h1
  · exact h.2 y h1
  · rw [List.mem_singleton.1 h1]; exact hx⟩
def dT (t : I_Table) : Prop := bFm t.first 6 ∧ (t.changes.length ≤ 9 ∧ ∀ c ∈ t.changes, bV c.column.default) ∧ rOk t.rows 11
theorem dT.bT {t : I_Table} (h : dT t) : bT t := ⟨h.1.bS (by omega), ⟨by have := h.2.1.1; omega, fun c hc => (h.2.1.2 c hc).2⟩, by have := h.2.2.1; omega, fun i hi => by
  have := h.2.2.2 _ (List.getElem_mem hi)
  exact ⟨by omega, fun v hv => (this.2 v hv).2⟩⟩
section
variable {N : Nat} (hN : 100000000 ≤ N)
include hN
theorem tabB {r : S_reader} {c : Int} (h : RdB r c) (hc : c ≤ 1000) : ok (m_S_anyTable2 N r) fun x => RdB x.2 (c + 3000) ∧ dT x.1 := by
  unfold m_S_anyTable2
  refine ok.call (rchainB hN h (by omega)) ?_
  rintro ⟨f, l, r1⟩ ⟨h1, h2, h3, hg⟩
  dsimp only at *
  have hl8 := h3.1
  have hf5 := h2.1.1
  refine ok.eq (formatsS hN (by omega) h2.1.bN ⟨by omega, fun c hc => (h3.2 c hc).2⟩) ?_
  rw [if_pos hg]
  refine ok.call (oneB h1 (by omega) (by simp) (by simp)) ?_
  rintro ⟨n, r2⟩ ⟨h4, h5⟩
  have hn : 0 ≤ n ∧ n ≤ 10 := by
    simp only [List.mem_cons, List.not_mem_nil, or_false] at h5
    omega
  obtain ⟨n, rfl⟩ : ∃ m : Nat, n = m := ⟨n.toNat, by omega⟩
  have hlen := chs_len f l
  have hrow : ∀ (r : S_reader) (g : List I_Column) (d : Int), RdB r d → d ≤ 100000 → g.length ≤ 6 → ok (m_S_randomRow N r g) fun x => RdB x.2 (d + 24) ∧ x.1.length ≤ 6 ∧ ∀ v ∈ x.1, bV v := fun r g d hr hd hg => rrowB hN hr (by omega) hg
  refine ok.call (P := fun e => RdB ⟨e.1, e.2.1⟩ (c + 401 + 250) ∧ rOk e.2.2 10) (ok.each n (fun i s => s.1 = ((n - i : Nat) : Int) ∧ RdB ⟨s.2.1, s.2.2.1⟩ (c + 401 + 25 * i) ∧ rOk s.2.2.2 i) _ ?_ ?_ N 0 _ (Nat.zero_le _) ⟨rfl, h4.mono (by omega), Nat.zero_le _, fun c h => by cases h⟩ (by omega)) ?_
  · rintro i ⟨s1, s2, s3, s4⟩ hi ⟨h6, h7, h8⟩
    dsimp only at *
    unfold m_S_anyTable2_b1
    refine ok.ift (by omega) (ok.call (pickB h7 (by omega) (by dsimp only; omega)) ?_)
    rintro ⟨x, r3⟩ ⟨h9, h10, h11⟩
    dsimp only at *
    refine ok.eq (chs_ix (n := x.toNat) (by omega) (by omega)) (ok.call (hrow _ _ _ h9 (by omega) (len_fA (by omega) (by omega) hg _ (by omega))) ?_)
    rintro ⟨y, r4⟩ ⟨h12, h13⟩
    dsimp only at *
    have := h8.1
    exact ok.app (by simp; omega) (ok.chk (by omega) (ok.some ⟨by dsimp only; omega, h12.mono (by omega), h8.snoc h13⟩))
  · rintro ⟨s1, s2, s3, s4⟩ ⟨h6, h7, h8⟩
    dsimp only at *
    unfold m_S_anyTable2_b1
    exact ok.iff (by omega) (ok.some ⟨h7.mono (by omega), by have := h8.1; dsimp only; omega, h8.2⟩)
  · rintro ⟨e1, e2, e3⟩ ⟨h6, h7⟩
    dsimp only at *
    show ok (m_S_anyTable2_k1 N _ _ _ _ _) _
    unfold m_S_anyTable2_k1
    have h71 := h7.1
    refine ok.call (pickB h6 (by omega) (by omega)) ?_
    rintro ⟨y, r3⟩ ⟨h8, h9, h10⟩
    dsimp only at *
    refine ok.ite (fun _ => ok.call (anychainB hN h8 (by omega)) ?_) fun _ => ok.ite (fun _ => ok.call (oneB h8 (by omega) (by simp) (by simp)) ?_) fun _ => ok.ite (fun _ => ?_) fun _ => ok.some ⟨h8.mono (by omega), h2.1.mono (by omega), ⟨by dsimp only; omega, h3.2⟩, by dsimp only; omega, h7.2⟩
    · rintro ⟨f', l', r4⟩ ⟨h11, h12, h13⟩
      exact ok.some ⟨h11.mono (by omega), h12, h13, by dsimp only; omega, h7.2⟩
    · rintro ⟨z, r4⟩ ⟨h11, h12⟩
      refine ok.call (anyrowB hN h11 (by omega)) ?_
      rintro ⟨w, r5⟩ ⟨h13, h14⟩
      dsimp only at *
      exact ok.app (by simp; omega) (ok.some ⟨h13.mono (by omega), h2.1.mono (by omega), ⟨by dsimp only; omega, h3.2⟩, h7.snoc h14⟩)
    · refine ok.call (P := fun e => RdB ⟨e.1, e.2.1⟩ (c + 652 + 275) ∧ rOk e.2.2 11) (ok.each (11 - e3.length) (fun i s => RdB ⟨s.1, s.2.1⟩ (c + 652 + 25 * i) ∧ rOk s.2.2 (e3.length + i) ∧ s.2.2.length = e3.length + i) _ ?_ ?_ N 0 _ (Nat.zero_le _) ⟨h8.mono (by omega), ⟨Nat.le_refl _, h7.2⟩, rfl⟩ (by omega)) ?_
      · rintro i ⟨s1, s2, s3⟩ hi ⟨h11, h12, h13⟩
        dsimp only at *
        unfold m_S_anyTable2_b2
        refine ok.ift (by omega) (ok.call (hrow _ _ _ h11 (by omega) (by dsimp only; omega)) ?_)
        rintro ⟨x, r4⟩ ⟨h14, h15⟩
        dsimp only at *
        exact ok.app (by simp; omega) (ok.some ⟨h14.mono (by omega), h12.snoc h15, by simp; omega⟩)
      · rintro ⟨s1, s2, s3⟩ ⟨h11, h12, h13⟩
        dsimp only at *
        unfold m_S_anyTable2_b2
        exact ok.iff (by omega) (ok.some ⟨h11.mono (by omega), by have := h12.1; dsimp only; omega, h12.2⟩)
      · rintro ⟨e1, e2, e3⟩ ⟨h11, h12⟩
        exact ok.some ⟨RdB.mono h11 (by omega), h2.1.mono (by omega), ⟨by dsimp only; omega, h3.2⟩, h12⟩
theorem drawT (l : List UInt8) : ok (m_S_newReader N l) fun r => ok (m_S_anyTable2 N r) fun x => RdB x.2 3000 ∧ dT x.1 := (newB l).mono fun r h => (tabB hN h (by omega)).mono fun x hx => ⟨hx.1.mono (by omega), hx.2⟩
end
end V
end Go.Proofs.Ytlpbgmahegoidaa
namespace Go.Proofs.Ytlpbgmahegoidaa
namespace V
open Enc (enc)
open Go.RowKit Go.ChangeShapes Go.WideShapes Go.ChangeAt
def TL (w : World) (U : Nat → Prop) (cs : List Tr) (ys : List Value) : Prop :=
  ys.length = cs.length ∧ (∀ y, y ∈ ys → y.oneCell' = true) ∧ ∀ (j : Nat) c y, cs[j]? = some c → ys[j]? = some y → TRel w U c y
theorem TL.nil {w : World} {U : Nat → Prop} : TL w U [] [] := ⟨rfl, fun y h => (List.not_mem_nil h).elim, fun j c y h => by simp at h⟩
theorem TL.app {w : World} {U : Nat → Prop} {cs ds : List Tr} {ys zs : List Value} (h1 : TL w U cs ys) (h2 : TL w U ds zs) : TL w U (cs ++ ds) (ys ++ zs) := by
  refine ⟨by simp [h1.1, h2.1], fun y h => (List.mem_append.1 h).elim (h1.2.1 y) (h2.2.1 y), fun j c y hc hy => ?_⟩
  rcases Nat.lt_or_ge j cs.length with hj | hj
  · rw [List.getElem?_append_left hj] at hc
    rw [List.getElem?_append_left (by rw [h1.1]; exact hj)] at hy
    exact h1.2.2 j c y hc hy
  · rw [List.getElem?_append_right hj] at hc
    rw [List.getElem?_append_right (by rw [h1.1]; exact hj), h1.1] at hy
    exact h2.2.2 _ c y hc hy
theorem TL.one {w : World} {U : Nat → Prop} {c : Tr} {y : Value} (h1 : y.oneCell' = true) (h : TRel w U c y) : TL w U [c] [y] := by
  refine ⟨rfl, fun z hz => by simp at hz; subst hz; exact h1, fun j d z hc hz => ?_⟩
  cases j with
  | zero => simp at hc hz; subst hc hz; exact h
  | succ j => simp at hc
class Szd (α : Type) where szd : α → Prop
open Szd (szd)
instance : Szd Int := ⟨fun n => -9223372036854775808 ≤ n ∧ n ≤ 9223372036854775807⟩
instance : Szd Bool := ⟨fun _ => True⟩
instance : Szd UInt8 := ⟨fun _ => True⟩
instance : Szd ByteArray := ⟨fun s => s.size ≤ 9223372036854775807⟩
instance {α : Type} [Szd α] : Szd (List α) := ⟨fun xs => xs.length ≤ 9223372036854775807 ∧ ∀ x ∈ xs, szd x⟩
class Opn (P : Program) (α : Type) [Enc α] [Szd α] (t : TypeId) : Prop where
  opn : ∀ {H : Type} {en : TypeId × Value → H} {W : World} {fuel : Nat} {cs : List Value} {x : DataW H × List MemPlace}, DataW.trod en P W 0 (fun _ => true) true fuel t cs = some x → ∃ a : α, TL W (· < W.heap.size) (enc a) cs ∧ szd a
section
variable {P : Program} {t : TypeId}
theorem Opn.u8 (ht : P.underlying t = some (.int .u8)) : Opn P UInt8 t := ⟨fun h => by
  obtain ⟨n, rfl, rfl, hw⟩ := DataW.trod_int ht h
  have hn : 0 ≤ n ∧ n ≤ 255 := by simpa [Lit.wf, IntKind.min, IntKind.max, IntKind.signed, IntKind.bits] using hw
  obtain ⟨k, rfl⟩ := Int.eq_ofNat_of_zero_le hn.1
  refine ⟨UInt8.ofNat k, TL.one rfl ?_, trivial⟩
  have : (UInt8.ofNat k).toNat = k := UInt8.toNat_ofNat_of_lt' (by show k < 256; omega)
  rw [this]; exact .v _ rfl⟩
theorem spot_none {w : World} {a : Addr} {v : Value} (h : w.cell? a = some v) : a.spot = none := by
  unfold World.cell? at h
  split at h
  · split at h
    · cases h
    · simpa using ‹¬ a.spot.isSome = true›
  · cases h
theorem cell_lt {w : World} {a : Addr} {v : Value} (h : w.cell? a = some v) : a.block < w.heap.size := by
  unfold World.cell? at h
  split at h
  · rename_i hq
    exact (Array.getElem?_eq_some_iff.1 hq).1
  · cases h
theorem addr_add' {B o j : Nat} : Addr.add ⟨B, o, none⟩ j = ⟨B, o + j, none⟩ := by unfold Addr.add; split <;> simp_all
theorem addr_add2 (a : Addr) (i j : Nat) : (a.add i).add j = a.add (i + j) := by unfold Addr.add; by_cases hi : i = 0 <;> by_cases hj : j = 0 <;> simp [hi, hj, Nat.add_assoc]
theorem Opn.sl {α : Type} [F : Enc α] [Szd α] {e : TypeId} (ht : P.underlying t = some (.slice e)) (hc : P.cellsOf e = F.k) (hpos : 0 < F.k) [E : Opn P α e] : Opn P (List α) t := ⟨fun {H en W fuel cs x} h => by
  rcases Go.Deep.open_slice ht h with ⟨rfl, rfl⟩ | ⟨a, len, cap, m, n, D, Pl, rfl, _, hl, hm, hmm, rfl, hel⟩
  · exact ⟨[], TL.one rfl .nil, by simp, fun x hx => by cases hx⟩
  · simp only [if_pos] at hmm
    have hm' : cap ≤ 9223372036854775807 := hm
    -- the elements, one by one
    have key : ∀ k, k ≤ len → ∃ (xs : List α) (ys : List Value), xs.length = k ∧ TL W (· < W.heap.size) (eL xs) ys ∧ (∀ x ∈ xs, szd x) ∧ ∀ (j : Nat) y, ys[j]? = some y → W.cell? (a.add j) = some y := by
      intro k
      induction k with
      | zero => intro _; exact ⟨[], [], rfl, TL.nil, fun x hx => (List.not_mem_nil hx).elim, fun j y hy => (by simp at hy)⟩
      | succ k ih =>
        intro hk
        obtain ⟨xs, ys, h1, h2, h3, h4⟩ := ih (by omega)
        obtain ⟨cs', h5, h6⟩ := hel k (by omega)
        obtain ⟨x, h7, h8⟩ := E.opn h6
        obtain ⟨_, hcl, hcg⟩ := World.cells?_some h5
        have hyl : ys.length = k * F.k := by rw [h2.1, eL_len, h1]
        refine ⟨xs ++ [x], ys ++ cs', by simp [h1], ?_, fun y hy => ?_, fun j y hy => ?_⟩
        · rw [eL_app, eL_one]; exact h2.app h7
        · rcases List.mem_append.1 hy with hy | hy
          · exact h3 y hy
          · simp at hy; subst hy; exact h8
        · rcases Nat.lt_or_ge j ys.length with hj | hj
          · rw [List.getElem?_append_left hj] at hy; exact h4 j y hy
          · rw [List.getElem?_append_right hj] at hy
            have hjl := (List.getElem?_eq_some_iff.1 hy).1
            have := hcg (j - ys.length) (by omega)
            rw [hy, hyl] at this
            rw [addr_add2, hc] at this
            rw [← this]
            congr 2; omega
    obtain ⟨xs, ys, h1, h2, h3, h4⟩ := key len (Nat.le_refl _)
    subst h1
    refine ⟨xs, ?_, by show xs.length ≤ 9223372036854775807; omega, h3⟩
    by_cases h0 : xs.length = 0
    · obtain rfl := List.eq_nil_of_length_eq_zero h0
      exact TL.one rfl (.sl0 _ _)
    · have hne : 0 < ys.length := by rw [h2.1, eL_len]; exact Nat.mul_pos (by omega) hpos
      have c0 := h4 0 _ (List.getElem?_eq_getElem hne)
      have hsp : a.spot = none := spot_none (by simpa [Addr.add] using c0)
      have hb := cell_lt c0
      obtain ⟨B, o, s⟩ := a
      simp only at hsp; subst hsp
      rw [addr_add'] at hb
      exact TL.one rfl (.sl B o xs.length cap (eL xs) ys hb h2.1 h2.2.1 (fun j y hy => by have := h4 j y hy; rwa [addr_add'] at this) h2.2.2 hl)⟩
theorem Opn.arg {α : Type} [F : Enc α] [Szd α] {H : Type} {en : TypeId × Value → H} {W : World} {v : Value} {d : DataW H} {ps : List MemPlace} (E : Opn P α t) (hk : ∀ a : α, (enc a).length = 1) (hv : v.cells = #[v]) (h : DataW.Trod en P W 0 (fun _ => true) true t v d ps) :
    ∃ a : α, (∀ M, ∀ c, (enc a)[0]? = some c → Rel W (· < W.heap.size) M (.t c) v) ∧ szd a := by
  obtain ⟨fuel, hf⟩ := h
  rw [hv] at hf
  obtain ⟨a, h1, h2⟩ := E.opn hf
  exact ⟨a, fun M c hc => .t _ _ (h1.2.2 0 c v hc rfl), h2⟩
theorem args1 {w : World} {U : Nat → Prop} {M : Mp} {a : AV} {y : Value} (h : Rel w U M a y) : ArgsRel w U M [a] [y] :=
  ⟨rfl, fun i c z hc hz => by
    match i with
    | 0 => cases hc; cases hz; exact h
    | i + 1 => simp at hc⟩
theorem own : ownKnob Try.prog.godebug = none := by kernel_rfl
theorem laidOut : laidOutB Try.prog = true := by kernel_rfl
theorem law_run {f : FuncId} {args : List AV} {av : List Value} {W : World} (ht : TabOk W (· < W.heap.size)) (hc : FnX P f [] args (RE (bA true) [])) (ha : ArgsRel W (· < W.heap.size) [] args av) : Calls P f av.toArray W fun e W' => e = .returned (.bool true) ∧ Below W.heap.size W W' := by
  have := hc ⟨W, [], (· < W.heap.size)⟩ (· < W.heap.size) av ?_ (fun B h => h) ha
  · refine this.mono ?_
    rintro e w' ⟨v, r, bl, M', U', rfl, ⟨rfl, rfl⟩, h3, h4⟩
    cases h3 with | t _ _ h =>
    cases h
    refine ⟨rfl, ?_⟩
    exact h4.base.below
  · have hno : ∀ B, ¬ InM [] B := fun B ⟨b, p, h, _⟩ => by simp at h
    exact ⟨BelowX.refl _ _, fun b x h => by simp at h, rfl, fun B h => (hno B h).elim, fun B h => (hno B h).elim, fun b b' p p' B h => by simp at h, fun f F h => by simp at h, fun b ob x h => by simp at h, fun B h => ⟨⟨h, hno B⟩, .inl h⟩, ht⟩
end
end V
end Go.Proofs.Ytlpbgmahegoidaa
namespace Go.Proofs.Ytlpbgmahegoidaa
namespace V
set_option maxHeartbeats 1000000
def ltB (a b : ByteArray) : Bool := Op.bytesLess a.toList b.toList
def cv (t : I_Table) (c : Nat) (r : I_Tagged) : I_Value := ((adv t r)[c]?).getD ⟨0, 0, ByteArray.empty⟩
theorem cv_get {t : I_Table} (h : tV t) {i c : Nat} (hi : i < t.rows.length) (hc : c < (fL t).length) : ∃ h : c < (adv t t.rows[i]).length, cv t c t.rows[i] = (adv t t.rows[i])[c] ∧ vV (cv t c t.rows[i]) := by
  have hf := adv_fit h (h.2.2 i hi)
  have hl : c < (adv t t.rows[i]).length := by rw [hf.1]; exact hc
  have e : cv t c t.rows[i] = (adv t t.rows[i])[c] := by unfold cv; rw [List.getElem?_eq_getElem hl]; rfl
  exact ⟨hl, e, e ▸ (hf.2 c hl hc).1⟩
def hasC (t : I_Table) (c : Int) : Prop := tV t ∧ 0 ≤ c ∧ c < (fL t).length
noncomputable instance (t : I_Table) (c : Int) : Decidable (hasC t c) := Classical.propDecidable _
section
variable {N : Nat} (hN : 100000000 ≤ N)
include hN
theorem drawSc (l : List UInt8) : ok (m_S_DrawScanTable N l) fun x => bT x.1 ∧ x.2.2.1.text.size ≤ 5000000 ∧ x.2.2.2.text.size ≤ 5000000 := by
  have e0 : ByteArray.empty.size = 0 := rfl
  have e3 : (ByteArray.mk #[126, 126, 126]).size = 3 := rfl
  unfold m_S_DrawScanTable
  refine ok.call (drawT hN l) fun r h => ok.call h fun x hx => ok.call (oneB hx.1 (by omega) (by simp) (by simp)) ?_
  rintro ⟨c, r2⟩ ⟨h3, h4⟩
  refine ok.call (anyvalB h3 (by omega)) ?_
  rintro ⟨v, r3⟩ ⟨h5, h6⟩
  refine ok.call (pickB h5 (by omega) (by omega)) ?_
  rintro ⟨y, r4⟩ ⟨h7, h8⟩
  refine ok.ite (fun _ => ok.call (pickB h7 (by omega) (by omega)) ?_) fun _ => ok.call (pickB h7 (by omega) (by omega)) ?_
  · rintro ⟨y, r5⟩ ⟨h9, h10⟩
    refine ok.ite (fun _ => ok.some ⟨hx.2.bT, by dsimp only; omega, by dsimp only; omega⟩) fun _ => ok.call (anyvalB h9 (by omega)) ?_
    rintro ⟨w, r6⟩ ⟨h11, h12⟩
    exact ok.some ⟨hx.2.bT, by dsimp only; omega, h12.2⟩
  · rintro ⟨y, r5⟩ ⟨h9, h10⟩
    refine ok.ite (fun _ => ok.some ⟨hx.2.bT, h6.2, by dsimp only; omega⟩) fun _ => ok.call (anyvalB h9 (by omega)) ?_
    rintro ⟨w, r6⟩ ⟨h11, h12⟩
    exact ok.some ⟨hx.2.bT, h6.2, h12.2⟩
theorem eqInts {r : List Int} (hl : r.length ≤ 5000000) : m_L_equalInts N r r = some true := by
  refine ok.val ?_
  unfold m_L_equalInts
  refine ok.ift rfl (ok.eq (loop_self (n := r.length) (by omega) (fun i hi => ?_) ?_) (ok.some rfl))
  · show m_L_equalInts_b1 N r r (i : Int) = _
    unfold m_L_equalInts_b1
    exact ok.val (ok.ift (by omega) (ok.eq (ixI_nat hi) (ok.eq (ixI_nat hi) (ok.ift rfl (ok.chk (by omega) (ok.some rfl))))))
  · show m_L_equalInts_b1 N r r _ = _
    unfold m_L_equalInts_b1
    rw [decide_eq_false (by omega)]; rfl
end
end V
end Go.Proofs.Ytlpbgmahegoidaa
namespace Go.Proofs.Ytlpbgmahegoidaa
namespace V
set_option maxHeartbeats 1000000
def cvs (t : I_Table) (c : Nat) : List I_Value := t.rows.map (cv t c)
def prOf (vs : List I_Value) (i : Nat) : I_Pair := ⟨keyP ((vs[i]?).getD ⟨0, 0, ByteArray.empty⟩), i⟩
def prs (vs : List I_Value) (n : Nat) : List I_Pair := (List.range n).map (prOf vs)
theorem prs_len (vs : List I_Value) (n : Nat) : (prs vs n).length = n := by unfold prs; simp
theorem prs_succ (vs : List I_Value) (n : Nat) : prs vs (n + 1) = prs vs n ++ [prOf vs n] := by unfold prs; rw [List.range_succ, List.map_append]; rfl
def ltK (p q : I_Pair) : Bool := ltB p.key q.key
noncomputable def indexP (t : I_Table) (c : Int) : List I_Pair := if hasC t c then insA ltK (prs (cvs t c.toNat) t.rows.length) else []
theorem indexP_len (t : I_Table) (c : Int) : (indexP t c).length ≤ 10 := by
  unfold indexP
  split
  · rename_i h
    rw [insA_len, prs_len]; exact h.1.2.1
  · exact Nat.zero_le _
theorem prOf_at {t : I_Table} {c i : Nat} (hi : i < t.rows.length) : prOf (cvs t c) i = ⟨keyP (cv t c t.rows[i]), i⟩ := by
  unfold prOf cvs
  rw [List.getElem?_map, List.getElem?_eq_getElem hi]; rfl
section
variable {N : Nat} (hN : 100000000 ≤ N)
include hN
theorem widthS {t : I_Table} (hb : bT t) (hv : tV t) : m_S_width N t = some ((fL t).length : Int) := by
  refine ok.val ?_
  unfold m_S_width
  refine ok.eq (formatsS hN hb.f.1 (vF_bN hv.1.1) hb.c) ?_
  rw [if_pos hv.1.2.2]
  exact ok.eq (chs_ix rfl (Nat.le_refl _)) (ok.some rfl)
omit hN in
theorem ins_roundS {x : I_Pair} {A : List I_Pair} (hl : A.length ≤ 12) (hN : 100 ≤ N) :
    loopM (β := (List I_Pair)) (fun s : Int × (List I_Pair) => m_S_pairs_b3 N s.1 s.2) N ((A.length : Int), A ++ [x]) = some (insR ltK x A) := by
  have h := insR_loop (lt := ltK) (x := x) (body := fun s : Int × (List I_Pair) => m_S_pairs_b3 N s.1 s.2) (G := fun _ => True) (m := A.length + 1) ?_ ?_ ?_ A.length N A [] rfl (by simp) (by omega) (fun _ _ => trivial)
  · rw [h, List.append_nil]
  · intro B q D hB _ hlt
    have hb : B.length + 1 < A.length + 1 := by rw [← hB]; simp
    have e : ((B.length + 1 : Nat) : Int) - 1 = (B.length : Int) := by omega
    show m_S_pairs_b3 N ((B.length + 1 : Nat) : Int) (B ++ q :: x :: D) = _
    unfold m_S_pairs_b3
    refine ok.val (ok.ift (by omega) (ok.eq (at_1 B D q x) (ok.chk (by omega) ?_)))
    rw [e]
    refine ok.eq (at_0 B (x :: D) q) (ok.bt hlt (ok.chk (by omega) ?_))
    refine ok.eq (at_0 B (x :: D) q) (ok.chk (by omega) ?_)
    refine ok.eq (v := q) ?_ (ok.chk (by omega) (ok.some ?_))
    · rw [Int.toNat_natCast]
      rw [ixI_nat (by simp)]
      simp
    · rw [Int.toNat_natCast, Int.toNat_natCast, swap_set]
  · intro B q D hB _ hlt
    have hb : B.length + 1 < A.length + 1 := by rw [← hB]; simp
    have e : ((B.length + 1 : Nat) : Int) - 1 = (B.length : Int) := by omega
    show m_S_pairs_b3 N ((B.length + 1 : Nat) : Int) (B ++ q :: x :: D) = _
    unfold m_S_pairs_b3
    refine ok.val (ok.ift (by omega) (ok.eq (at_1 B D q x) (ok.chk (by omega) ?_)))
    rw [e]
    exact ok.eq (at_0 B (x :: D) q) (ok.bf hlt (ok.some rfl))
  · intro D hD
    show m_S_pairs_b3 N 0 (x :: D) = _
    unfold m_S_pairs_b3
    rfl
theorem pairsS {t : I_Table} {c : Int} (hc : hasC t c) : m_S_pairs N t c = some (insA ltK (prs (cvs t c.toNat) t.rows.length)) := by
  have hv := hc.1
  have h10 := hv.2.1
  have hc0 := hc.2.1
  have hc1 := hc.2.2
  refine ok.val ?_
  unfold m_S_pairs
  refine ok.eq (latestS hN hv) (ok.call (P := fun o => o = insA ltK (prs (cvs t c.toNat) t.rows.length)) (ok.each t.rows.length (fun i s => s = ((i : Int), insA ltK (prs (cvs t c.toNat) i))) _ ?_ ?_ N 0 _ (Nat.zero_le _) rfl (by omega)) ?_)
  · rintro i s hi rfl
    show ok (m_S_pairs_b2 N c _ (i : Int) _) _
    unfold m_S_pairs_b2
    obtain ⟨h3, h4, h5⟩ := cv_get hv (c := c.toNat) hi (by omega)
    have e1 : ixI (t.rows.map (adv t)) (i : Int) = some (adv t t.rows[i]) := by rw [ixI_nat (by simpa using hi)]; simp
    have e2 : ixI (adv t t.rows[i]) c = some (cv t c.toNat t.rows[i]) := by rw [ixI_eq (n := c.toNat) (by omega) h3, h4]
    have hl : (insA ltK (prs (cvs t c.toNat) i)).length = i := by rw [insA_len, prs_len]
    have hr := ins_roundS (N := N) (x := prOf (cvs t c.toNat) i) (A := insA ltK (prs (cvs t c.toNat) i)) (by omega) (by omega)
    rw [hl, prOf_at hi] at hr
    refine ok.ift (by simpa using hi) (ok.eq e1 (ok.eq e2 (ok.eq (keyS hN h5) (ok.app (by simp only [hl, List.length_singleton]; omega) (ok.eq hr ?_)))))
    unfold m_S_pairs_k3
    refine ok.chk (by omega) (ok.some ?_)
    show _ = _
    rw [prs_succ, insA_snoc, prOf_at hi]; rfl
  · rintro s rfl
    show ok (m_S_pairs_b2 N c _ _ _) _
    unfold m_S_pairs_b2
    exact ok.iff (by simp) (ok.some rfl)
  · rintro o rfl
    exact ok.some rfl
theorem idxS {t : I_Table} (hb : bT t) (c : Int) : m_S_IndexColumn N t c = some (indexP t c) := by
  refine ok.val ?_
  unfold m_S_IndexColumn indexP
  refine ok.eq (validTS hN hb) (ok.ite (fun hv => ?_) fun hv => ok.some (by rw [if_neg fun e : hasC t c => hv e.1]))
  have hfl := (fL_v hv).1
  refine ok.eq (widthS hN hb hv) (ok.chk (by omega) (ok.eq (inRange_eq N _ _ _) (ok.ite (fun hr => ?_) fun hr => ok.some ?_)))
  · have hc : hasC t c := ⟨hv, hr.1, by omega⟩
    rw [if_pos hc]
    exact ok.eq (pairsS hN hc) (ok.some rfl)
  · rw [if_neg fun e : hasC t c => hr ⟨e.2.1, by have := e.2.2; omega⟩]
end
end V
end Go.Proofs.Ytlpbgmahegoidaa
namespace Go.Proofs.Ytlpbgmahegoidaa
namespace V
set_option maxHeartbeats 1000000
theorem btwK_self (k : ByteArray) (p : I_Pair) : btwK k k p = decide (p.key = k) := by
  unfold btwK
  by_cases h : p.key = k
  · rw [decide_eq_true h, h, bl_self]; rfl
  · rw [decide_eq_false h]
    cases h1 : Op.bytesLess p.key.toList k.toList
    · cases h2 : Op.bytesLess k.toList p.key.toList
      · exact absurd (text_inj (bl_eq h1 h2)) h
      · rfl
    · rfl
theorem ser_le {l : List I_Pair} {lo hi : I_Value} (h : (serP l lo hi).length ≠ 0) : (l.length ≤ 10 ∧ vV lo ∧ vV hi) ∧ (serP l lo lo).length = l.countP (fun p => decide (p.key = keyP lo)) ∧ (serP l lo lo).length ≤ (serP l lo hi).length := by
  have hc : l.length ≤ 10 ∧ vV lo ∧ vV hi := by
    unfold serP at h
    split at h
    · assumption
    · exact absurd rfl h
  have e1 : (serP l lo hi).length = l.countP (btwK (keyP lo) (keyP hi)) := by
    unfold serP; rw [if_pos hc, sortP_len, List.length_map, List.countP_eq_length_filter]
  have e2 : (serP l lo lo).length = l.countP (btwK (keyP lo) (keyP lo)) := by
    unfold serP; rw [if_pos ⟨hc.1, hc.2.1, hc.2.1⟩, sortP_len, List.length_map, List.countP_eq_length_filter]
  have e3 : l.countP (btwK (keyP lo) (keyP lo)) = l.countP (fun p => decide (p.key = keyP lo)) := List.countP_congr fun p _ => by rw [btwK_self]
  refine ⟨hc, e2.trans e3, ?_⟩
  rw [e1, e2]
  rw [e1] at h
  obtain ⟨p, hp, hb⟩ := List.countP_pos_iff.1 (Nat.pos_of_ne_zero h)
  refine List.countP_mono_left fun q _ hq => ?_
  rw [btwK_self] at hq
  have hk := of_decide_eq_true hq
  unfold btwK at hb ⊢
  rw [hk, bl_self]
  simp only [Bool.and_eq_true, Bool.not_eq_true'] at hb
  cases h1 : Op.bytesLess (keyP hi).toList (keyP lo).toList
  · rfl
  · have := bl_trans h1 hb.1
    rw [hb.2] at this; cases this
section
variable {N : Nat} (hN : 100000000 ≤ N)
include hN
theorem drawSe (l : List UInt8) : ok (m_S_DrawSearchPairs N l) fun x => x.1.length ≤ 11 ∧ x.2.1.text.size ≤ 5000000 ∧ x.2.2.text.size ≤ 5000000 := by
  unfold m_S_DrawSearchPairs
  refine ok.call (newB l) ?_
  intro r hr
  refine ok.call (drawSc hN l) ?_
  rintro ⟨t, c, v, w⟩ ⟨h1, h2, h3⟩
  dsimp only at h1 h2 h3 ⊢
  have hl := indexP_len t c
  refine ok.eq (idxS hN h1 c) (ok.call (pickB hr (by omega) (by omega)) ?_)
  rintro ⟨y, r4⟩ _
  refine ok.ite (fun _ => ?_) fun _ => ok.some ⟨by show (indexP t c).length ≤ 11; omega, h2, h3⟩
  refine ok.call (P := fun e : List I_Pair => e.length ≤ 11) (ok.loop (fun s : List I_Pair => s.length ≤ 11) (fun s => 11 - s.length) _ ?_ N _ (by omega) (by omega)) ?_
  · intro s hs
    unfold m_S_DrawSearchPairs_b1
    refine ok.ite (fun hc => ok.app (by simp; omega) (ok.some ⟨by simp; omega, by simp; omega⟩)) fun hc => ok.some hs
  · intro e he
    exact ok.some ⟨he, h2, h3⟩
theorem lawFnSearchPairs (l : List UInt8) (sl : Szd.szd l) : m_L_FnSearchPairs N l = some true := by
  refine ok.val ?_
  unfold m_L_FnSearchPairs
  refine ok.ite (fun h => ok.some rfl) fun h => ok.call (drawSe hN l) ?_
  rintro ⟨xs, lo, hi⟩ ⟨h1, h2, h3⟩
  dsimp only at h1 h2 h3 ⊢
  have hq : (serP xs lo hi).length ≤ 5000000 := by have := serP_len xs lo hi; omega
  refine ok.eq (serI hN h2 h3) (ok.eq (serS hN h2 h3) (ok.eq (eqInts hN hq) (ok.bt rfl (ok.ite (fun h0 => ?_) fun h0 => ?_))))
  · exact ok.eq (serS hN h2 h3) (ok.eq (eqInts hN hq) (ok.some rfl))
  obtain ⟨hc, e1, e2⟩ := ser_le (l := xs) (lo := lo) (hi := hi) (by omega)
  refine ok.eq (serI hN h2 h2) (ok.eq (keyI hN hc.2.1 h2) ?_)
  refine ok.call (P := fun e : Int => e = ((xs.countP fun p => decide (p.key = keyP lo) : Nat) : Int)) (ok.loop (fun s : Int × Int => ∃ i : Nat, s.2 = (i : Int) ∧ i ≤ xs.length ∧ s.1 = (((xs.take i).countP fun p => decide (p.key = keyP lo) : Nat) : Int)) (fun s => (xs.length - s.2).toNat) _ ?_ N _ ⟨0, rfl, Nat.zero_le _, rfl⟩ (by show ((xs.length : Int) - 0).toNat < N; omega)) ?_
  · rintro ⟨x1, x2⟩ ⟨i, hx2, hi', hx1⟩
    dsimp only at hx2 hx1
    subst hx2; subst hx1
    unfold m_L_FnSearchPairs_b1
    refine ok.ite (fun hlt => ?_) fun hlt => ?_
    · have hlt' : i < xs.length := by have : (i : Int) < (xs.length : Int) := hlt; omega
      have hcl := count_le (fun p : I_Pair => decide (p.key = keyP lo)) xs i
      refine ok.eq (ixI_nat hlt') ?_
      rw [textEq]
      refine ok.ite (fun hk => ok.chk (by omega) (ok.chk (by omega) (ok.some ⟨⟨i + 1, rfl, hlt', ?_⟩, by show ((xs.length : Int) - ((i : Int) + 1)).toNat < ((xs.length : Int) - (i : Int)).toNat; omega⟩))) fun hk => ok.chk (by omega) (ok.some ⟨⟨i + 1, rfl, hlt', ?_⟩, by show ((xs.length : Int) - ((i : Int) + 1)).toNat < ((xs.length : Int) - (i : Int)).toNat; omega⟩)
      · dsimp only
        rw [count_take _ hlt', if_pos (decide_eq_true hk)]; rfl
      · dsimp only
        rw [count_take _ hlt', if_neg (by rw [decide_eq_false hk]; decide)]; rfl
    · obtain rfl : i = xs.length := by have : ¬ (i : Int) < (xs.length : Int) := hlt; omega
      refine ok.some ?_
      dsimp only
      rw [List.take_length]
  · rintro e rfl
    unfold m_L_FnSearchPairs_k1
    rw [e1] at e2 ⊢
    refine ok.ift rfl (ok.some (decide_eq_true (by omega)))
end
end V
end Go.Proofs.Ytlpbgmahegoidaa
namespace Go.Proofs.Ytlpbgmahegoidaa
namespace V
set_option maxRecDepth 100000
theorem mayEnter_of {P : Program} {c : List Char} {rest : List (List Char)} (h : behindMainWord (wordsSigns P.initOrder.toList) = c :: rest)
    (h1 : ((stripLifts liftWords (c :: rest)).2.head? == some "cut".toList) = true) (h2 : ((stripLifts liftWords (c :: rest)).1.contains "finals" || !P.laysLater) = true)
    (h3 : ((stripLifts liftWords (c :: rest)).1.contains "reflectrows" || !P.bearsReflect) = true) (h4 : ((stripLifts liftWords (c :: rest)).1.contains "reflectrows" || !(stripLifts liftWords (c :: rest)).1.contains "leanrows") = true)
    (h5 : P.doorFits (stripLifts liftWords (c :: rest)).1 = true) : P.mayEnter = true := by
  unfold Program.mayEnter
  rw [h]
  simp only [h1, h2, h3, h4, h5, Bool.and_true, Bool.or_true]
theorem lifted_of {P : Program} {b : Bool} (h : P.liftsFinal = false) (hb : b = false) : (b == P.liftsFinal) = true := by rw [h, hb]; rfl
theorem make_of {P : Program} {m : Make} (h : P.make = some .cut) (hm : m = .cut) : (P.make == some m) = true := by rw [h, hm]; rfl
theorem iniT : Try.prog.initOrder = String.ofList (List.map Char.ofNat [104, 97, 114, 110, 101, 115, 115, 32, 55, 51, 99, 101, 97, 55, 101, 49, 53, 102, 55, 101, 55, 55, 55, 100, 100, 51, 48, 49, 52, 56, 52, 56, 97, 53, 99, 53, 49, 100, 55, 98, 102, 54, 51, 53, 98, 53, 54, 52, 98, 52, 53, 98, 57, 102, 56, 51, 101, 97, 54, 52, 48, 99, 55, 98, 53, 98, 101, 55, 52, 55, 52, 57, 32, 99, 117, 116, 32, 97, 116, 32, 108, 111, 111, 112, 46, 101, 120, 97, 109, 112, 108, 101, 47, 115, 99, 104, 101, 109, 97, 109, 105, 103, 114, 97, 116, 105, 111, 110, 47, 108, 97, 119, 115, 46, 70, 110, 69, 120, 97, 99, 116, 85, 115, 97, 98, 108, 101, 73, 110, 100, 101, 120, 101, 115, 32, 108, 111, 111, 112, 46, 101, 120, 97, 109, 112, 108, 101, 47, 115, 99, 104, 101, 109, 97, 109, 105, 103, 114, 97, 116, 105, 111, 110, 47, 108, 97, 119, 115, 46, 70, 110, 69, 120, 97, 99, 116, 83, 101, 97, 114, 99, 104, 80, 97, 105, 114, 115, 32, 108, 111, 111, 112, 46, 101, 120, 97, 109, 112, 108, 101, 47, 115, 99, 104, 101, 109, 97, 109, 105, 103, 114, 97, 116, 105, 111, 110, 47, 108, 97, 119, 115, 46, 70, 110, 83, 101, 97, 114, 99, 104, 80, 97, 105, 114, 115]) := by kernel_rfl
theorem iniW : behindMainWord (wordsSigns Try.prog.initOrder.toList) = List.map Char.ofNat [99, 117, 116] :: List.map (List.map Char.ofNat) [[97, 116], [108, 111, 111, 112, 46, 101, 120, 97, 109, 112, 108, 101, 47, 115, 99, 104, 101, 109, 97, 109, 105, 103, 114, 97, 116, 105, 111, 110, 47, 108, 97, 119, 115, 46, 70, 110, 69, 120, 97, 99, 116, 85, 115, 97, 98, 108, 101, 73, 110, 100, 101, 120, 101, 115], [108, 111, 111, 112, 46, 101, 120, 97, 109, 112, 108, 101, 47, 115, 99, 104, 101, 109, 97, 109, 105, 103, 114, 97, 116, 105, 111, 110, 47, 108, 97, 119, 115, 46, 70, 110, 69, 120, 97, 99, 116, 83, 101, 97, 114, 99, 104, 80, 97, 105, 114, 115], [108, 111, 111, 112, 46, 101, 120, 97, 109, 112, 108, 101, 47, 115, 99, 104, 101, 109, 97, 109, 105, 103, 114, 97, 116, 105, 111, 110, 47, 108, 97, 119, 115, 46, 70, 110, 83, 101, 97, 114, 99, 104, 80, 97, 105, 114, 115]] := by rw [iniT, String.toList_ofList]; kernel_rfl
theorem mayE : Try.prog.mayEnter = true := mayEnter_of iniW (by kernel_rfl) (by kernel_rfl) (by kernel_rfl) (by kernel_rfl) (by kernel_rfl)
theorem liftE : Try.prog.liftsFinal = false := by
  unfold Program.liftsFinal Program.headLifts
  rw [iniW]
  kernel_rfl
theorem make_cut {P : Program} {c : List Char} {rest : List (List Char)} (h : behindMainWord (wordsSigns P.initOrder.toList) = c :: rest) (h1 : (c == "gc".toList || c == "spec".toList) = false) (h2 : (c == "cut".toList || (c == "finals".toList && rest.head? == some "cut".toList)) = true) : P.make = some .cut := by
  unfold Program.make
  rw [h]
  simp only [h1, h2, if_true, Bool.false_eq_true, if_false]
theorem makeE : Try.prog.make = some .cut := make_cut iniW (by kernel_rfl) (by kernel_rfl)
end V
end Go.Proofs.Ytlpbgmahegoidaa
namespace Go.Proofs.Ytlpbgmahegoidaa
namespace V
open Enc (enc)
set_option maxHeartbeats 4000000
set_option maxRecDepth 100000
open Go.RowKit
attribute [local irreducible] thA inA FinA eL
open Szd (szd)
open Go.ChangeShapes Go.WideShapes Go.ChangeAt
instance : Opn Try.prog UInt8 5 := Opn.u8 Try.underlying5
instance : Opn Try.prog (List UInt8) 49 := Opn.sl Try.underlying49 (by kernel_rfl) (by decide)
end V
end Go.Proofs.Ytlpbgmahegoidaa
