/- What the rows need, part 3. No condition. -/
import Derived.Lib.AppendZerosOnto
import Derived.Lib.Overlaps
import Derived.Laws.IdiomCopy
import Derived.Laws.CopyRow
import Derived.Shelf.Strconv.Itoa3
import Derived.Test.YtikobdnhflcnmaaDoorProg
import Derived.Test.YtikobdnhflcnmaaDoorQXdB
namespace Go.Proofs.YtikobdnhflcnmaaDoor
namespace V
open Enc (enc)
set_option linter.unusedVariables false
set_option linter.unusedSimpArgs false
set_option maxHeartbeats 4000000
set_option maxRecDepth 100000
open Go.RowKit
attribute [local irreducible] thA inA FinA eL
structure I_Value where
  kind : Int
  num : Int
  text : ByteArray
deriving DecidableEq
instance : Enc I_Value := ⟨fun x => [.v (.int .i64 x.kind), .v (.int .i64 x.num), .v (.string x.text)], 3, fun _ => rfl⟩
instance : EncF I_Value := ⟨fun _ c h => by simp [enc] at h; rcases h with h | h | h <;> exact ⟨_, h⟩⟩
structure I_Column where
  kind : Int
  default : I_Value
deriving DecidableEq
instance : Enc I_Column := ⟨fun x => [.v (.int .i64 x.kind), .v (.int .i64 x.default.kind), .v (.int .i64 x.default.num), .v (.string x.default.text)], 4, fun _ => rfl⟩
instance : EncF I_Column := ⟨fun _ c h => by simp [enc] at h; rcases h with h | h | h | h <;> exact ⟨_, h⟩⟩
def m_I_validText_k1 (N : Nat) : Option (Bool) :=
  some true
def m_I_validText_b1 (N : Nat) (p_s : ByteArray) (i2 : Int) : Option (Int ⊕ (Unit ⊕ Bool)) :=
  cond (decide (i2 < (p_s.size : Int)))
    ((ixS p_s i2).bind fun c18 =>
    cond (decide ((c18.toNat : Int) < ((32 : UInt8).toNat : Int)))
      (some (.inr (.inr false)))
      ((ixS p_s i2).bind fun c21 =>
      cond (decide (((126 : UInt8).toNat : Int) < (c21.toNat : Int)))
        (some (.inr (.inr false)))
        ((chk (i2 + (1 : Int))).bind fun n24 =>
        some (.inl n24))))
    (some (.inr (.inl ())))
def m_I_validText (N : Nat) (p_s : ByteArray) : Option (Bool) :=
  cond (decide ((12 : Int) < (p_s.size : Int)))
    (some false)
    ((loopM (β := Unit ⊕ Bool) (fun s : Int => m_I_validText_b1 N p_s s) N (0 : Int)).bind fun o => match o with
    | .inl e =>
      m_I_validText_k1 N 
    | .inr v =>
      some v)
theorem w_I_validText (N : Nat) (p_s : ByteArray) (r : Bool) (hh0 : m_I_validText N p_s = some r) : FnX Tryd.prog 73 [] [sA p_s] (RE (bA r) []) := by
  unfold m_I_validText at hh0; refine FnX.mk Tryd.func73 rfl rfl ?_; intro s hs; refine PC.seq ?_; refine PC.region ?_; refine PL.op rfl (Rd.asnT rfl) ?_; refine PL.nil ?_; refine thA_n ?_; (iterate 2 refine PC.seq ?_); refine PC.region ?_; refine PL.op rfl (Rd.moveT rfl) ?_; refine PL.op rfl (Rd.lenSt rfl) ?_; refine PL.op rfl (Rd.gtr rfl rfl) ?_; refine PL.nil ?_; refine thA_n ?_; rcases cond_some hh0 with ⟨h_1, hh0⟩ | ⟨h_1, hh0⟩
  · refine PC.cond_true rfl h_1 ?_; refine PC.seq ?_; refine PC.region ?_; refine PL.op rfl (Rd.asnT rfl) ?_; refine PL.nil ?_; refine thA_n ?_; refine PC.ret ?_; refine thA_r ?_; obtain rfl := some_in hh0; exact FinA.mk (r := bA false) (bl := []) [] (.inl rfl) rfl (rl := [.tmp 2]) (.tmp .nil) rfl rfl rfl (.t _) trivial ⟨rfl, rfl⟩
  refine PC.cond_false rfl h_1 ?_; refine PC.skip ?_; refine thA_n ?_; (iterate 2 refine PC.seq ?_); refine PC.region ?_; refine PL.op rfl (Rd.asnT rfl) ?_; refine PL.nil ?_; refine thA_n ?_; obtain ⟨o12, h_13, hh0⟩ := bind_some hh0; refine PC.cutE hs (fun x : Unit => []) (fun x => []) (fun x => m_I_validText_k1 N  = some r) ?_ ?_
  · refine PC.block ?_; refine PC.loop hs (fun x : Nat × (Int) => [(0, sA p_s), (3, iA x.2)]) (fun x => []) (fun x => loopM (β := Unit ⊕ Bool) (fun s : Int => m_I_validText_b1 N p_s s) x.1 x.2 = some o12) (fun x => x.1) (N, (0 : Int)) [] ⟨rfl, rfl, trivial, ⟨.t _, .t _, trivial⟩⟩ h_13 ?_
    rintro ⟨f14_, i2⟩ h_16
    obtain ⟨f14, y15, rfl, hh1, kk1⟩ := loopM_some h_16
    replace hh1 : m_I_validText_b1 N p_s i2 = some y15 := hh1
    unfold m_I_validText_b1 at hh1; (iterate 2 refine PC.seq ?_); refine PC.region ?_; (iterate 2 refine PL.op rfl (Rd.moveT rfl) ?_); refine PL.op rfl (Rd.lenSt rfl) ?_; refine PL.op rfl (Rd.lss rfl rfl) ?_; refine PL.nil ?_; refine thA_n ?_; rcases cond_some hh1 with ⟨h_17, hh1⟩ | ⟨h_17, hh1⟩; rotate_left
    · refine PC.cond_false rfl h_17 ?_; refine PC.exit ?_; (iterate 2 refine thA_e ?_); refine inA_eq rfl ?_; refine thA_n ?_; obtain rfl := some_in hh1; obtain rfl : (.inl () : Unit ⊕ Bool) = o12 := kk1; exact ⟨(), hh0, [], ⟨rfl, rfl, trivial, trivial⟩⟩
    refine PC.cond_true rfl h_17 ?_; refine PC.skip ?_; refine thA_n ?_; refine PC.seq ?_; refine PC.block ?_; refine PC.seq ?_; obtain ⟨c18, h_19, hh1⟩ := bind_some hh1; rcases cond_some hh1 with ⟨h_20, hh1⟩ | ⟨h_20, hh1⟩
    · refine PC.region ?_; (iterate 2 refine PL.op rfl (Rd.moveT rfl) ?_); refine PL.op rfl (Rd.ixSM rfl rfl h_19) ?_; refine PL.op rfl (Rd.lssU rfl rfl) ?_; refine PL.op rfl (Rd.moveT rfl) ?_; (iterate 4 refine PL.guard_off rfl rfl h_20 ?_); refine PL.op rfl (Rd.pick_t rfl h_20) ?_; refine PL.nil ?_; refine thA_n ?_; refine PC.cond_true rfl rfl ?_; refine PC.seq ?_; refine PC.region ?_; refine PL.op rfl (Rd.asnT rfl) ?_; refine PL.nil ?_; refine thA_n ?_; refine PC.ret ?_; refine inA_r ?_; (iterate 2 refine thA_r ?_); refine inA_r ?_; refine thA_r ?_; obtain rfl := some_in hh1; obtain rfl : (.inr false : Unit ⊕ Bool) = o12 := kk1; refine thA_r ?_; obtain rfl := some_in hh0; exact FinA.mk (r := bA false) (bl := []) [] (.inl rfl) rfl (rl := [.tmp 2]) (.tmp .nil) rfl rfl rfl (.t _) trivial ⟨rfl, rfl⟩
    obtain ⟨c21, h_22, hh1⟩ := bind_some hh1; refine PC.region ?_; (iterate 2 refine PL.op rfl (Rd.moveT rfl) ?_); refine PL.op rfl (Rd.ixSM rfl rfl h_19) ?_; refine PL.op rfl (Rd.lssU rfl rfl) ?_; refine PL.op rfl (Rd.moveT rfl) ?_; refine PL.guard_on rfl h_20 ?_; refine PL.op rfl (Rd.moveT rfl) ?_; refine PL.guard_on rfl h_20 ?_; refine PL.op rfl (Rd.moveT rfl) ?_; refine PL.guard_on rfl h_20 ?_; refine PL.op rfl (Rd.ixSM rfl rfl h_22) ?_; refine PL.guard_on rfl h_20 ?_; refine PL.op rfl (Rd.gtrU rfl rfl) ?_; refine PL.op rfl (Rd.pick_f rfl h_20) ?_; refine PL.nil ?_; refine thA_n ?_; rcases cond_some hh1 with ⟨h_23, hh1⟩ | ⟨h_23, hh1⟩; rotate_left
    · refine PC.cond_false rfl h_23 ?_; refine PC.skip ?_; refine inA_n ?_; refine thA_n ?_; obtain ⟨n24, h_25, hh1⟩ := bind_some hh1; refine PC.region ?_; refine PL.op rfl (Rd.moveT rfl) ?_; refine PL.op rfl (Rd.addM rfl rfl h_25) ?_; refine PL.op rfl (Rd.asnT rfl) ?_; refine PL.nil ?_; obtain rfl := some_in hh1; refine thA_n ?_; exact ⟨(f14, n24), Nat.lt_succ_self _, kk1, [], ⟨rfl, rfl, trivial, ⟨.t _, .t _, trivial⟩⟩⟩
    refine PC.cond_true rfl h_23 ?_; refine PC.seq ?_; refine PC.region ?_; refine PL.op rfl (Rd.asnT rfl) ?_; refine PL.nil ?_; refine thA_n ?_; refine PC.ret ?_; refine inA_r ?_; (iterate 2 refine thA_r ?_); refine inA_r ?_; refine thA_r ?_; obtain rfl := some_in hh1; obtain rfl : (.inr false : Unit ⊕ Bool) = o12 := kk1; refine thA_r ?_; obtain rfl := some_in hh0; exact FinA.mk (r := bA false) (bl := []) [] (.inl rfl) rfl (rl := [.tmp 2]) (.tmp .nil) rfl rfl rfl (.t _) trivial ⟨rfl, rfl⟩
  clear hh0
  rintro ⟨⟩ hh0
  replace hh0 : m_I_validText_k1 N  = some r := hh0
  unfold m_I_validText_k1 at hh0; refine thA_n ?_; refine PC.seq ?_; refine PC.region ?_; refine PL.op rfl (Rd.asnT rfl) ?_; refine PL.nil ?_; refine thA_n ?_; refine PC.ret ?_; obtain rfl := some_in hh0; exact FinA.mk (r := bA true) (bl := []) [] (.inl rfl) rfl (rl := [.tmp 2]) (.tmp .nil) rfl rfl rfl (.t _) trivial ⟨rfl, rfl⟩
def m_I_ValidValue (N : Nat) (p_v : I_Value) : Option (Bool) :=
  cond (decide (p_v.kind = (0 : Int)))
    (cond (decide (p_v.num = (0 : Int)))
      (some (p_v.text.toList == ByteArray.empty.toList))
      (some false))
    (cond (decide (p_v.kind = (1 : Int)))
      (cond (decide ((-999999 : Int) ≤ p_v.num))
        (cond (decide (p_v.num ≤ (999999 : Int)))
          (some (p_v.text.toList == ByteArray.empty.toList))
          (some false))
        (some false))
      (cond (decide (p_v.kind = (2 : Int)))
        (cond (decide (p_v.num = (0 : Int)))
          ((m_I_validText N p_v.text).bind fun r8 =>
          some r8)
          (some false))
        (some false)))
theorem w_I_ValidValue (N : Nat) (p_v : I_Value) (r : Bool) (hh0 : m_I_ValidValue N p_v = some r) : FnX Tryd.prog 68 [] [.agg [iA p_v.kind, iA p_v.num, sA p_v.text]] (RE (bA r) []) := by
  unfold m_I_ValidValue at hh0; refine FnX.mk Tryd.func68 rfl rfl ?_; intro s hs; refine PC.seq ?_; refine PC.region ?_; refine PL.ef rfl (Ef.box rfl rfl rfl) ?_; refine PL.nm (.op 0 0) [some ⟨.mx [iA p_v.kind, iA p_v.num, sA p_v.text], 43, 0⟩] rfl rfl ?_; refine PL.op rfl (Rd.asnT rfl) ?_; refine PL.nil ?_; refine thA_n ?_; (iterate 2 refine PC.seq ?_); refine PC.region ?_; refine PL.op rfl (Rd.fieldO rfl rfl) ?_; refine PL.op rfl (Rd.loadO rfl rfl rfl) ?_; refine PL.nil ?_; refine thA_n ?_; refine PC.block ?_; refine PC.seq ?_; refine PC.region ?_; refine PL.op rfl (Rd.eql rfl rfl) ?_; refine PL.op rfl (Rd.asnT rfl) ?_; refine PL.nil ?_; refine thA_n ?_; rcases cond_some hh0 with ⟨h_1, hh0⟩ | ⟨h_1, hh0⟩
  · refine PC.cond_true rfl h_1 ?_; refine PC.seq ?_; rcases cond_some hh0 with ⟨h_2, hh0⟩ | ⟨h_2, hh0⟩; rotate_left
    · refine PC.region ?_; refine PL.op rfl (Rd.fieldO rfl rfl) ?_; refine PL.op rfl (Rd.loadO rfl rfl rfl) ?_; refine PL.op rfl (Rd.eql rfl rfl) ?_; refine PL.op rfl (Rd.moveT rfl) ?_; (iterate 3 refine PL.guard_off rfl rfl h_2 ?_); refine PL.op rfl (Rd.pick_f rfl h_2) ?_; refine PL.op rfl (Rd.asnT rfl) ?_; refine PL.nil ?_; refine thA_n ?_; refine PC.ret ?_; refine inA_r ?_; refine thA_r ?_; obtain rfl := some_in hh0; exact FinA.mk (r := bA false) (bl := []) [] (.inl rfl) rfl (rl := [.tmp 2]) (.tmp .nil) rfl rfl rfl (.t _) trivial ⟨rfl, rfl⟩
    refine PC.region ?_; refine PL.op rfl (Rd.fieldO rfl rfl) ?_; refine PL.op rfl (Rd.loadO rfl rfl rfl) ?_; refine PL.op rfl (Rd.eql rfl rfl) ?_; refine PL.op rfl (Rd.moveT rfl) ?_; refine PL.guard_on rfl h_2 ?_; refine PL.op rfl (Rd.fieldO rfl rfl) ?_; refine PL.guard_on rfl h_2 ?_; refine PL.op rfl (Rd.loadO rfl rfl rfl) ?_; refine PL.guard_on rfl h_2 ?_; refine PL.op rfl (Rd.eqlS rfl rfl) ?_; refine PL.op rfl (Rd.pick_t rfl h_2) ?_; refine PL.op rfl (Rd.asnT rfl) ?_; refine PL.nil ?_; refine thA_n ?_; refine PC.ret ?_; refine inA_r ?_; refine thA_r ?_; obtain rfl := some_in hh0; exact FinA.mk (r := bA (p_v.text.toList == ByteArray.empty.toList)) (bl := []) [] (.inl rfl) rfl (rl := [.tmp 2]) (.tmp .nil) rfl rfl rfl (.t _) trivial ⟨rfl, rfl⟩
  refine PC.cond_false rfl h_1 ?_; refine PC.seq ?_; refine PC.region ?_; refine PL.op rfl (Rd.eql rfl rfl) ?_; refine PL.op rfl (Rd.asnT rfl) ?_; refine PL.nil ?_; refine thA_n ?_; rcases cond_some hh0 with ⟨h_3, hh0⟩ | ⟨h_3, hh0⟩; rotate_left
  · refine PC.cond_false rfl h_3 ?_; refine PC.seq ?_; refine PC.region ?_; refine PL.op rfl (Rd.eql rfl rfl) ?_; refine PL.op rfl (Rd.asnT rfl) ?_; refine PL.nil ?_; refine thA_n ?_; rcases cond_some hh0 with ⟨h_6, hh0⟩ | ⟨h_6, hh0⟩; rotate_left
    · refine PC.cond_false rfl h_6 ?_; refine PC.skip ?_; refine inA_n ?_; refine thA_n ?_; refine PC.seq ?_; refine PC.region ?_; refine PL.op rfl (Rd.asnT rfl) ?_; refine PL.nil ?_; refine thA_n ?_; refine PC.ret ?_; obtain rfl := some_in hh0; exact FinA.mk (r := bA false) (bl := []) [] (.inl rfl) rfl (rl := [.tmp 2]) (.tmp .nil) rfl rfl rfl (.t _) trivial ⟨rfl, rfl⟩
    refine PC.cond_true rfl h_6 ?_; refine PC.seq ?_; rcases cond_some hh0 with ⟨h_7, hh0⟩ | ⟨h_7, hh0⟩; rotate_left
    · refine PC.region ?_; refine PL.op rfl (Rd.fieldO rfl rfl) ?_; refine PL.op rfl (Rd.loadO rfl rfl rfl) ?_; refine PL.op rfl (Rd.eql rfl rfl) ?_; refine PL.op rfl (Rd.moveT rfl) ?_; (iterate 3 refine PL.guard_off rfl rfl h_7 ?_); refine PL.op rfl (Rd.pick_f rfl h_7) ?_; refine PL.op rfl (Rd.asnT rfl) ?_; refine PL.nil ?_; refine thA_n ?_; refine PC.ret ?_; refine inA_r ?_; refine thA_r ?_; obtain rfl := some_in hh0; exact FinA.mk (r := bA false) (bl := []) [] (.inl rfl) rfl (rl := [.tmp 2]) (.tmp .nil) rfl rfl rfl (.t _) trivial ⟨rfl, rfl⟩
    obtain ⟨r8, h_9, hh0⟩ := bind_some hh0; refine PC.region ?_; refine PL.op rfl (Rd.fieldO rfl rfl) ?_; refine PL.op rfl (Rd.loadO rfl rfl rfl) ?_; refine PL.op rfl (Rd.eql rfl rfl) ?_; refine PL.op rfl (Rd.moveT rfl) ?_; refine PL.guard_on rfl h_7 ?_; refine PL.op rfl (Rd.fieldO rfl rfl) ?_; refine PL.guard_on rfl h_7 ?_; refine PL.op rfl (Rd.loadO rfl rfl rfl) ?_; refine PL.guard_on rfl h_7 ?_; refine PL.callM false [] (w_I_validText N p_v.text r8 h_9) rfl Tryd.call73 rfl ⟨.t _, trivial⟩ rfl trivial (fun h => by cases h) ?_; refine PL.op rfl (Rd.pick_t rfl h_7) ?_; refine PL.op rfl (Rd.asnT rfl) ?_; refine PL.nil ?_; refine thA_n ?_; refine PC.ret ?_; refine inA_r ?_; refine thA_r ?_; obtain rfl := some_in hh0; exact FinA.mk (r := bA r8) (bl := []) [] (.inl rfl) rfl (rl := [.tmp 2]) (.tmp .nil) rfl rfl rfl (.t _) trivial ⟨rfl, rfl⟩
  refine PC.cond_true rfl h_3 ?_; refine PC.seq ?_; rcases cond_some hh0 with ⟨h_4, hh0⟩ | ⟨h_4, hh0⟩; rotate_left
  · refine PC.region ?_; refine PL.op rfl (Rd.fieldO rfl rfl) ?_; refine PL.op rfl (Rd.loadO rfl rfl rfl) ?_; refine PL.op rfl (Rd.geq rfl rfl) ?_; refine PL.op rfl (Rd.moveT rfl) ?_; (iterate 3 refine PL.guard_off rfl rfl h_4 ?_); refine PL.op rfl (Rd.pick_f rfl h_4) ?_; refine PL.op rfl (Rd.moveT rfl) ?_; (iterate 3 refine PL.guard_off rfl rfl rfl ?_); refine PL.op rfl (Rd.pick_f rfl rfl) ?_; refine PL.op rfl (Rd.asnT rfl) ?_; refine PL.nil ?_; refine thA_n ?_; refine PC.ret ?_; refine inA_r ?_; refine thA_r ?_; obtain rfl := some_in hh0; exact FinA.mk (r := bA false) (bl := []) [] (.inl rfl) rfl (rl := [.tmp 2]) (.tmp .nil) rfl rfl rfl (.t _) trivial ⟨rfl, rfl⟩
  rcases cond_some hh0 with ⟨h_5, hh0⟩ | ⟨h_5, hh0⟩; rotate_left
  · refine PC.region ?_; refine PL.op rfl (Rd.fieldO rfl rfl) ?_; refine PL.op rfl (Rd.loadO rfl rfl rfl) ?_; refine PL.op rfl (Rd.geq rfl rfl) ?_; refine PL.op rfl (Rd.moveT rfl) ?_; refine PL.guard_on rfl h_4 ?_; refine PL.op rfl (Rd.fieldO rfl rfl) ?_; refine PL.guard_on rfl h_4 ?_; refine PL.op rfl (Rd.loadO rfl rfl rfl) ?_; refine PL.guard_on rfl h_4 ?_; refine PL.op rfl (Rd.leq rfl rfl) ?_; refine PL.op rfl (Rd.pick_t rfl h_4) ?_; refine PL.op rfl (Rd.moveT rfl) ?_; (iterate 3 refine PL.guard_off rfl rfl h_5 ?_); refine PL.op rfl (Rd.pick_f rfl h_5) ?_; refine PL.op rfl (Rd.asnT rfl) ?_; refine PL.nil ?_; refine thA_n ?_; refine PC.ret ?_; refine inA_r ?_; refine thA_r ?_; obtain rfl := some_in hh0; exact FinA.mk (r := bA false) (bl := []) [] (.inl rfl) rfl (rl := [.tmp 2]) (.tmp .nil) rfl rfl rfl (.t _) trivial ⟨rfl, rfl⟩
  refine PC.region ?_; refine PL.op rfl (Rd.fieldO rfl rfl) ?_; refine PL.op rfl (Rd.loadO rfl rfl rfl) ?_; refine PL.op rfl (Rd.geq rfl rfl) ?_; refine PL.op rfl (Rd.moveT rfl) ?_; refine PL.guard_on rfl h_4 ?_; refine PL.op rfl (Rd.fieldO rfl rfl) ?_; refine PL.guard_on rfl h_4 ?_; refine PL.op rfl (Rd.loadO rfl rfl rfl) ?_; refine PL.guard_on rfl h_4 ?_; refine PL.op rfl (Rd.leq rfl rfl) ?_; refine PL.op rfl (Rd.pick_t rfl h_4) ?_; refine PL.op rfl (Rd.moveT rfl) ?_; refine PL.guard_on rfl h_5 ?_; refine PL.op rfl (Rd.fieldO rfl rfl) ?_; refine PL.guard_on rfl h_5 ?_; refine PL.op rfl (Rd.loadO rfl rfl rfl) ?_; refine PL.guard_on rfl h_5 ?_; refine PL.op rfl (Rd.eqlS rfl rfl) ?_; refine PL.op rfl (Rd.pick_t rfl h_5) ?_; refine PL.op rfl (Rd.asnT rfl) ?_; refine PL.nil ?_; refine thA_n ?_; refine PC.ret ?_; refine inA_r ?_; refine thA_r ?_; obtain rfl := some_in hh0; exact FinA.mk (r := bA (p_v.text.toList == ByteArray.empty.toList)) (bl := []) [] (.inl rfl) rfl (rl := [.tmp 2]) (.tmp .nil) rfl rfl rfl (.t _) trivial ⟨rfl, rfl⟩
def m_I_Column_valid (N : Nat) (p_c : I_Column) : Option (Bool) :=
  cond (decide (p_c.kind = (1 : Int)))
    ((m_I_ValidValue N p_c.default).bind fun r2 =>
    cond r2
      (cond (decide (p_c.default.kind = p_c.kind))
        (some true)
        (some (decide (p_c.default.kind = (0 : Int)))))
      (some false))
    (cond (decide (p_c.kind = (2 : Int)))
      ((m_I_ValidValue N p_c.default).bind fun r7 =>
      cond r7
        (cond (decide (p_c.default.kind = p_c.kind))
          (some true)
          (some (decide (p_c.default.kind = (0 : Int)))))
        (some false))
      (some false))
theorem w_I_Column_valid (N : Nat) (p_c : I_Column) (r : Bool) (hh0 : m_I_Column_valid N p_c = some r) : FnX Tryd.prog 58 [] [.agg [iA p_c.kind, iA p_c.default.kind, iA p_c.default.num, sA p_c.default.text]] (RE (bA r) []) := by
  unfold m_I_Column_valid at hh0; refine FnX.mk Tryd.func58 rfl rfl ?_; intro s hs; refine PC.seq ?_; refine PC.region ?_; refine PL.ef rfl (Ef.box rfl rfl rfl) ?_; refine PL.nm (.op 0 0) [some ⟨.mx [iA p_c.kind, iA p_c.default.kind, iA p_c.default.num, sA p_c.default.text], 45, 0⟩] rfl rfl ?_; refine PL.op rfl (Rd.asnT rfl) ?_; refine PL.nil ?_; refine thA_n ?_; (iterate 2 refine PC.seq ?_); rcases cond_some hh0 with ⟨h_1, hh0⟩ | ⟨h_1, hh0⟩
  · refine PC.region ?_; refine PL.op rfl (Rd.fieldO rfl rfl) ?_; refine PL.op rfl (Rd.loadO rfl rfl rfl) ?_; refine PL.op rfl (Rd.neq rfl rfl) ?_; refine PL.op rfl (Rd.moveT rfl) ?_; (iterate 3 refine PL.guard_off rfl rfl (not_t h_1) ?_); refine PL.op rfl (Rd.pick_f rfl (not_t h_1)) ?_; refine PL.nil ?_; refine thA_n ?_; refine PC.cond_false rfl rfl ?_; refine PC.skip ?_; refine thA_n ?_; refine PC.seq ?_; obtain ⟨r2, h_3, hh0⟩ := bind_some hh0; rcases cond_some hh0 with ⟨h_4, hh0⟩ | ⟨h_4, hh0⟩; rotate_left
    · refine PC.region ?_; refine PL.op rfl (Rd.fieldO rfl rfl) ?_; refine PL.op rfl (Rd.loadSub rfl rfl rfl rfl) ?_; refine PL.callM false [] (w_I_ValidValue N p_c.default r2 h_3) rfl Tryd.call68 rfl ⟨.aggL ⟨.t _, .t _, .t _, trivial⟩, trivial⟩ rfl trivial (fun h => by cases h) ?_; refine PL.op rfl (Rd.moveT rfl) ?_; (iterate 7 refine PL.guard_off rfl rfl h_4 ?_); (iterate 4 refine PL.guard_un rfl rfl ?_); refine PL.guard_off rfl rfl h_4 ?_; refine PL.op rfl (Rd.pick_f rfl h_4) ?_; refine PL.op rfl (Rd.asnT rfl) ?_; refine PL.nil ?_; refine thA_n ?_; refine PC.ret ?_; obtain rfl := some_in hh0; exact FinA.mk (r := bA false) (bl := []) [] (.inl rfl) rfl (rl := [.tmp 2]) (.tmp .nil) rfl rfl rfl (.t _) trivial ⟨rfl, rfl⟩
    rcases cond_some hh0 with ⟨h_5, hh0⟩ | ⟨h_5, hh0⟩
    · refine PC.region ?_; refine PL.op rfl (Rd.fieldO rfl rfl) ?_; refine PL.op rfl (Rd.loadSub rfl rfl rfl rfl) ?_; refine PL.callM false [] (w_I_ValidValue N p_c.default r2 h_3) rfl Tryd.call68 rfl ⟨.aggL ⟨.t _, .t _, .t _, trivial⟩, trivial⟩ rfl trivial (fun h => by cases h) ?_; refine PL.op rfl (Rd.moveT rfl) ?_; refine PL.guard_on rfl h_4 ?_; refine PL.op rfl (Rd.fieldO rfl rfl) ?_; refine PL.guard_on rfl h_4 ?_; refine PL.op rfl (Rd.fieldO rfl rfl) ?_; refine PL.guard_on rfl h_4 ?_; refine PL.op rfl (Rd.loadO rfl rfl rfl) ?_; refine PL.guard_on rfl h_4 ?_; refine PL.op rfl (Rd.fieldO rfl rfl) ?_; refine PL.guard_on rfl h_4 ?_; refine PL.op rfl (Rd.loadO rfl rfl rfl) ?_; refine PL.guard_on rfl h_4 ?_; refine PL.op rfl (Rd.eql rfl rfl) ?_; refine PL.guard_on rfl h_4 ?_; refine PL.op rfl (Rd.moveT rfl) ?_; (iterate 4 refine PL.guard_off rfl rfl h_5 ?_); refine PL.guard_on rfl h_4 ?_; refine PL.op rfl (Rd.pick_t rfl h_5) ?_; refine PL.op rfl (Rd.pick_t rfl h_4) ?_; refine PL.op rfl (Rd.asnT rfl) ?_; refine PL.nil ?_; refine thA_n ?_; refine PC.ret ?_; obtain rfl := some_in hh0; exact FinA.mk (r := bA true) (bl := []) [] (.inl rfl) rfl (rl := [.tmp 2]) (.tmp .nil) rfl rfl rfl (.t _) trivial ⟨rfl, rfl⟩
    refine PC.region ?_; refine PL.op rfl (Rd.fieldO rfl rfl) ?_; refine PL.op rfl (Rd.loadSub rfl rfl rfl rfl) ?_; refine PL.callM false [] (w_I_ValidValue N p_c.default r2 h_3) rfl Tryd.call68 rfl ⟨.aggL ⟨.t _, .t _, .t _, trivial⟩, trivial⟩ rfl trivial (fun h => by cases h) ?_; refine PL.op rfl (Rd.moveT rfl) ?_; refine PL.guard_on rfl h_4 ?_; refine PL.op rfl (Rd.fieldO rfl rfl) ?_; refine PL.guard_on rfl h_4 ?_; refine PL.op rfl (Rd.fieldO rfl rfl) ?_; refine PL.guard_on rfl h_4 ?_; refine PL.op rfl (Rd.loadO rfl rfl rfl) ?_; refine PL.guard_on rfl h_4 ?_; refine PL.op rfl (Rd.fieldO rfl rfl) ?_; refine PL.guard_on rfl h_4 ?_; refine PL.op rfl (Rd.loadO rfl rfl rfl) ?_; refine PL.guard_on rfl h_4 ?_; refine PL.op rfl (Rd.eql rfl rfl) ?_; refine PL.guard_on rfl h_4 ?_; refine PL.op rfl (Rd.moveT rfl) ?_; refine PL.guard_on rfl h_5 ?_; refine PL.op rfl (Rd.fieldO rfl rfl) ?_; refine PL.guard_on rfl h_5 ?_; refine PL.op rfl (Rd.fieldO rfl rfl) ?_; refine PL.guard_on rfl h_5 ?_; refine PL.op rfl (Rd.loadO rfl rfl rfl) ?_; refine PL.guard_on rfl h_5 ?_; refine PL.op rfl (Rd.eql rfl rfl) ?_; refine PL.guard_on rfl h_4 ?_; refine PL.op rfl (Rd.pick_f rfl h_5) ?_; refine PL.op rfl (Rd.pick_t rfl h_4) ?_; refine PL.op rfl (Rd.asnT rfl) ?_; refine PL.nil ?_; refine thA_n ?_; refine PC.ret ?_; obtain rfl := some_in hh0; exact FinA.mk (r := bA (decide (p_c.default.kind = (0 : Int)))) (bl := []) [] (.inl rfl) rfl (rl := [.tmp 2]) (.tmp .nil) rfl rfl rfl (.t _) trivial ⟨rfl, rfl⟩
  refine PC.region ?_; refine PL.op rfl (Rd.fieldO rfl rfl) ?_; refine PL.op rfl (Rd.loadO rfl rfl rfl) ?_; refine PL.op rfl (Rd.neq rfl rfl) ?_; refine PL.op rfl (Rd.moveT rfl) ?_; refine PL.guard_on rfl (not_f h_1) ?_; refine PL.op rfl (Rd.fieldO rfl rfl) ?_; refine PL.guard_on rfl (not_f h_1) ?_; refine PL.op rfl (Rd.loadO rfl rfl rfl) ?_; refine PL.guard_on rfl (not_f h_1) ?_; refine PL.op rfl (Rd.neq rfl rfl) ?_; refine PL.op rfl (Rd.pick_t rfl (not_f h_1)) ?_; refine PL.nil ?_; refine thA_n ?_; rcases cond_some hh0 with ⟨h_6, hh0⟩ | ⟨h_6, hh0⟩; rotate_left
  · refine PC.cond_true rfl (not_f h_6) ?_; refine PC.seq ?_; refine PC.region ?_; refine PL.op rfl (Rd.asnT rfl) ?_; refine PL.nil ?_; refine thA_n ?_; refine PC.ret ?_; refine thA_r ?_; obtain rfl := some_in hh0; exact FinA.mk (r := bA false) (bl := []) [] (.inl rfl) rfl (rl := [.tmp 2]) (.tmp .nil) rfl rfl rfl (.t _) trivial ⟨rfl, rfl⟩
  refine PC.cond_false rfl (not_t h_6) ?_; refine PC.skip ?_; refine thA_n ?_; refine PC.seq ?_; obtain ⟨r7, h_8, hh0⟩ := bind_some hh0; rcases cond_some hh0 with ⟨h_9, hh0⟩ | ⟨h_9, hh0⟩; rotate_left
  · refine PC.region ?_; refine PL.op rfl (Rd.fieldO rfl rfl) ?_; refine PL.op rfl (Rd.loadSub rfl rfl rfl rfl) ?_; refine PL.callM false [] (w_I_ValidValue N p_c.default r7 h_8) rfl Tryd.call68 rfl ⟨.aggL ⟨.t _, .t _, .t _, trivial⟩, trivial⟩ rfl trivial (fun h => by cases h) ?_; refine PL.op rfl (Rd.moveT rfl) ?_; (iterate 7 refine PL.guard_off rfl rfl h_9 ?_); (iterate 4 refine PL.guard_un rfl rfl ?_); refine PL.guard_off rfl rfl h_9 ?_; refine PL.op rfl (Rd.pick_f rfl h_9) ?_; refine PL.op rfl (Rd.asnT rfl) ?_; refine PL.nil ?_; refine thA_n ?_; refine PC.ret ?_; obtain rfl := some_in hh0; exact FinA.mk (r := bA false) (bl := []) [] (.inl rfl) rfl (rl := [.tmp 2]) (.tmp .nil) rfl rfl rfl (.t _) trivial ⟨rfl, rfl⟩
  rcases cond_some hh0 with ⟨h_10, hh0⟩ | ⟨h_10, hh0⟩
  · refine PC.region ?_; refine PL.op rfl (Rd.fieldO rfl rfl) ?_; refine PL.op rfl (Rd.loadSub rfl rfl rfl rfl) ?_; refine PL.callM false [] (w_I_ValidValue N p_c.default r7 h_8) rfl Tryd.call68 rfl ⟨.aggL ⟨.t _, .t _, .t _, trivial⟩, trivial⟩ rfl trivial (fun h => by cases h) ?_; refine PL.op rfl (Rd.moveT rfl) ?_; refine PL.guard_on rfl h_9 ?_; refine PL.op rfl (Rd.fieldO rfl rfl) ?_; refine PL.guard_on rfl h_9 ?_; refine PL.op rfl (Rd.fieldO rfl rfl) ?_; refine PL.guard_on rfl h_9 ?_; refine PL.op rfl (Rd.loadO rfl rfl rfl) ?_; refine PL.guard_on rfl h_9 ?_; refine PL.op rfl (Rd.fieldO rfl rfl) ?_; refine PL.guard_on rfl h_9 ?_; refine PL.op rfl (Rd.loadO rfl rfl rfl) ?_; refine PL.guard_on rfl h_9 ?_; refine PL.op rfl (Rd.eql rfl rfl) ?_; refine PL.guard_on rfl h_9 ?_; refine PL.op rfl (Rd.moveT rfl) ?_; (iterate 4 refine PL.guard_off rfl rfl h_10 ?_); refine PL.guard_on rfl h_9 ?_; refine PL.op rfl (Rd.pick_t rfl h_10) ?_; refine PL.op rfl (Rd.pick_t rfl h_9) ?_; refine PL.op rfl (Rd.asnT rfl) ?_; refine PL.nil ?_; refine thA_n ?_; refine PC.ret ?_; obtain rfl := some_in hh0; exact FinA.mk (r := bA true) (bl := []) [] (.inl rfl) rfl (rl := [.tmp 2]) (.tmp .nil) rfl rfl rfl (.t _) trivial ⟨rfl, rfl⟩
  refine PC.region ?_; refine PL.op rfl (Rd.fieldO rfl rfl) ?_; refine PL.op rfl (Rd.loadSub rfl rfl rfl rfl) ?_; refine PL.callM false [] (w_I_ValidValue N p_c.default r7 h_8) rfl Tryd.call68 rfl ⟨.aggL ⟨.t _, .t _, .t _, trivial⟩, trivial⟩ rfl trivial (fun h => by cases h) ?_; refine PL.op rfl (Rd.moveT rfl) ?_; refine PL.guard_on rfl h_9 ?_; refine PL.op rfl (Rd.fieldO rfl rfl) ?_; refine PL.guard_on rfl h_9 ?_; refine PL.op rfl (Rd.fieldO rfl rfl) ?_; refine PL.guard_on rfl h_9 ?_; refine PL.op rfl (Rd.loadO rfl rfl rfl) ?_; refine PL.guard_on rfl h_9 ?_; refine PL.op rfl (Rd.fieldO rfl rfl) ?_; refine PL.guard_on rfl h_9 ?_; refine PL.op rfl (Rd.loadO rfl rfl rfl) ?_; refine PL.guard_on rfl h_9 ?_; refine PL.op rfl (Rd.eql rfl rfl) ?_; refine PL.guard_on rfl h_9 ?_; refine PL.op rfl (Rd.moveT rfl) ?_; refine PL.guard_on rfl h_10 ?_; refine PL.op rfl (Rd.fieldO rfl rfl) ?_; refine PL.guard_on rfl h_10 ?_; refine PL.op rfl (Rd.fieldO rfl rfl) ?_; refine PL.guard_on rfl h_10 ?_; refine PL.op rfl (Rd.loadO rfl rfl rfl) ?_; refine PL.guard_on rfl h_10 ?_; refine PL.op rfl (Rd.eql rfl rfl) ?_; refine PL.guard_on rfl h_9 ?_; refine PL.op rfl (Rd.pick_f rfl h_10) ?_; refine PL.op rfl (Rd.pick_t rfl h_9) ?_; refine PL.op rfl (Rd.asnT rfl) ?_; refine PL.nil ?_; refine thA_n ?_; refine PC.ret ?_; obtain rfl := some_in hh0; exact FinA.mk (r := bA (decide (p_c.default.kind = (0 : Int)))) (bl := []) [] (.inl rfl) rfl (rl := [.tmp 2]) (.tmp .nil) rfl rfl rfl (.t _) trivial ⟨rfl, rfl⟩
def m_I_ValidFormat_k1 (N : Nat) : Option (Bool) :=
  some true
def m_I_ValidFormat_b1 (N : Nat) (p_f : (List I_Column)) (i3 : Int) : Option (Int ⊕ (Unit ⊕ Bool)) :=
  cond (decide (i3 < (p_f.length : Int)))
    ((ixI p_f i3).bind fun x18 =>
    (m_I_Column_valid N x18).bind fun r20 =>
    cond r20
      ((chk (i3 + (1 : Int))).bind fun n23 =>
      some (.inl n23))
      (some (.inr (.inr false))))
    (some (.inr (.inl ())))
def m_I_ValidFormat (N : Nat) (p_f : (List I_Column)) : Option (Bool) :=
  cond (decide ((p_f.length : Int) < (1 : Int)))
    (some false)
    (cond (decide ((5 : Int) < (p_f.length : Int)))
      (some false)
      ((loopM (β := Unit ⊕ Bool) (fun s : Int => m_I_ValidFormat_b1 N p_f s) N (0 : Int)).bind fun o => match o with
      | .inl e =>
        m_I_ValidFormat_k1 N 
      | .inr v =>
        some v))
theorem w_I_ValidFormat (N : Nat) (p_f : (List I_Column)) (r : Bool) (hh0 : m_I_ValidFormat N p_f = some r) : FnX Tryd.prog 67 [] [sL p_f] (RE (bA r) []) := by
  unfold m_I_ValidFormat at hh0; refine FnX.mk Tryd.func67 rfl rfl ?_; intro s hs; refine PC.seq ?_; refine PC.region ?_; refine PL.op rfl (Rd.asnT rfl) ?_; refine PL.nil ?_; refine thA_n ?_; (iterate 2 refine PC.seq ?_); rcases cond_some hh0 with ⟨h_1, hh0⟩ | ⟨h_1, hh0⟩
  · refine PC.region ?_; refine PL.op rfl (Rd.moveT rfl) ?_; refine PL.op rfl (Rd.lenT rfl) ?_; refine PL.op rfl (Rd.lss rfl rfl) ?_; refine PL.op rfl (Rd.moveT rfl) ?_; (iterate 3 refine PL.guard_off rfl rfl h_1 ?_); refine PL.op rfl (Rd.pick_t rfl h_1) ?_; refine PL.nil ?_; refine thA_n ?_; refine PC.cond_true rfl rfl ?_; refine PC.seq ?_; refine PC.region ?_; refine PL.op rfl (Rd.asnT rfl) ?_; refine PL.nil ?_; refine thA_n ?_; refine PC.ret ?_; refine thA_r ?_; obtain rfl := some_in hh0; exact FinA.mk (r := bA false) (bl := []) [] (.inl rfl) rfl (rl := [.tmp 2]) (.tmp .nil) rfl rfl rfl (.t _) trivial ⟨rfl, rfl⟩
  refine PC.region ?_; refine PL.op rfl (Rd.moveT rfl) ?_; refine PL.op rfl (Rd.lenT rfl) ?_; refine PL.op rfl (Rd.lss rfl rfl) ?_; refine PL.op rfl (Rd.moveT rfl) ?_; refine PL.guard_on rfl h_1 ?_; refine PL.op rfl (Rd.moveT rfl) ?_; refine PL.guard_on rfl h_1 ?_; refine PL.op rfl (Rd.lenT rfl) ?_; refine PL.guard_on rfl h_1 ?_; refine PL.op rfl (Rd.gtr rfl rfl) ?_; refine PL.op rfl (Rd.pick_f rfl h_1) ?_; refine PL.nil ?_; refine thA_n ?_; rcases cond_some hh0 with ⟨h_2, hh0⟩ | ⟨h_2, hh0⟩
  · refine PC.cond_true rfl h_2 ?_; refine PC.seq ?_; refine PC.region ?_; refine PL.op rfl (Rd.asnT rfl) ?_; refine PL.nil ?_; refine thA_n ?_; refine PC.ret ?_; refine thA_r ?_; obtain rfl := some_in hh0; exact FinA.mk (r := bA false) (bl := []) [] (.inl rfl) rfl (rl := [.tmp 2]) (.tmp .nil) rfl rfl rfl (.t _) trivial ⟨rfl, rfl⟩
  refine PC.cond_false rfl h_2 ?_; refine PC.skip ?_; refine thA_n ?_; (iterate 2 refine PC.seq ?_); refine PC.region ?_; refine PL.op rfl (Rd.moveT rfl) ?_; refine PL.op rfl (Rd.lenT rfl) ?_; refine PL.op rfl (Rd.moveT rfl) ?_; refine PL.nil ?_; refine thA_n ?_; obtain ⟨o12, h_13, hh0⟩ := bind_some hh0; refine PC.cutE hs (fun x : Unit => []) (fun x => []) (fun x => m_I_ValidFormat_k1 N  = some r) ?_ ?_
  · refine PC.block ?_; refine PC.loop hs (fun x : Nat × (Int) => [(13, sL p_f), (14, iA (p_f.length : Int)), (15, iA x.2)]) (fun x => []) (fun x => loopM (β := Unit ⊕ Bool) (fun s : Int => m_I_ValidFormat_b1 N p_f s) x.1 x.2 = some o12) (fun x => x.1) (N, (0 : Int)) [] ⟨rfl, rfl, trivial, ⟨.t _, .t _, .t _, trivial⟩⟩ h_13 ?_
    rintro ⟨f14_, i3⟩ h_16
    obtain ⟨f14, y15, rfl, hh1, kk1⟩ := loopM_some h_16
    replace hh1 : m_I_ValidFormat_b1 N p_f i3 = some y15 := hh1
    unfold m_I_ValidFormat_b1 at hh1; refine PC.seq ?_; refine PC.region ?_; refine PL.op rfl (Rd.lss rfl rfl) ?_; refine PL.nil ?_; refine thA_n ?_; refine PC.seq ?_; rcases cond_some hh1 with ⟨h_17, hh1⟩ | ⟨h_17, hh1⟩; rotate_left
    · refine PC.cond_false rfl h_17 ?_; refine PC.exit ?_; (iterate 2 refine thA_e ?_); refine inA_eq rfl ?_; refine thA_n ?_; obtain rfl := some_in hh1; obtain rfl : (.inl () : Unit ⊕ Bool) = o12 := kk1; exact ⟨(), hh0, [], ⟨rfl, rfl, trivial, trivial⟩⟩
    refine PC.cond_true rfl h_17 ?_; refine PC.skip ?_; refine thA_n ?_; refine PC.seq ?_; refine PC.block ?_; refine PC.seq ?_; obtain ⟨x18, h_19, hh1⟩ := bind_some hh1; refine PC.region ?_; refine PL.op rfl (Rd.ixM rfl rfl h_19) ?_; refine PL.op rfl (Rd.elMR rfl h_19 rfl rfl) ?_; refine PL.ef rfl (Ef.alloc rfl rfl) ?_; refine PL.nm (.op 0 0) [some ⟨.mx [iA (0 : Int), iA (0 : Int), iA (0 : Int), sA ByteArray.empty], 45, 0⟩] rfl rfl ?_; refine PL.store rfl rfl rfl rfl rfl rfl rfl ?_; refine PL.nO [some ⟨.mx [iA x18.kind, iA x18.default.kind, iA x18.default.num, sA x18.default.text], 45, 0⟩] rfl ?_; refine PL.nil ?_; refine thA_n ?_; refine PC.seq ?_; obtain ⟨r20, h_21, hh1⟩ := bind_some hh1; refine PC.region ?_; refine PL.op rfl (Rd.loadBox rfl rfl rfl) ?_; refine PL.callM false [] (w_I_Column_valid N x18 r20 h_21) rfl Tryd.call58 rfl ⟨.aggL ⟨.t _, .t _, .t _, .t _, trivial⟩, trivial⟩ rfl trivial (fun h => by cases h) ?_; refine PL.op rfl (Rd.unnot rfl) ?_; refine PL.nil ?_; refine thA_n ?_; rcases cond_some hh1 with ⟨h_22, hh1⟩ | ⟨h_22, hh1⟩
    · refine PC.cond_false rfl (not_t h_22) ?_; refine PC.skip ?_; refine inA_n ?_; refine thA_n ?_; obtain ⟨n23, h_24, hh1⟩ := bind_some hh1; refine PC.region ?_; refine PL.op rfl (Rd.addM rfl rfl h_24) ?_; refine PL.op rfl (Rd.moveT rfl) ?_; refine PL.nil ?_; obtain rfl := some_in hh1; refine thA_n ?_; exact ⟨(f14, n23), Nat.lt_succ_self _, kk1, [], ⟨rfl, rfl, trivial, ⟨.t _, .t _, .t _, trivial⟩⟩⟩
    refine PC.cond_true rfl (not_f h_22) ?_; refine PC.seq ?_; refine PC.region ?_; refine PL.op rfl (Rd.asnT rfl) ?_; refine PL.nil ?_; refine thA_n ?_; refine PC.ret ?_; refine inA_r ?_; (iterate 2 refine thA_r ?_); refine inA_r ?_; refine thA_r ?_; obtain rfl := some_in hh1; obtain rfl : (.inr false : Unit ⊕ Bool) = o12 := kk1; refine thA_r ?_; obtain rfl := some_in hh0; exact FinA.mk (r := bA false) (bl := []) [] (.inl rfl) rfl (rl := [.tmp 2]) (.tmp .nil) rfl rfl rfl (.t _) trivial ⟨rfl, rfl⟩
  clear hh0
  rintro ⟨⟩ hh0
  replace hh0 : m_I_ValidFormat_k1 N  = some r := hh0
  unfold m_I_ValidFormat_k1 at hh0; refine thA_n ?_; refine PC.seq ?_; refine PC.region ?_; refine PL.op rfl (Rd.asnT rfl) ?_; refine PL.nil ?_; refine thA_n ?_; refine PC.ret ?_; obtain rfl := some_in hh0; exact FinA.mk (r := bA true) (bl := []) [] (.inl rfl) rfl (rl := [.tmp 2]) (.tmp .nil) rfl rfl rfl (.t _) trivial ⟨rfl, rfl⟩
end V
end Go.Proofs.YtikobdnhflcnmaaDoor
namespace Go.Proofs.YtikobdnhflcnmaaDoor
namespace V
open Enc (enc)
set_option linter.unusedVariables false
set_option linter.unusedSimpArgs false
set_option maxHeartbeats 4000000
set_option maxRecDepth 100000
open Go.RowKit
attribute [local irreducible] thA inA FinA eL
def m_L_markText_k1 (N : Nat) (i13 : ByteArray) : Option (ByteArray) :=
  (addS (ByteArray.mk #[109]) i13).bind fun s19 =>
  some s19
def m_L_markText_b1 (N : Nat) (k2 : Int) (i3 : ByteArray) : Option ((Int × ByteArray) ⊕ ByteArray) :=
  cond (decide ((0 : Int) < k2))
    ((remM k2 (10 : Int)).bind fun n22 =>
    (chk ((48 : Int) + n22)).bind fun n24 =>
    (addS (b2s [(i2b n24)]) i3).bind fun s26 =>
    (quoM k2 (10 : Int)).bind fun n28 =>
    some (.inl (n28, s26)))
    (some (.inr i3))
def m_L_markText (N : Nat) (p_k : Int) : Option (ByteArray) :=
  cond (decide (p_k ≤ (0 : Int)))
    (some (ByteArray.mk #[109, 48]))
    ((loopM (β := ByteArray) (fun s : Int × ByteArray => m_L_markText_b1 N s.1 s.2) N (p_k, ByteArray.empty)).bind fun e =>
    m_L_markText_k1 N e)
theorem w_L_markText (N : Nat) (p_k : Int) (r : ByteArray) (hh0 : m_L_markText N p_k = some r) : FnX Tryd.prog 51 [] [iA p_k] (RE (sA r) []) := by
  unfold m_L_markText at hh0; refine FnX.mk Tryd.func51 rfl rfl ?_; intro s hs; refine PC.seq ?_; refine PC.region ?_; refine PL.op rfl (Rd.asnT rfl) ?_; refine PL.nil ?_; refine thA_n ?_; (iterate 2 refine PC.seq ?_); refine PC.region ?_; refine PL.op rfl (Rd.moveT rfl) ?_; refine PL.op rfl (Rd.leq rfl rfl) ?_; refine PL.nil ?_; refine thA_n ?_; rcases cond_some hh0 with ⟨h_1, hh0⟩ | ⟨h_1, hh0⟩
  · refine PC.cond_true rfl h_1 ?_; refine PC.seq ?_; refine PC.region ?_; refine PL.op rfl (Rd.asnT rfl) ?_; refine PL.nil ?_; refine thA_n ?_; refine PC.ret ?_; refine thA_r ?_; obtain rfl := some_in hh0; exact FinA.mk (r := sA (ByteArray.mk #[109, 48])) (bl := []) [] (.inl rfl) rfl (rl := [.tmp 2]) (.tmp .nil) rfl rfl rfl (.t _) trivial ⟨rfl, rfl⟩
  refine PC.cond_false rfl h_1 ?_; refine PC.skip ?_; refine thA_n ?_; refine PC.seq ?_; refine PC.region ?_; refine PL.op rfl (Rd.asnT rfl) ?_; refine PL.nil ?_; refine thA_n ?_; obtain ⟨o14, h_15, hh0⟩ := bind_some hh0; refine PC.cut hs (fun x : ByteArray => [(3, sA x)]) (fun x => []) (fun x => m_L_markText_k1 N x = some r) ?_ ?_
  · refine PC.block ?_; refine PC.loop hs (fun x : Nat × (Int × ByteArray) => [(0, iA x.2.1), (3, sA x.2.2)]) (fun x => []) (fun x => loopM (β := ByteArray) (fun s : Int × ByteArray => m_L_markText_b1 N s.1 s.2) x.1 x.2 = some o14) (fun x => x.1) (N, (p_k, ByteArray.empty)) [] ⟨rfl, rfl, trivial, ⟨.t _, .t _, trivial⟩⟩ h_15 ?_
    rintro ⟨f16_, k2, i3⟩ h_18
    obtain ⟨f16, y17, rfl, hh1, kk1⟩ := loopM_some h_18
    replace hh1 : m_L_markText_b1 N k2 i3 = some y17 := hh1
    unfold m_L_markText_b1 at hh1; (iterate 2 refine PC.seq ?_); refine PC.region ?_; refine PL.op rfl (Rd.moveT rfl) ?_; refine PL.op rfl (Rd.gtr rfl rfl) ?_; refine PL.nil ?_; refine thA_n ?_; rcases cond_some hh1 with ⟨h_21, hh1⟩ | ⟨h_21, hh1⟩; rotate_left
    · refine PC.cond_false rfl h_21 ?_; refine PC.exit ?_; (iterate 2 refine thA_e ?_); refine inA_eq rfl ?_; refine thA_n ?_; obtain rfl := some_in hh1; obtain rfl : (i3 : ByteArray) = o14 := kk1; exact ⟨i3, hh0, [], ⟨rfl, rfl, trivial, ⟨.t _, trivial⟩⟩⟩
    refine PC.cond_true rfl h_21 ?_; refine PC.skip ?_; refine thA_n ?_; refine PC.block ?_; refine PC.seq ?_; obtain ⟨n22, h_23, hh1⟩ := bind_some hh1; obtain ⟨n24, h_25, hh1⟩ := bind_some hh1; obtain ⟨s26, h_27, hh1⟩ := bind_some hh1; refine PC.region ?_; refine PL.op rfl (Rd.moveT rfl) ?_; refine PL.op rfl (Rd.remM rfl rfl h_23) ?_; refine PL.op rfl (Rd.addM rfl rfl h_25) ?_; refine PL.op rfl (Rd.toU8 rfl) ?_; refine PL.ef rfl (Ef.litM (α := UInt8) [(i2b n24)] [_] rfl rfl (by decide) rfl rfl rfl rfl) ?_; refine PL.nm (.os 0 0 1) [some ⟨.tr (eL [(i2b n24)]), 5, 1⟩] rfl rfl ?_; refine PL.op rfl (Rd.b2sO rfl rfl rfl) ?_; refine PL.op rfl (Rd.moveT rfl) ?_; refine PL.op rfl (Rd.addSM rfl rfl h_27) ?_; refine PL.op rfl (Rd.asnT rfl) ?_; refine PL.nil ?_; refine thA_n ?_; obtain ⟨n28, h_29, hh1⟩ := bind_some hh1; refine PC.region ?_; refine PL.op rfl (Rd.moveT rfl) ?_; refine PL.op rfl (Rd.quoM rfl rfl h_29) ?_; refine PL.op rfl (Rd.asnT rfl) ?_; refine PL.nil ?_; refine inA_n ?_; obtain rfl := some_in hh1; refine thA_n ?_; exact ⟨(f16, (n28, s26)), Nat.lt_succ_self _, kk1, [], ⟨rfl, rfl, trivial, ⟨.t _, .t _, trivial⟩⟩⟩
  clear hh0
  rintro i13 hh0
  replace hh0 : m_L_markText_k1 N i13 = some r := hh0
  unfold m_L_markText_k1 at hh0; refine PC.seq ?_; obtain ⟨s19, h_20, hh0⟩ := bind_some hh0; refine PC.region ?_; refine PL.op rfl (Rd.moveT rfl) ?_; refine PL.op rfl (Rd.addSM rfl rfl h_20) ?_; refine PL.op rfl (Rd.asnT rfl) ?_; refine PL.nil ?_; refine thA_n ?_; refine PC.ret ?_; obtain rfl := some_in hh0; exact FinA.mk (r := sA s19) (bl := []) [] (.inl rfl) rfl (rl := [.tmp 2]) (.tmp .nil) rfl rfl rfl (.t _) trivial ⟨rfl, rfl⟩
end V
end Go.Proofs.YtikobdnhflcnmaaDoor
namespace Go.Proofs.YtikobdnhflcnmaaDoor
namespace V
set_option linter.unusedVariables false
set_option linter.unusedSimpArgs false
open Go.RowKit
class CInU (P : Program) (T : TypeId) : Prop where u : P.underlying T = some (.int .i64)
instance : CInU Tryd.prog 3 := ⟨by kernel_rfl⟩
def insM {α : Type} (w : Nat) (xs : List α) (i : Int) (a : α) : Option (List α) := if 0 ≤ i ∧ i ≤ (xs.length : Int) ∧ (xs.length + 1) * w ≤ 140737488355328 ∧ xs.length + 1 ≤ 4611686018427387904 then some (xs.take i.toNat ++ a :: xs.drop i.toNat) else none
def delM {α : Type} (xs : List α) (i j : Int) : Option (List α) := if 0 ≤ i ∧ i ≤ j ∧ j ≤ (xs.length : Int) ∧ 0 < xs.length then some (xs.take i.toNat ++ xs.drop j.toNat) else none
section
variable {P : Program} {n : Nat} {Q : Post} {σ : Nat → Value} {w : World} {ops : Array Oper} {rest : List Oper} {d : Nat} {ty : TypeId} {pos : String} {after : Array Edge}
theorem R.capSl {t e : TypeId} {x : Operand} {a : Option Addr} {l c : Nat} [T : CSl P t e] (hx : ev σ x = .slice a l c) : Yl P σ (.call { callee := .builtin .cap, args := #[x], argTypes := #[t] }) ty w (.int .i64 (c : Int)) w := Yl.mk fun d pos after g => by
  simp [execOp, resolve, invoke, builtin, hx, Builtin.cap_, T.run, goInt]
theorem R.apd {x y : Operand} {tx ty' : TypeId} {vx vy v : Value} {w' : World} (hx : ev σ x = vx) (hy : ev σ y = vy) (hr : (Builtin.append_ #[tx, ty'] ty #[vx, vy]).run P w = .ok v w') : Yl P σ (.call { callee := .builtin .append, args := #[x, y], argTypes := #[tx, ty'] }) ty w v w' := Yl.mk fun d pos after g => by
  simp [execOp, resolve, invoke, builtin, hx, hy, hr]
theorem R.cpy {x y : Operand} {tx ty' : TypeId} {vx vy v : Value} {w' : World} (hx : ev σ x = vx) (hy : ev σ y = vy) (hr : (Builtin.copy_ #[tx, ty'] ty #[vx, vy]).run P w = .ok v w') : Yl P σ (.call { callee := .builtin .copy, args := #[x, y], argTypes := #[tx, ty'] }) ty w v w' := Yl.mk fun d pos after g => by
  simp [execOp, resolve, invoke, builtin, hx, hy, hr]
theorem run_clr {x : Operand} {tx : TypeId} {vx v : Value} {w' : World} (hx : ev σ x = vx) (hr : (Builtin.clear_ #[tx] ty #[vx]).run P w = .ok v w') : (execOp (ev σ) ⟨none, .call { callee := .builtin .clear, args := #[x], argTypes := #[tx] }, ty, pos, after, none⟩).run P w = .ok (.value v) w' := by
  simp [execOp, resolve, invoke, builtin, hx, hr]
theorem R.ext {f : FuncId} {xs : List Operand} {ats : Array TypeId} {args : List Value} {v : Value} (ha : xs.map (ev σ) = args) (hr : (callFunc f args.toArray).run P w = .ok (.value v) w) : Yl P σ (.call { callee := .value (.func f), args := xs.toArray, argTypes := ats }) ty w v w := Yl.mk fun d pos after g => by
  subst ha
  simp only [execOp, resolve, ev, Deferred.ofValue, Sem.run_bind, Sem.run_pure, Result.andThen_ok, invoke]
  simpa using hr
/-- A row with a part written over. -/
def putR (cur : Array Value) (o : Nat) (cs : List Value) : Array Value := (cur.toList.take o ++ cs ++ cur.toList.drop (o + cs.length)).toArray
theorem run_copy_row (w : World) (dT sT ty e : TypeId) (i : TypeInfo) (hu : P.underlying dT = some (.slice e)) (hi : P.info? e = some i) (B o dLen dCap : Nat) (a : Addr) (sLen sCap m : Nat) (hm : Nat.min sLen dLen = m) (cs : List Value) (hn : cs.length = m * i.size)
    (cur : Array Value) (hcur : w.heap[B]? = some (.cells cur e (0, 0))) (hle : o + cs.length ≤ cur.size) (hsrc : ∀ j v, cs[j]? = some v → w.cell? (a.add j) = some v) (h1 : ∀ v ∈ cs, v.oneCell' = true) :
    (Builtin.copy_ #[dT, sT] ty #[.slice (some ⟨B, o, none⟩) dLen dCap, .slice (some a) sLen sCap]).run P w = .ok (goInt m) (w.setRow B (putR cur o cs)) := by
  have hl := run_loadCells_list (P := P) w a cs hsrc
  rw [hn] at hl
  have hst := run_storeCells_at P B o e cs 0 cur w hcur (by simpa using hle) h1
  simp only [Nat.add_zero] at hst
  simp [Builtin.copy_, run_underlying hu, Builtin.lenOf, Builtin.firstCells, sizeOf, typeInfo, hi, hm, hl, hst, putR]
theorem run_clear_row (w : World) (t e ty : TypeId) (z : Value) (ht : P.underlying t = some (.slice e)) (hv : ∀ w, (zeroValue e).run P w = .ok z w) (B o m c : Nat) (hm : 0 < m) (zs : List Value) (hzs : (Builtin.zeroCells z.cells m).toList = zs)
    (cur : Array Value) (hcur : w.heap[B]? = some (.cells cur e (0, 0))) (hle : o + zs.length ≤ cur.size) (hz1 : ∀ v ∈ zs, v.oneCell' = true) :
    (Builtin.clear_ #[t] ty #[.slice (some ⟨B, o, none⟩) m c]).run P w = .ok (.tuple #[]) (w.setRow B (putR cur o zs)) := by
  have hst := run_storeCells_at P B o e zs 0 cur w hcur (by simpa using hle) hz1
  simp only [Nat.add_zero] at hst
  obtain ⟨m, rfl⟩ : ∃ q, m = q + 1 := ⟨m - 1, by omega⟩
  simp [Builtin.clear_, run_underlying ht, hv, hzs, hst, putR]
theorem zeros_one {z : Value} (h0 : 0 < z.cells.size) (hzc : ∀ v ∈ z.cells.toList, v.oneCell' = true) (m : Nat) : ∀ v ∈ (Builtin.zeroCells z.cells m).toList, v.oneCell' = true := by
  intro v hv'
  obtain ⟨q, hq⟩ := mem_get hv'
  simp only [Builtin.zeroCells, Array.toList_map, List.getElem?_map, Option.map_eq_some_iff] at hq
  obtain ⟨a, ha, rfl⟩ := hq
  have : a % z.cells.size < z.cells.size := Nat.mod_lt _ h0
  rw [getElem!_pos z.cells _ this]
  exact hzc _ (by simp)
/-- One that hands back a value that nobody takes. -/
theorem LW.opN {op : Op} {v : Value} {w' : World} (hr : (execOp (ev σ) ⟨none, op, ty, pos, after, none⟩).run P w = .ok (.value v) w') (k : LW P n ops rest Q σ w') :
    LW P n ops (⟨none, op, ty, pos, after, none⟩ :: rest) Q σ w := by
  constructor
  intro a ha
  refine wpList_plain rfl fun K hK => ?_
  unfold Oper.wp
  rw [ha.eval, hr]
  exact hK _ _ (k.h _ ha)
theorem R.slice3 {t e : TypeId} {k : Nat} {x lo hi mx : Operand} {a : Option Addr} {len cap l h m : Nat} [T : CSl P t e] [Z : CS P e k] (hx : ev σ x = .slice a len cap) (hl : ev σ lo = .int .i64 (l : Int)) (hh : ev σ hi = .int .i64 (h : Int)) (hm : ev σ mx = .int .i64 (m : Int)) (h1 : l ≤ h) (h2 : h ≤ m) (h3 : m ≤ cap) :
    Yl P σ (.slice t x (some lo) (some hi) (some mx)) ty w (.slice (if m = l then a else a.map (·.add (l * k))) (h - l) (m - l)) w := Yl.mk fun d pos after g => by
  simp [execOp, hx, hl, hh, hm, Instr.sliceAt, T.run, Z.run, Instr.slice, Instr.sliceBounds, Instr.sliceBound, asIntOf, h1, h2, h3]
def so (cap o l k : Nat) : Nat := if cap = l then o else o + l * k
theorem so_ne {cap o l k : Nat} (h : cap ≠ l) : so cap o l k = o + l * k := if_neg h
theorem R.slL {t e : TypeId} {k : Nat} {x lo : Operand} {B o len cap l : Nat} [T : CSl P t e] [Z : CS P e k] (hx : ev σ x = .slice (some ⟨B, o, none⟩) len cap) (hl : ev σ lo = .int .i64 (l : Int)) (hlh : l ≤ len) :
    Yl P σ (.slice t x (some lo) none none) ty w (.slice (some ⟨B, so cap o l k, none⟩) (len - l) (cap - l)) w := by
  have := run_slice (P := P) (ty := ty) (w := w) (t := t) (lo := some lo) (hi := none) (l := l) (h := len) hx rfl hl hlh
  have e : (if cap = l then (some ⟨B, o, none⟩ : Option Addr) else (some ⟨B, o, none⟩ : Option Addr).map (·.add (l * k))) = some ⟨B, so cap o l k, none⟩ := by
    unfold so
    split
    · rfl
    · simp [Rd.addr_add]
  rw [e] at this; exact this
theorem R.slH {t e : TypeId} {k : Nat} {x hi : Operand} {B o len cap h : Nat} [T : CSl P t e] [Z : CS P e k] (hx : ev σ x = .slice (some ⟨B, o, none⟩) len cap) (hh : ev σ hi = .int .i64 (h : Int)) (hlh : h ≤ cap) :
    Yl P σ (.slice t x none (some hi) none) ty w (.slice (some ⟨B, o, none⟩) h cap) w := by
  have := run_slice (P := P) (ty := ty) (w := w) (t := t) (lo := none) (hi := some hi) (l := 0) (h := h) hx ⟨hh, hlh⟩ rfl (Nat.zero_le _)
  have e : (if cap = 0 then (some ⟨B, o, none⟩ : Option Addr) else (some ⟨B, o, none⟩ : Option Addr).map (·.add (0 * k))) = some ⟨B, o, none⟩ := by
    split
    · rfl
    · simp [Rd.addr_add]
  rw [e] at this; exact this
theorem R.slLH {t e : TypeId} {k : Nat} {x lo hi : Operand} {B o len cap l h : Nat} [T : CSl P t e] [Z : CS P e k] (hx : ev σ x = .slice (some ⟨B, o, none⟩) len cap) (hl : ev σ lo = .int .i64 (l : Int)) (hh : ev σ hi = .int .i64 (h : Int)) (hlh : l ≤ h) (hc : h ≤ cap) :
    Yl P σ (.slice t x (some lo) (some hi) none) ty w (.slice (some ⟨B, so cap o l k, none⟩) (h - l) (cap - l)) w := by
  have := run_slice (P := P) (ty := ty) (w := w) (t := t) (lo := some lo) (hi := some hi) (l := l) (h := h) hx ⟨hh, hc⟩ hl hlh
  have e : (if cap = l then (some ⟨B, o, none⟩ : Option Addr) else (some ⟨B, o, none⟩ : Option Addr).map (·.add (l * k))) = some ⟨B, so cap o l k, none⟩ := by
    unfold so
    split
    · rfl
    · simp [Rd.addr_add]
  rw [e] at this; exact this
theorem putR_size {cur : Array Value} {o : Nat} {cs : List Value} (h : o + cs.length ≤ cur.size) : (putR cur o cs).size = cur.size := by
  simp [putR]; omega
theorem putR_get {cur : Array Value} {o : Nat} {cs : List Value} (h : o + cs.length ≤ cur.size) (q : Nat) : (putR cur o cs)[q]? = if q < o then cur[q]? else if q < o + cs.length then cs[q - o]? else cur[q]? := by
  simp only [putR, List.getElem?_toArray, List.getElem?_append, List.getElem?_take, List.getElem?_drop, List.length_append, List.length_take, Array.length_toList, Array.getElem?_toList]
  have h3 : min o cur.size = o := by omega
  rw [h3]
  by_cases c1 : q < o
  · rw [if_pos (by omega), if_pos c1, if_pos c1, if_pos c1]
  · by_cases c2 : q < o + cs.length
    · rw [if_pos c2, if_neg c1, if_neg c1, if_pos c2]
    · rw [if_neg c2, if_neg c1, if_neg c2]; congr 1; omega
theorem shape_of_row {w : World} {g : Nat} {cs : Array Value} {t : TypeId} {fr : Nat × Nat} (h : w.heap[g]? = some (.cells cs t fr)) : w.shape? g = some (t, cs.size) := by simp [World.shape?, h]
theorem frozen_of_row {w : World} {g o : Nat} {cs : Array Value} {t : TypeId} (h : w.heap[g]? = some (.cells cs t (0, 0))) : w.frozen? ⟨g, o, none⟩ = false := by simp [World.frozen?, h]
/-- Steps that read nothing. -/
structure SW (P : Program) (n : Nat) (ops : Array Oper) (l : List Oper) (K : (Nat → Value) → Prop) (σ : Nat → Value) : Prop where
  h : ∀ w a, Rp n a σ → gList P ops (fun _ a' w' => w' = w ∧ ∃ σ', Rp n a' σ' ∧ K σ') l [] a w
theorem SW.nil {K : (Nat → Value) → Prop} (h : K σ) : SW P n ops [] K σ := ⟨fun w a ha => ⟨rfl, σ, ha, h⟩⟩
theorem SW.op {K : (Nat → Value) → Prop} {op : Op} {v : Value} (hd : Nat.blt d n = true) (hr : ∀ w, Yl P σ op ty w v w) (k : SW P n ops rest K (upd σ d v)) : SW P n ops (⟨some d, op, ty, pos, after, none⟩ :: rest) K σ := by
  refine ⟨fun w a ha => .inl ⟨v, .inl ⟨rfl, fun w' _ => ?_⟩, k.h w _ (ha.put d v hd)⟩⟩
  rw [ha.eval, (hr w').run]
  exact ⟨rfl, rfl⟩
/-- A region that draws the order of its first q operations, which read nothing. -/
theorem CW.anyR (q : Nat) (ord : List Nat) {id : Nat} {l : List Oper} (hm : P.follows .mixedOrders = true) (hB : anyB l.toArray q (.seg ord .done) = true)
    (h : SW P n l.toArray (sel l ord) (fun σ' => LW P n l.toArray (l.drop q) Q σ' { w with drawn := w.drawn + 1 }) σ) : CW P n (.region id l.toArray true) Q σ w := by
  refine ⟨fun a ha => region_ord (X := []) q (.seg ord .done) hm hB ?_⟩
  refine gList_mono (fun X a w' hq => ?_) _ _ _ _ (h.h _ a ha)
  obtain ⟨rfl, σ', ha', hk⟩ := hq
  exact hk.h a ha'
end
end V
end Go.Proofs.YtikobdnhflcnmaaDoor
namespace Go.Proofs.YtikobdnhflcnmaaDoor
namespace V
open Enc (enc)
set_option linter.unusedVariables false
set_option linter.unusedSimpArgs false
set_option maxHeartbeats 4000000
set_option maxRecDepth 100000
open Go.RowKit
/-- slices.Delete at impl.Column. -/
theorem del_raw_Column (w : World) (B n cap i j : Nat) (cur : Array Value) (hcur : w.heap[B]? = some (.cells cur 45 (0, 0))) (hsz : cur.size = cap * 4) (hn : n ≤ cap) (hcm : cap ≤ 9223372036854775807) (hij : i ≤ j) (hj : j ≤ n) (hone : ∀ q v, q < n * 4 → cur[q]? = some v → v.oneCell' = true) :
    Calls Tryd.prog 75 [.slice (some ⟨B, 0, none⟩) n cap, .int .i64 (i : Int), .int .i64 (j : Int)].toArray w fun e w' => e = .returned (.slice (some ⟨B, 0, none⟩) (n - (j - i)) cap) ∧ BelowX [B] w w' ∧ ∃ new, w'.heap[B]? = some (.cells new 45 (0, 0)) ∧ new.size = cur.size ∧ ∀ q, q < (n - (j - i)) * 4 → new[q]? = if q < i * 4 then cur[q]? else cur[q + (j - i) * 4]? := by
  have Z : CE Tryd.prog 45 4 40 := inferInstance
  obtain ⟨i0, z, hi0, hz, hk, hby, hzk⟩ := Z.ex
  have hwr : ∀ m : Nat, m ≤ 9223372036854775807 → (-9223372036854775808 : Int) ≤ (m : Int) ∧ (m : Int) ≤ 9223372036854775807 := fun m h => by omega
  refine calls Tryd.func75 rfl rfl ?_
  refine CW.seq ?_
  refine CW.region ?_
  refine LW.op rfl (R.assign) ?_
  refine LW.nil ?_
  refine thn_n ?_
  refine CW.seq ?_
  refine CW.region ?_
  refine LW.op rfl (R.moveS rfl) ?_
  refine LW.op rfl (R.moveI rfl) ?_
  refine LW.op rfl (R.moveI rfl) ?_
  refine LW.op rfl (R.moveS rfl) ?_
  refine LW.op rfl (R.lenSl rfl) ?_
  refine LW.op rfl (R.slice3 (l := i) (h := j) (m := n) rfl rfl rfl rfl hij hj hn) ?_
  refine LW.nil ?_
  refine thn_n ?_
  refine CW.seq ?_
  refine CW.seq ?_
  refine CW.region ?_
  refine LW.op rfl (R.moveI rfl) ?_
  refine LW.op rfl (R.moveI rfl) ?_
  refine LW.op rfl (R.eql rfl rfl) ?_
  refine LW.nil ?_
  refine thn_n ?_
  by_cases hq : i = j
  · refine CW.cond_true rfl (decide_eq_true (by omega)) ?_
    refine CW.seq ?_
    refine CW.region ?_
    refine LW.op rfl (R.moveS rfl) ?_
    refine LW.op rfl (R.assignS rfl) ?_
    refine LW.nil ?_
    refine thn_n ?_
    refine CW.ret ?_
    refine thn_r ?_
    refine Fin.ret1 rfl (.inl rfl) ⟨by show Ending.returned (Value.slice (some ⟨B, 0, none⟩) n cap) = _; rw [show n - (j - i) = n by omega], BelowX.refl _ _, cur, hcur, rfl, fun q hq' => ?_⟩
    split
    · rfl
    · rw [show (j - i) * 4 = 0 by rw [show j - i = 0 by omega, Nat.zero_mul], Nat.add_zero]
  refine CW.cond_false rfl (decide_eq_false (by omega)) ?_
  refine CW.skip ?_
  refine thn_n ?_
  refine CW.seq ?_
  refine CW.region ?_
  refine LW.op rfl (R.moveS rfl) ?_
  refine LW.op rfl (R.lenSl rfl) ?_
  refine LW.op rfl (R.assignI rfl) ?_
  refine LW.nil ?_
  refine thn_n ?_
  refine CW.seq ?_
  refine CW.anyR 6 [0, 1, 2, 3, 4, 5] rfl (by kernel_rfl) ?_
  refine SW.op rfl (fun w => R.moveS rfl) ?_
  refine SW.op rfl (fun w => R.moveI rfl) ?_
  refine SW.op rfl (fun w => R.slH (h := i) rfl rfl (by omega)) ?_
  refine SW.op rfl (fun w => R.moveS rfl) ?_
  refine SW.op rfl (fun w => R.moveI rfl) ?_
  refine SW.op rfl (fun w => R.slL (l := j) rfl rfl hj) ?_
  refine SW.nil ?_
  have hnl : ((cur.toList.drop (j * 4)).take ((n - j) * 4)).length = (n - j) * i0.size := by simp [hk]; omega
  have hsrc : ∀ q u, ((cur.toList.drop (j * 4)).take ((n - j) * 4))[q]? = some u → ({ w with drawn := w.drawn + 1 } : World).cell? ((⟨B, so cap 0 j 4, none⟩ : Addr).add q) = some u := by
    intro q u hq
    rw [List.getElem?_take] at hq
    split at hq
    · rename_i h1
      rw [List.getElem?_drop] at hq
      rw [Rd.addr_add, so_ne (by omega), cell_of_row ({ w with drawn := w.drawn + 1 } : World) _ _ cur 45 (0, 0) hcur, Nat.zero_add]
      simpa using hq
    · cases hq
  have hn1 : ∀ u ∈ (cur.toList.drop (j * 4)).take ((n - j) * 4), u.oneCell' = true := by
    intro u hu
    obtain ⟨q, hq⟩ := mem_get hu
    rw [List.getElem?_take] at hq
    split at hq
    · rename_i h1
      rw [List.getElem?_drop] at hq
      exact hone (j * 4 + q) u (by omega) (by simpa using hq)
    · cases hq
  have hrun := run_append_room (P := Tryd.prog) { w with drawn := w.drawn + 1 } 35 35 45 i0 (inferInstance : CSl Tryd.prog 35 45).u hi0 B i cap cur hcur ⟨B, so cap 0 j 4, none⟩ (n - j) (cap - j) _ hnl hsrc hn1 (by omega) (by rw [hnl, hk]; omega)
  rw [hk] at hrun
  refine LW.op rfl (R.apd rfl rfl hrun) ?_
  refine LW.op rfl (R.assignS rfl) ?_
  refine LW.nil ?_
  refine thn_n ?_
  clear hrun
  generalize hcs : (cur.toList.drop (j * 4)).take ((n - j) * 4) = cs at *
  rw [hk] at hnl
  have hg1 := putR_get (cur := cur) (o := i * 4) (cs := cs) (by rw [hnl]; omega)
  have hs1 := putR_size (cur := cur) (o := i * 4) (cs := cs) (by rw [hnl]; omega)
  have hW1 : (({ w with drawn := w.drawn + 1 } : World).setRow B (putR cur (i * 4) cs)).heap[B]? = some (.cells (putR cur (i * 4) cs) 45 (0, 0)) := setRow_heap _ _ _ _ _ _ hcur
  show CW Tryd.prog _ _ _ _ (({ w with drawn := w.drawn + 1 } : World).setRow B (putR cur (i * 4) cs))
  generalize hcur1 : putR cur (i * 4) cs = cur1 at *
  have hv : ∀ w, (zeroValue 45).run Tryd.prog w = .ok z w := fun w => by simp [zeroValue, typeInfo, hi0, hz]
  have hzc : ∀ v ∈ z.cells.toList, v.oneCell' = true := by
    have h2 := (hv w).symm.trans ((inferInstance : CZ Tryd.prog 45 _).run w)
    injection h2 with h2
    subst h2
    decide
  obtain ⟨zs, hzs⟩ : ∃ zs, (Builtin.zeroCells z.cells (n - (i + (n - j)))).toList = zs := ⟨_, rfl⟩
  have hzl : zs.length = (n - (i + (n - j))) * 4 := by rw [← hzs, Array.length_toList, size_zeroCells, hzk]
  have hz1 : ∀ v ∈ zs, v.oneCell' = true := by rw [← hzs]; exact zeros_one (by omega) hzc _
  have hso : so cap 0 (i + (n - j)) 4 = (i + (n - j)) * 4 := by rw [so_ne (by omega), Nat.zero_add]
  have hclr : ∀ ty, _ := fun ty => run_clear_row (P := Tryd.prog) (({ w with drawn := w.drawn + 1 } : World).setRow B cur1) 35 45 ty z (inferInstance : CSl Tryd.prog 35 45).u hv B (so cap 0 (i + (n - j)) 4) (n - (i + (n - j))) (cap - (i + (n - j))) (by omega) zs hzs cur1 hW1 (by rw [hso, hzl, hs1, hsz]; omega) hz1
  refine CW.seq ?_
  refine CW.region ?_
  refine LW.op rfl (R.moveS rfl) ?_
  refine LW.op rfl (R.moveS rfl) ?_
  refine LW.op rfl (R.lenSl rfl) ?_
  refine LW.op rfl (R.moveI rfl) ?_
  refine LW.op rfl (R.slLH (l := i + (n - j)) (h := n) rfl rfl rfl (by omega) hn) ?_
  refine LW.opN (run_clr rfl (hclr _)) ?_
  refine LW.nil ?_
  refine thn_n ?_
  rw [hso]
  refine CW.seq ?_
  refine CW.region ?_
  refine LW.op rfl (R.moveS rfl) ?_
  refine LW.op rfl (R.assignS rfl) ?_
  refine LW.nil ?_
  refine thn_n ?_
  refine CW.ret ?_
  have hg2 := putR_get (cur := cur1) (o := (i + (n - j)) * 4) (cs := zs) (by rw [hzl, hs1, hsz]; omega)
  have hs2 := putR_size (cur := cur1) (o := (i + (n - j)) * 4) (cs := zs) (by rw [hzl, hs1, hsz]; omega)
  refine Fin.ret1 rfl (.inl rfl) ⟨by show Ending.returned (Value.slice (some ⟨B, 0, none⟩) (i + (n - j)) cap) = _; rw [show n - (j - i) = i + (n - j) by omega], ⟨rfl, rfl, rfl, by simp, fun q hq hx => ?_⟩, _, setRow_heap _ _ _ _ _ _ hW1, by rw [hs2, hs1], fun q hq => ?_⟩
  · rw [setRow_other _ _ _ _ (by simpa using hx), setRow_other _ _ _ _ (by simpa using hx)]
  · rw [hg2, if_pos (by rw [show i + (n - j) = n - (j - i) by omega]; exact hq), hg1, hnl]
    split
    · rfl
    · rename_i h1
      rw [if_pos (by omega), ← hcs, List.getElem?_take, if_pos (by omega), List.getElem?_drop, Array.getElem?_toList]
      congr 1
      have : j * 4 = i * 4 + (j - i) * 4 := by rw [← Nat.add_mul]; congr 1; omega
      omega
/-- slices.Insert at impl.Column, behind all elements. -/
theorem ins_end_Column (w w' : World) (base : Option Addr) (i cap : Nat) (va : Option Addr) (vc : Nat) (v' : Value) (hr : ∀ ty, (Builtin.append_ #[35, 35] ty #[.slice base i cap, .slice va 1 vc]).run Tryd.prog w = .ok v' w') :
    Calls Tryd.prog 74 [.slice base i cap, .int .i64 (i : Int), .slice va 1 vc].toArray w fun e w'' => e = .returned v' ∧ w'' = w' := by
  refine calls Tryd.func74 rfl rfl ?_
  refine CW.seq ?_
  refine CW.region ?_
  refine LW.op rfl (R.assign) ?_
  refine LW.nil ?_
  refine thn_n ?_
  refine CW.seq ?_
  refine CW.region ?_
  refine LW.op rfl (R.moveS rfl) ?_
  refine LW.op rfl (R.moveI rfl) ?_
  refine LW.op rfl (run_slice (lo := some _) (hi := none) (l := i) (h := i) rfl rfl rfl (Nat.le_refl _)) ?_
  refine LW.nil ?_
  refine thn_n ?_
  refine CW.seq ?_
  refine CW.region ?_
  refine LW.op rfl (R.moveS rfl) ?_
  refine LW.op rfl (R.lenSl rfl) ?_
  refine LW.op rfl (R.assignI rfl) ?_
  refine LW.nil ?_
  refine thn_n ?_
  refine CW.seq ?_
  refine CW.seq ?_
  refine CW.region ?_
  refine LW.op rfl (R.moveI rfl) ?_
  refine LW.op rfl (R.eql rfl rfl) ?_
  refine LW.nil ?_
  refine thn_n ?_
  refine CW.cond_false rfl (decide_eq_false (by omega)) ?_
  refine CW.skip ?_
  refine thn_n ?_
  refine CW.seq ?_
  refine CW.region ?_
  refine LW.op rfl (R.moveS rfl) ?_
  refine LW.op rfl (R.lenSl rfl) ?_
  refine LW.op rfl (R.assignI rfl) ?_
  refine LW.nil ?_
  refine thn_n ?_
  refine CW.seq ?_
  refine CW.seq ?_
  refine CW.region ?_
  refine LW.op rfl (R.moveI rfl) ?_
  refine LW.op rfl (R.moveI rfl) ?_
  refine LW.op rfl (R.eql rfl rfl) ?_
  refine LW.nil ?_
  refine thn_n ?_
  refine CW.cond_true rfl (decide_eq_true rfl) ?_
  refine CW.seq ?_
  refine CW.region ?_
  refine LW.op rfl (R.moveS rfl) ?_
  refine LW.op rfl (R.moveS rfl) ?_
  refine LW.op rfl (R.apd rfl rfl (hr _)) ?_
  refine LW.op rfl R.assign ?_
  refine LW.nil ?_
  refine thn_n ?_
  refine CW.ret ?_
  refine thn_r ?_
  exact Fin.ret1 rfl (.inl rfl) ⟨rfl, rfl⟩
/-- .. where there is no room. -/
theorem ins_grow_Column (w : World) (B n cap i : Nat) (cur : Array Value) (hcur : w.heap[B]? = some (.cells cur 45 (0, 0))) (hsz : cur.size = cap * 4) (hn : n ≤ cap) (hi : i < n) (hroom : cap < n + 1) (hbig : (n + 1) * 40 ≤ 140737488355328) (hone : ∀ q v, q < n * 4 → cur[q]? = some v → v.oneCell' = true)
    (va : Addr) (vc : Nat) (vs : List Value) (hvl : vs.length = 4) (hvs : ∀ j u, vs[j]? = some u → w.cell? (va.add j) = some u) (hv1 : ∀ u ∈ vs, u.oneCell' = true) :
    Calls Tryd.prog 74 [.slice (some ⟨B, 0, none⟩) n cap, .int .i64 (i : Int), .slice (some va) 1 vc].toArray w fun e w' => ∃ G, e = .returned (.slice (some ⟨w.heap.size, 0, none⟩) (n + 1) G) ∧ n + 1 ≤ G ∧ G ≤ maxLen ∧ BelowX [] w w' ∧ ∃ new, w'.heap[w.heap.size]? = some (.cells new 45 (0, 0)) ∧ new.size = G * 4 ∧ w.heap.size < w'.heap.size ∧ ∀ q, q < (n + 1) * 4 → new[q]? = if q < i * 4 then cur[q]? else if q < i * 4 + 4 then vs[q - i * 4]? else cur[q - 4]? := by
  have Z : CE Tryd.prog 45 4 40 := inferInstance
  have Tu : Tryd.prog.underlying 35 = some (.slice 45) := (inferInstance : CSl Tryd.prog 35 45).u
  obtain ⟨i0, z, hi0, hz, hk, hby, hzk⟩ := Z.ex
  have hml : maxLen = 9223372036854775807 := rfl
  have hBw : B < w.heap.size := (Array.getElem?_eq_some_iff.1 hcur).1
  have hol : (cur.toList.take (i * 4)).length = i * i0.size := by simp [hk]; omega
  have hold : (Builtin.firstCells i0.size i (.slice (some ⟨B, 0, none⟩) i cap)).run Tryd.prog w.drew = .ok (cur.toList.take (i * 4)).toArray w.drew :=
    run_firstCells_some w.drew i0.size i ⟨B, 0, none⟩ i cap _ hol (fun j u hu => by
      rw [List.getElem?_take] at hu
      split at hu
      · rw [Rd.addr_add, Nat.zero_add, cell_of_row w.drew _ _ cur 45 (0, 0) hcur]; simpa using hu
      · cases hu)
  have hrz : ∀ tn ty, Tryd.prog.underlying tn = some (.int .i64) → (Builtin.append_ #[35, tn] ty #[.slice (some ⟨B, 0, none⟩) i cap, .int .i64 ((n : Int) + 1 - (i : Int))]).run Tryd.prog w = .ok (.slice (some ⟨w.heap.size, 0, none⟩) (n + 1) (grownCap w (n + 1) cap 45)) (w.drew.alloc (.cells ((cur.toList.take (i * 4)).toArray ++ Builtin.zeroCells z.cells (n + 1 - i) ++ Builtin.zeroCells z.cells (grownCap w (n + 1) cap 45 - (n + 1))) 45)) := fun tn ty htn => by
    have h := Lib.run_append_grow_zeros w 35 tn ty 45 i0 z .i64 .i64 Tu htn hi0 hz (some ⟨B, 0, none⟩) i cap (cur.toList.take (i * 4)) hold (n + 1 - i) (by omega) (by omega) (by omega) (by omega) (by rw [hby]; omega) (by rw [hby, show i + (n + 1 - i) = n + 1 by omega]; exact growslice_fits hroom hbig)
    rw [show i + (n + 1 - i) = n + 1 by omega] at h
    rw [show (n : Int) + 1 - (i : Int) = ((n + 1 - i : Nat) : Int) by omega]
    exact h
  have hGn : n + 1 ≤ grownCap w (n + 1) cap 45 := grownCap_ge w _ _ _
  have hGm : grownCap w (n + 1) cap 45 ≤ maxLen := grownCap_le_maxLen w (n + 1) cap 45 (by omega)
  generalize hG : grownCap w (n + 1) cap 45 = G at *
  have hrs : ((cur.toList.take (i * 4)).toArray ++ Builtin.zeroCells z.cells (n + 1 - i) ++ Builtin.zeroCells z.cells (G - (n + 1))).size = G * 4 := by
    simp only [Array.size_append, List.size_toArray, size_zeroCells, hzk, hol, hk]
    rw [← Nat.add_mul, ← Nat.add_mul]; congr 1; omega
  have hr0 : ∀ q, q < i * 4 → ((cur.toList.take (i * 4)).toArray ++ Builtin.zeroCells z.cells (n + 1 - i) ++ Builtin.zeroCells z.cells (G - (n + 1)))[q]? = cur[q]? := fun q hq => by
    rw [Array.append_assoc, Array.getElem?_append_left (by simp; omega)]
    simp [hq]
  generalize hrow : (cur.toList.take (i * 4)).toArray ++ Builtin.zeroCells z.cells (n + 1 - i) ++ Builtin.zeroCells z.cells (G - (n + 1)) = row at *
  refine calls Tryd.func74 rfl rfl ?_
  refine CW.seq ?_
  refine CW.region ?_
  refine LW.op rfl (R.assign) ?_
  refine LW.nil ?_
  refine thn_n ?_
  refine CW.seq ?_
  refine CW.region ?_
  refine LW.op rfl (R.moveS rfl) ?_
  refine LW.op rfl (R.moveI rfl) ?_
  refine LW.op rfl (R.slL (l := i) rfl rfl (by omega)) ?_
  refine LW.nil ?_
  refine thn_n ?_
  refine CW.seq ?_
  refine CW.region ?_
  refine LW.op rfl (R.moveS rfl) ?_
  refine LW.op rfl (R.lenSl rfl) ?_
  refine LW.op rfl (R.assignI rfl) ?_
  refine LW.nil ?_
  refine thn_n ?_
  refine CW.seq ?_
  refine CW.seq ?_
  refine CW.region ?_
  refine LW.op rfl (R.moveI rfl) ?_
  refine LW.op rfl (R.eql rfl rfl) ?_
  refine LW.nil ?_
  refine thn_n ?_
  refine CW.cond_false rfl (decide_eq_false (by omega)) ?_
  refine CW.skip ?_
  refine thn_n ?_
  refine CW.seq ?_
  refine CW.region ?_
  refine LW.op rfl (R.moveS rfl) ?_
  refine LW.op rfl (R.lenSl rfl) ?_
  refine LW.op rfl (R.assignI rfl) ?_
  refine LW.nil ?_
  refine thn_n ?_
  refine CW.seq ?_
  refine CW.seq ?_
  refine CW.region ?_
  refine LW.op rfl (R.moveI rfl) ?_
  refine LW.op rfl (R.moveI rfl) ?_
  refine LW.op rfl (R.eql rfl rfl) ?_
  refine LW.nil ?_
  refine thn_n ?_
  refine CW.cond_false rfl (decide_eq_false (by omega)) ?_
  refine CW.skip ?_
  refine thn_n ?_
  refine CW.seq ?_
  refine CW.seq ?_
  refine CW.region ?_
  refine LW.op rfl (R.moveI rfl) ?_
  refine LW.op rfl (R.moveI rfl) ?_
  refine LW.op rfl (R.add rfl rfl (by omega)) ?_
  refine LW.op rfl (R.moveS rfl) ?_
  refine LW.op rfl (R.capSl rfl) ?_
  refine LW.op rfl (R.gtr rfl rfl) ?_
  refine LW.nil ?_
  refine thn_n ?_
  refine CW.cond_true rfl (decide_eq_true (by omega)) ?_
  refine CW.seq ?_
  refine CW.region ?_
  refine LW.op rfl (R.moveS rfl) ?_
  refine LW.op rfl (R.moveI rfl) ?_
  refine LW.op rfl (R.slH (h := i) rfl rfl (by omega)) ?_
  refine LW.op rfl (R.moveI rfl) ?_
  refine LW.op rfl (R.moveI rfl) ?_
  refine LW.op rfl (R.add rfl rfl (by omega)) ?_
  refine LW.op rfl (R.moveI rfl) ?_
  refine LW.op rfl (R.sub rfl rfl (by omega)) ?_
  refine LW.op rfl (R.apd rfl rfl (hrz _ _ (inferInstance : CInU Tryd.prog _).u)) ?_
  refine LW.op rfl (R.assignS rfl) ?_
  refine LW.nil ?_
  refine thn_n ?_
  have hW1 : (w.drew.alloc (.cells row 45)).heap[w.heap.size]? = some (.cells row 45 (0, 0)) := heap_alloc_new w.drew _
  have hol1 : ∀ B', B' < w.heap.size → (w.drew.alloc (.cells row 45)).heap[B']? = w.heap[B']? := fun B' h => by
    exact heap_alloc_old w.drew _ h
  have hw1s : (w.drew.alloc (.cells row 45)).heap.size = w.heap.size + 1 := by simp
  have hw1o : (w.drew.alloc (.cells row 45)).os = w.os ∧ (w.drew.alloc (.cells row 45)).tape = w.tape ∧ (w.drew.alloc (.cells row 45)).output = w.output := ⟨rfl, rfl, rfl⟩
  generalize hw1 : w.drew.alloc (.cells row 45) = w1 at *
  have hcell : ∀ a u, w.cell? a = some u → w1.cell? a = some u := fun a u h => by
    have hlt : a.block < w.heap.size := by
      rcases Nat.lt_or_ge a.block w.heap.size with h' | h'
      · exact h'
      · simp [World.cell?, Array.getElem?_eq_none h'] at h
    rw [← h]; exact World.cell?_of_block (w := w) (hol1 _ hlt)
  have hso1 : so G 0 i 4 = i * 4 := by rw [so_ne (by omega), Nat.zero_add]
  have hso2 : so G 0 (i + 1) 4 = i * 4 + 4 ∨ n = i := by
    by_cases h : G = i + 1
    · right; omega
    · left; rw [so_ne h, Nat.zero_add, Nat.add_mul, Nat.one_mul]
  have hc1 : ∀ ty, _ := fun ty => run_copy_row (P := Tryd.prog) w1 35 35 ty 45 i0 Tu hi0 w.heap.size (so G 0 i 4) (n + 1 - i) (G - i) va 1 vc 1 (Nat.min_eq_left (by omega)) vs (by rw [hvl, hk]) row hW1 (by rw [hso1, hvl, hrs]; omega) (fun j u hu => hcell _ _ (hvs j u hu)) hv1
  rw [hso1] at hc1
  have hg1 := putR_get (cur := row) (o := i * 4) (cs := vs) (by rw [hvl, hrs]; omega)
  have hs1 := putR_size (cur := row) (o := i * 4) (cs := vs) (by rw [hvl, hrs]; omega)
  refine CW.seq ?_
  refine CW.region ?_
  refine LW.op rfl (R.moveS rfl) ?_
  refine LW.op rfl (R.moveI rfl) ?_
  refine LW.op rfl (R.slL (l := i) rfl rfl (by omega)) ?_
  refine LW.op rfl (R.moveS rfl) ?_
  refine LW.op rfl (R.cpy (by rw [hso1]; rfl) rfl (hc1 _)) ?_
  refine LW.nil ?_
  refine thn_n ?_
  generalize hrow1 : putR row (i * 4) vs = row1 at *
  have hW2 : (w1.setRow w.heap.size row1).heap[w.heap.size]? = some (.cells row1 45 (0, 0)) := setRow_heap _ _ _ _ _ _ hW1
  have hol2 : ∀ B', B' < w.heap.size → (w1.setRow w.heap.size row1).heap[B']? = w.heap[B']? := fun B' h => by
    rw [setRow_other _ _ _ _ (by omega)]; exact hol1 _ h
  have hw2s : (w1.setRow w.heap.size row1).heap.size = w.heap.size + 1 := by simp [hw1s]
  have hw2o : (w1.setRow w.heap.size row1).os = w.os ∧ (w1.setRow w.heap.size row1).tape = w.tape ∧ (w1.setRow w.heap.size row1).output = w.output := hw1o
  generalize hw2 : w1.setRow w.heap.size row1 = w2 at *
  refine CW.seq ?_
  refine CW.anyR 8 [0, 1, 2, 3, 4, 5, 6, 7] rfl (by kernel_rfl) ?_
  refine SW.op rfl (fun w => R.moveS rfl) ?_
  refine SW.op rfl (fun w => R.moveI rfl) ?_
  refine SW.op rfl (fun w => R.moveI rfl) ?_
  refine SW.op rfl (fun w => R.add rfl rfl (by omega)) ?_
  refine SW.op rfl (fun w => R.slL (l := i + 1) rfl rfl (by omega)) ?_
  refine SW.op rfl (fun w => R.moveS rfl) ?_
  refine SW.op rfl (fun w => R.moveI rfl) ?_
  refine SW.op rfl (fun w => R.slL (l := i) rfl rfl (by omega)) ?_
  refine SW.nil ?_
  have hnl : ((cur.toList.drop (i * 4)).take ((n - i) * 4)).length = (n - i) * i0.size := by simp [hk]; omega
  have hn1 : ∀ u ∈ (cur.toList.drop (i * 4)).take ((n - i) * 4), u.oneCell' = true := by
    intro u hu
    obtain ⟨q, hq⟩ := mem_get hu
    rw [List.getElem?_take] at hq
    split at hq
    · rename_i h1
      rw [List.getElem?_drop] at hq
      exact hone (i * 4 + q) u (by omega) (by simpa using hq)
    · cases hq
  have hso2 : so G 0 (i + 1) 4 = i * 4 + 4 := hso2.resolve_right (by omega)
  have hc2 : ∀ ty, _ := fun ty => run_copy_row (P := Tryd.prog) { w2 with drawn := w2.drawn + 1 } 35 35 ty 45 i0 Tu hi0 w.heap.size (so G 0 (i + 1) 4) (n + 1 - (i + 1)) (G - (i + 1)) ⟨B, so cap 0 i 4, none⟩ (n - i) (cap - i) (n - i) (Nat.min_eq_left (by omega)) _ hnl row1 hW2 (by rw [hso2, hnl, hs1, hrs, hk]; omega) (fun q u hq => by
    rw [List.getElem?_take] at hq
    split at hq
    · rw [List.getElem?_drop] at hq
      rw [Rd.addr_add, so_ne (by omega), cell_of_row ({ w2 with drawn := w2.drawn + 1 } : World) _ _ cur 45 (0, 0) (by rw [← hcur]; exact hol2 _ hBw), Nat.zero_add]
      simpa using hq
    · cases hq) hn1
  rw [hso2] at hc2
  refine LW.op rfl (R.cpy (by rw [hso2]; rfl) rfl (hc2 _)) ?_
  refine LW.nil ?_
  refine thn_n ?_
  rw [hk] at hnl
  generalize hcs : (cur.toList.drop (i * 4)).take ((n - i) * 4) = cs at *
  have hg2 := putR_get (cur := row1) (o := i * 4 + 4) (cs := cs) (by rw [hnl, hs1, hrs]; omega)
  have hs2 := putR_size (cur := row1) (o := i * 4 + 4) (cs := cs) (by rw [hnl, hs1, hrs]; omega)
  refine CW.seq ?_
  refine CW.region ?_
  refine LW.op rfl (R.moveS rfl) ?_
  refine LW.op rfl (R.assignS rfl) ?_
  refine LW.nil ?_
  refine thn_n ?_
  refine CW.ret ?_
  refine thn_r ?_
  refine Fin.ret1 rfl (.inl rfl) ⟨G, rfl, hGn, hGm, ⟨hw2o.1, hw2o.2.1, hw2o.2.2, by simp [hw2s], fun q hq hx => ?_⟩, _, setRow_heap _ _ _ _ _ _ (by exact hW2), by rw [hs2, hs1, hrs], by simp [hw2s], fun q hq => ?_⟩
  · rw [setRow_other _ _ _ _ (by omega)]; exact hol2 q hq
  · rw [hg2, hg1, hnl, hvl]
    by_cases h1 : q < i * 4
    · rw [if_pos (by omega), if_pos h1, if_pos h1]; exact hr0 q h1
    · by_cases h2 : q < i * 4 + 4
      · rw [if_pos h2, if_neg h1, if_pos h2, if_neg h1, if_pos h2]
      · have hN : (n + 1) * 4 = i * 4 + (n - i) * 4 + 4 := by rw [← Nat.add_mul, Nat.add_mul n 1, Nat.one_mul]; congr 2; omega
        rw [if_neg h2, if_pos (by omega), if_neg h1, if_neg h2, ← hcs, List.getElem?_take, if_pos (by omega), List.getElem?_drop, Array.getElem?_toList]
        congr 1; omega
/-- .. where there is room. -/
theorem ins_room_Column (w : World) (B n cap i : Nat) (cur : Array Value) (hcur : w.heap[B]? = some (.cells cur 45 (0, 0))) (hsz : cur.size = cap * 4) (hcm : cap ≤ 9223372036854775807) (hi : i < n) (hroom : n + 1 ≤ cap) (hone : ∀ q v, q < n * 4 → cur[q]? = some v → v.oneCell' = true)
    (vb vo : Nat) (vc : Nat) (vs : List Value) (hvl : vs.length = 4) (hvs : ∀ j u, vs[j]? = some u → w.cell? ((⟨vb, vo, none⟩ : Addr).add j) = some u) (hv1 : ∀ u ∈ vs, u.oneCell' = true) (hne : vb ≠ B) (vcur : Array Value) (vt : TypeId) (hvc : w.heap[vb]? = some (.cells vcur vt (0, 0))) :
    Calls Tryd.prog 74 [.slice (some ⟨B, 0, none⟩) n cap, .int .i64 (i : Int), .slice (some ⟨vb, vo, none⟩) 1 vc].toArray w fun e w' => e = .returned (.slice (some ⟨B, 0, none⟩) (n + 1) cap) ∧ BelowX [B] w w' ∧ ∃ new, w'.heap[B]? = some (.cells new 45 (0, 0)) ∧ new.size = cur.size ∧ ∀ q, q < (n + 1) * 4 → new[q]? = if q < i * 4 then cur[q]? else if q < i * 4 + 4 then vs[q - i * 4]? else cur[q - 4]? := by
  have Z : CE Tryd.prog 45 4 40 := inferInstance
  have Tu : Tryd.prog.underlying 35 = some (.slice 45) := (inferInstance : CSl Tryd.prog 35 45).u
  obtain ⟨i0, z, hi0, hz, hk, hby, hzk⟩ := Z.ex
  have hov : ∀ lb cb, (callFunc 79 #[.slice (some ⟨vb, vo, none⟩) 1 vc, .slice (some ⟨B, so cap 0 (i + 1) 4, none⟩) lb cb]).run Tryd.prog w = .ok (.value (.bool false)) w := fun lb cb => by
    rw [run_callFunc_extern Tryd.func79 (by kernel_rfl) (by kernel_rfl) (by kernel_rfl) (e := Extern.SlicesOverlaps.overlaps #[35, 35] #[4]) (by kernel_rfl),
      Lib.run_overlaps_apart w 35 4 45 Tu 4 (inferInstance : CS Tryd.prog 45 4).run ⟨vb, vo, none⟩ ⟨B, so cap 0 (i + 1) 4, none⟩ 1 vc lb cb hne vt 45 vcur.size cur.size (shape_of_row hvc) (shape_of_row hcur) (by omega) (frozen_of_row hvc) (frozen_of_row hvc)]
    rfl
  refine calls Tryd.func74 rfl rfl ?_
  refine CW.seq ?_
  refine CW.region ?_
  refine LW.op rfl (R.assign) ?_
  refine LW.nil ?_
  refine thn_n ?_
  refine CW.seq ?_
  refine CW.region ?_
  refine LW.op rfl (R.moveS rfl) ?_
  refine LW.op rfl (R.moveI rfl) ?_
  refine LW.op rfl (R.slL (l := i) rfl rfl (by omega)) ?_
  refine LW.nil ?_
  refine thn_n ?_
  refine CW.seq ?_
  refine CW.region ?_
  refine LW.op rfl (R.moveS rfl) ?_
  refine LW.op rfl (R.lenSl rfl) ?_
  refine LW.op rfl (R.assignI rfl) ?_
  refine LW.nil ?_
  refine thn_n ?_
  refine CW.seq ?_
  refine CW.seq ?_
  refine CW.region ?_
  refine LW.op rfl (R.moveI rfl) ?_
  refine LW.op rfl (R.eql rfl rfl) ?_
  refine LW.nil ?_
  refine thn_n ?_
  refine CW.cond_false rfl (decide_eq_false (by omega)) ?_
  refine CW.skip ?_
  refine thn_n ?_
  refine CW.seq ?_
  refine CW.region ?_
  refine LW.op rfl (R.moveS rfl) ?_
  refine LW.op rfl (R.lenSl rfl) ?_
  refine LW.op rfl (R.assignI rfl) ?_
  refine LW.nil ?_
  refine thn_n ?_
  refine CW.seq ?_
  refine CW.seq ?_
  refine CW.region ?_
  refine LW.op rfl (R.moveI rfl) ?_
  refine LW.op rfl (R.moveI rfl) ?_
  refine LW.op rfl (R.eql rfl rfl) ?_
  refine LW.nil ?_
  refine thn_n ?_
  refine CW.cond_false rfl (decide_eq_false (by omega)) ?_
  refine CW.skip ?_
  refine thn_n ?_
  refine CW.seq ?_
  refine CW.seq ?_
  refine CW.region ?_
  refine LW.op rfl (R.moveI rfl) ?_
  refine LW.op rfl (R.moveI rfl) ?_
  refine LW.op rfl (R.add rfl rfl (by omega)) ?_
  refine LW.op rfl (R.moveS rfl) ?_
  refine LW.op rfl (R.capSl rfl) ?_
  refine LW.op rfl (R.gtr rfl rfl) ?_
  refine LW.nil ?_
  refine thn_n ?_
  refine CW.cond_false rfl (decide_eq_false (by omega)) ?_
  refine CW.skip ?_
  refine thn_n ?_
  refine CW.seq ?_
  refine CW.region ?_
  refine LW.op rfl (R.moveS rfl) ?_
  refine LW.op rfl (R.moveI rfl) ?_
  refine LW.op rfl (R.moveI rfl) ?_
  refine LW.op rfl (R.add rfl rfl (by omega)) ?_
  refine LW.op rfl (R.slH (h := n + 1) rfl rfl hroom) ?_
  refine LW.op rfl (R.assignS rfl) ?_
  refine LW.nil ?_
  refine thn_n ?_
  refine CW.seq ?_
  refine CW.seq ?_
  refine CW.region ?_
  refine LW.op rfl (R.moveS rfl) ?_
  refine LW.op rfl (R.moveS rfl) ?_
  refine LW.op rfl (R.moveI rfl) ?_
  refine LW.op rfl (R.moveI rfl) ?_
  refine LW.op rfl (R.add rfl rfl (by omega)) ?_
  refine LW.op rfl (R.slL (l := i + 1) rfl rfl (by omega)) ?_
  refine LW.op rfl (R.ext (xs := [_, _]) rfl (hov _ _)) ?_
  refine LW.op rfl (R.unnot rfl) ?_
  refine LW.nil ?_
  refine thn_n ?_
  refine CW.cond_true rfl rfl ?_
  refine CW.seq ?_
  refine CW.anyR 8 [0, 1, 2, 3, 4, 5, 6, 7] rfl (by kernel_rfl) ?_
  refine SW.op rfl (fun w => R.moveS rfl) ?_
  refine SW.op rfl (fun w => R.moveI rfl) ?_
  refine SW.op rfl (fun w => R.moveI rfl) ?_
  refine SW.op rfl (fun w => R.add rfl rfl (by omega)) ?_
  refine SW.op rfl (fun w => R.slL (l := i + 1) rfl rfl (by omega)) ?_
  refine SW.op rfl (fun w => R.moveS rfl) ?_
  refine SW.op rfl (fun w => R.moveI rfl) ?_
  refine SW.op rfl (fun w => R.slL (l := i) rfl rfl (by omega)) ?_
  refine SW.nil ?_
  have hnl : ((cur.toList.drop (i * 4)).take ((n - i) * 4)).length = (n - i) * i0.size := by simp [hk]; omega
  have hn1 : ∀ u ∈ (cur.toList.drop (i * 4)).take ((n - i) * 4), u.oneCell' = true := by
    intro u hu
    obtain ⟨q, hq⟩ := mem_get hu
    rw [List.getElem?_take] at hq
    split at hq
    · rename_i h1
      rw [List.getElem?_drop] at hq
      exact hone (i * 4 + q) u (by omega) (by simpa using hq)
    · cases hq
  have hso1 : so cap 0 i 4 = i * 4 := by rw [so_ne (by omega), Nat.zero_add]
  have hle2 : i * 4 + 4 + (n - i) * 4 ≤ cap * 4 := by
    have : i * 4 + 4 + (n - i) * 4 = (n + 1) * 4 := by rw [Nat.add_right_comm, ← Nat.add_mul, Nat.add_mul n 1, Nat.one_mul]; congr 2; omega
    rw [this]; exact Nat.mul_le_mul_right _ hroom
  have hso2 : so cap 0 (i + 1) 4 = i * 4 + 4 := by rw [so_ne (by omega), Nat.zero_add, Nat.add_mul, Nat.one_mul]
  have hc2 : ∀ ty, _ := fun ty => run_copy_row (P := Tryd.prog) { w with drawn := w.drawn + 1 } 35 35 ty 45 i0 Tu hi0 B (so cap 0 (i + 1) 4) (n + 1 - (i + 1)) (cap - (i + 1)) ⟨B, so cap 0 i 4, none⟩ (n + 1 - i) (cap - i) (n - i) (by rw [show n + 1 - (i + 1) = n - i by omega]; exact Nat.min_eq_right (by omega)) _ hnl cur hcur (by rw [hso2, hnl, hsz, hk]; exact hle2) (fun q u hq => by
    rw [List.getElem?_take] at hq
    split at hq
    · rw [List.getElem?_drop] at hq
      rw [Rd.addr_add, hso1, cell_of_row ({ w with drawn := w.drawn + 1 } : World) _ _ cur 45 (0, 0) hcur]
      simpa using hq
    · cases hq) hn1
  rw [hso2] at hc2
  refine LW.op rfl (R.cpy (by rw [hso2]; rfl) rfl (hc2 _)) ?_
  refine LW.nil ?_
  refine thn_n ?_
  rw [hk] at hnl
  generalize hcs : (cur.toList.drop (i * 4)).take ((n - i) * 4) = cs at *
  have hg1 := putR_get (cur := cur) (o := i * 4 + 4) (cs := cs) (by rw [hnl, hsz]; exact hle2)
  have hs1 := putR_size (cur := cur) (o := i * 4 + 4) (cs := cs) (by rw [hnl, hsz]; exact hle2)
  generalize hrow1 : putR cur (i * 4 + 4) cs = row1 at *
  have hW1 : (({ w with drawn := w.drawn + 1 } : World).setRow B row1).heap[B]? = some (.cells row1 45 (0, 0)) := setRow_heap _ _ _ _ _ _ hcur
  have hol1 : ∀ B', B' ≠ B → (({ w with drawn := w.drawn + 1 } : World).setRow B row1).heap[B']? = w.heap[B']? := fun B' h => setRow_other _ _ _ _ h
  have hw1s : (({ w with drawn := w.drawn + 1 } : World).setRow B row1).heap.size = w.heap.size := by simp
  have hw1o : (({ w with drawn := w.drawn + 1 } : World).setRow B row1).os = w.os ∧ (({ w with drawn := w.drawn + 1 } : World).setRow B row1).tape = w.tape ∧ (({ w with drawn := w.drawn + 1 } : World).setRow B row1).output = w.output := ⟨rfl, rfl, rfl⟩
  generalize hw1 : ({ w with drawn := w.drawn + 1 } : World).setRow B row1 = w1 at *
  have hc1 : ∀ ty, _ := fun ty => run_copy_row (P := Tryd.prog) w1 35 35 ty 45 i0 Tu hi0 B (so cap 0 i 4) (n + 1 - i) (cap - i) ⟨vb, vo, none⟩ 1 vc 1 (Nat.min_eq_left (by omega)) vs (by rw [hvl, hk]) row1 hW1 (by rw [hso1, hvl, hs1, hsz]; omega) (fun j u hu => by rw [← hvs j u hu]; exact World.cell?_of_block (w := w) (hol1 _ (by rw [Rd.addr_add]; exact hne))) hv1
  rw [hso1] at hc1
  have hg2 := putR_get (cur := row1) (o := i * 4) (cs := vs) (by rw [hvl, hs1, hsz]; omega)
  have hs2 := putR_size (cur := row1) (o := i * 4) (cs := vs) (by rw [hvl, hs1, hsz]; omega)
  refine CW.seq ?_
  refine CW.region ?_
  refine LW.op rfl (R.moveS rfl) ?_
  refine LW.op rfl (R.moveI rfl) ?_
  refine LW.op rfl (R.slL (l := i) rfl rfl (by omega)) ?_
  refine LW.op rfl (R.moveS rfl) ?_
  refine LW.op rfl (R.cpy (by rw [hso1]; rfl) rfl (hc1 _)) ?_
  refine LW.nil ?_
  refine thn_n ?_
  refine CW.seq ?_
  refine CW.region ?_
  refine LW.op rfl (R.moveS rfl) ?_
  refine LW.op rfl (R.assignS rfl) ?_
  refine LW.nil ?_
  refine thn_n ?_
  refine CW.ret ?_
  refine thn_r ?_
  refine Fin.ret1 rfl (.inl rfl) ⟨rfl, ⟨hw1o.1, hw1o.2.1, hw1o.2.2, by simp [hw1s], fun q hq hx => ?_⟩, _, setRow_heap _ _ _ _ _ _ hW1, by rw [hs2, hs1], fun q hq => ?_⟩
  · have hx : q ≠ B := by simpa using hx
    rw [setRow_other _ _ _ _ hx]; exact hol1 q hx
  · rw [hg2, hg1, hnl, hvl]
    by_cases h1 : q < i * 4
    · rw [if_pos h1, if_pos (by omega), if_pos h1]
    · by_cases h2 : q < i * 4 + 4
      · rw [if_neg h1, if_pos h2, if_neg h1, if_pos h2]
      · have hN : (n + 1) * 4 = i * 4 + (n - i) * 4 + 4 := by rw [← Nat.add_mul, Nat.add_mul n 1, Nat.one_mul]; congr 2; omega
        rw [if_neg h1, if_neg h2, if_neg h2, if_pos (by omega), if_neg h1, if_neg h2, ← hcs, List.getElem?_take, if_pos (by omega), List.getElem?_drop, Array.getElem?_toList]
        congr 1; omega
theorem ins_core_Column {s : Bs} {M : Mp} {O : Obs} {U : Nat → Prop} {w : World} (S : Mem s M O U w) {v : Value} {n i : Nat} {olds : List Value} (hv : Grw s M U w 45 4 v n olds) (h1o : ∀ u ∈ olds, u.oneCell' = true)
    {cs ds : List Tr} (hcs : cs.length = olds.length) (hco : ∀ (j : Nat) c y, cs[j]? = some c → olds[j]? = some y → TRel w U c y)
    {vb vo vc : Nat} {vs : List Value} (hvl : vs.length = 4) (hds : ds.length = 4) (hvs : ∀ j u, vs[j]? = some u → w.cell? ((⟨vb, vo, none⟩ : Addr).add j) = some u) (hv1 : ∀ u ∈ vs, u.oneCell' = true) (hdv : ∀ (j : Nat) c y, ds[j]? = some c → vs[j]? = some y → TRel w U c y)
    (hin : InM M vb) {vcur : Array Value} {vt : TypeId} (hvc : w.heap[vb]? = some (.cells vcur vt (0, 0))) (hi : i ≤ n) (hbytes : (n + 1) * 40 ≤ 140737488355328) (h63 : n + 1 ≤ 4611686018427387904) :
    Calls Tryd.prog 74 [v, .int .i64 (i : Int), .slice (some ⟨vb, vo, none⟩) 1 vc].toArray w fun e w' => ∃ v' x, e = .returned v' ∧ Mem s (M ++ [x]) (O ++ [some ⟨.tr (cs.take (i * 4) ++ ds ++ cs.drop (i * 4)), 45, 4⟩]) U w' ∧ (∀ c z, Rel w U M c z → Rel w' U (M ++ [x]) c z) ∧ Rel w' U (M ++ [x]) (.os O.length 0 (n + 1)) v' := by
  have hcl : cs.length = n * 4 := by rw [hcs, hv.1]
  have hdl : (cs.take (i * 4) ++ ds ++ cs.drop (i * 4)).length = (n + 1) * 4 := by
    have := Nat.mul_le_mul_right 4 hi
    simp; omega
  by_cases hin' : i = n
  · subst hin'
    have e1 : cs.take (i * 4) ++ ds ++ cs.drop (i * 4) = cs ++ ds := by
      rw [List.take_of_length_le (by omega), List.drop_of_length_le (by omega), List.append_nil]
    rw [e1]
    have key : ∀ base cap, v = .slice base i cap → Calls Tryd.prog 74 [v, .int .i64 (i : Int), .slice (some ⟨vb, vo, none⟩) 1 vc].toArray w fun e w' => ∃ v' x, e = .returned v' ∧ Mem s (M ++ [x]) (O ++ [some ⟨.tr (cs ++ ds), 45, 4⟩]) U w' ∧ (∀ c z, Rel w U M c z → Rel w' U (M ++ [x]) c z) ∧ Rel w' U (M ++ [x]) (.os O.length 0 (i + 1)) v' := by
      intro base cap e
      subst e
      obtain ⟨v', w', x, hrun, S', h1, h2, _⟩ := append_core (P := Tryd.prog) (t := 35) (ty := 0) S hv (ad := some ⟨vb, vo, none⟩) (m := 1) (c := vc) (news := vs) (by rw [hvl]) (.inr ⟨_, rfl, hvs⟩) hv1 h1o hcs (by rw [hds, hvl]) hco hdv hbytes h63
      refine (ins_end_Column w w' base i cap (some ⟨vb, vo, none⟩) vc v' (fun ty => hrun)).mono ?_
      rintro e w'' ⟨rfl, rfl⟩
      exact ⟨v', x, rfl, S', h1, h2⟩
    rcases hv.2 with ⟨e, e'⟩ | ⟨B, o, cap, cur, e, _⟩
    · exact key none 0 (by rw [e, e'])
    · exact key _ _ e
  have hin : i < n := by omega
  rcases hv.2 with ⟨e, e'⟩ | ⟨B, o, cap, cur, rfl, hnc, hcm, hcur, h2, h3, h4, h5⟩
  · omega
  rcases h5 with ⟨h6, _⟩ | ⟨rfl, hsz, htk⟩
  · omega
  have hne : vb ≠ B := fun e => h2 (e ▸ ‹InM M vb›)
  have hcm' : cap ≤ 9223372036854775807 := hcm
  have hnk : n * 4 ≤ cap * 4 := Nat.mul_le_mul_right _ hnc
  have hol : ∀ q, q < n * 4 → cur[q]? = olds[q]? := fun q hq => by
    rw [← htk, List.getElem?_take, if_pos hq, Array.getElem?_toList]
  have hone : ∀ q u, q < n * 4 → cur[q]? = some u → u.oneCell' = true := fun q u hq hu => h1o u (by rw [hol q hq] at hu; exact get_mem hu)
  have hcells : ∀ new : Array Value, (∀ q, q < (n + 1) * 4 → new[q]? = if q < i * 4 then cur[q]? else if q < i * 4 + 4 then vs[q - i * 4]? else cur[q - 4]?) → ∀ (j : Nat) c, (Ob.cells ⟨.tr (cs.take (i * 4) ++ ds ++ cs.drop (i * 4)), 45, 4⟩)[j]? = some c → ∃ y, new[0 + j]? = some y ∧ y.oneCell' = true ∧ Rel w U M c y := by
    intro new hnew j c hc
    simp only [Ob.cells, Cs.list, List.getElem?_map] at hc
    cases hq : (cs.take (i * 4) ++ ds ++ cs.drop (i * 4))[j]? with
    | none => rw [hq] at hc; cases hc
    | some q =>
      rw [hq] at hc; simp at hc; subst hc
      have hj := (List.getElem?_eq_some_iff.1 hq).1
      rw [hdl] at hj
      rw [Nat.zero_add, hnew j hj]
      have hik : i * 4 ≤ n * 4 := Nat.mul_le_mul_right _ hi
      simp only [List.getElem?_append, List.length_append, List.length_take, hcl, hds, Nat.min_eq_left hik] at hq
      by_cases h1 : j < i * 4
      · rw [if_pos (by omega), if_pos h1, List.getElem?_take, if_pos h1] at hq
        rw [if_pos h1, hol j (by omega)]
        have hy : olds[j]? = some (olds[j]'(by rw [← hcs, hcl]; omega)) := List.getElem?_eq_getElem _
        exact ⟨_, hy, h1o _ (get_mem hy), .t _ _ (hco j q _ hq hy)⟩
      · by_cases h2 : j < i * 4 + 4
        · rw [if_pos h2, if_neg h1] at hq
          rw [if_neg h1, if_pos h2]
          have hy : vs[j - i * 4]? = some (vs[j - i * 4]'(by omega)) := List.getElem?_eq_getElem _
          exact ⟨_, hy, hv1 _ (get_mem hy), .t _ _ (hdv _ q _ hq hy)⟩
        · rw [if_neg h2, List.getElem?_drop] at hq
          rw [if_neg h1, if_neg h2, hol _ (by rw [Nat.add_mul] at hj; omega)]
          have hy : olds[j - 4]? = some (olds[j - 4]'(by rw [← hcs, hcl]; rw [Nat.add_mul] at hj; omega)) := List.getElem?_eq_getElem _
          refine ⟨_, hy, h1o _ (get_mem hy), .t _ _ (hco _ q _ ?_ hy)⟩
          rw [← hq]; congr 1; omega
  by_cases hroom : n + 1 ≤ cap
  · refine (ins_room_Column w B n cap i cur hcur hsz hcm' hin hroom hone vb vo vc vs hvl hvs hv1 hne vcur vt hvc).mono ?_
    rintro e w' ⟨rfl, hb, new, g1, g2, g3⟩
    have hrk : (n + 1) * 4 ≤ cap * 4 := Nat.mul_le_mul_right _ hroom
    obtain ⟨S', hr'⟩ := S.insX (w' := w') (L := ⟨B, cap * 4, 4⟩) (ob := ⟨.tr (cs.take (i * 4) ++ ds ++ cs.drop (i * 4)), 45, 4⟩) (X := [B]) hb (fun B' h => by simp at h; subst h; exact ⟨h2, h3, h4⟩) ⟨h2, h3, h4, (Array.getElem?_eq_some_iff.1 g1).1⟩
      ⟨new, rfl, by simp only [Ob.cells, Cs.list, List.length_map, hdl, Loc.off]; omega, g1, by rw [g2, hsz], hcells new g3⟩
    exact ⟨_, _, rfl, S', hr', .os _ _ _ _ ⟨B, cap * 4, 4⟩ (snoc_new S.len.symm) (by simp [Loc.off]) hroom hcm⟩
  · refine (ins_grow_Column w B n cap i cur hcur hsz hnc hin (by omega) hbytes hone ⟨vb, vo, none⟩ vc vs hvl hvs hv1).mono ?_
    rintro e w' ⟨G, rfl, hGn, hGm, hb, new, g1, g2, glt, g3⟩
    have hrk : (n + 1) * 4 ≤ G * 4 := Nat.mul_le_mul_right _ hGn
    obtain ⟨S', hr'⟩ := S.insX (w' := w') (L := ⟨w.heap.size, G * 4, 4⟩) (ob := ⟨.tr (cs.take (i * 4) ++ ds ++ cs.drop (i * 4)), 45, 4⟩) (X := []) hb (fun B' h => by simp at h) ⟨fun h => by have h : InM M w.heap.size := h; have := S.lt _ h; omega, fun h => by have h : U w.heap.size := h; have := (S.u _ h).1.1; omega, S.base.size, glt⟩
      ⟨new, rfl, by simp only [Ob.cells, Cs.list, List.length_map, hdl, Loc.off]; omega, g1, g2, hcells new g3⟩
    exact ⟨_, _, rfl, S', hr', .os _ _ _ _ ⟨w.heap.size, G * 4, 4⟩ (snoc_new S.len.symm) (by simp [Loc.off]) hGn hGm⟩
theorem PL.ins_Column {n : Nat} {s : Bs} {Q : APost} {σ : Fr} {O : Obs} {ops : Array Oper} {rest : List Oper} {d : Nat} {ty : TypeId} {pos : String} {after : Array Edge} {ats : Array TypeId} {m0 : Nat} (hm : s.L.length = m0) {x y z : Operand} {b l n0 : Nat} {xs zs : List I_Column} {a : I_Column} {i : Int} (hd : Nat.blt d n = true) (hx : evA σ x = .os b 0 n0) (hO : O[b]? = some (some ⟨.tr (eL xs), 45, 4⟩)) (hy : evA σ y = iA i) (hz : evA σ z = .os l 0 1) (hOl : O[l]? = some (some ⟨.tr (eL [a]), 45, 4⟩))
    (hb : Nat.ble m0 b = true) (hlb : Nat.beq l b = false) (hn : n0 = xs.length) (h : insM 40 xs i a = some zs)
    (kk : PL Tryd.prog n s ops rest Q (updA σ d (.os O.length 0 zs.length)) (O.set b none ++ [some ⟨.tr (eL zs), 45, 4⟩])) :
    PL Tryd.prog n s ops (⟨some d, .call { callee := .value (.func 74), args := #[x, y, z], argTypes := ats }, ty, pos, after, none⟩ :: rest) Q σ O := by
  unfold insM at h
  split at h
  case isFalse => cases h
  rename_i hc
  cases h
  obtain ⟨j, rfl⟩ := Int.eq_ofNat_of_zero_le hc.1
  subst hn
  refine ⟨fun M U σc w S hσ => ?_⟩
  have hb' : s.L.length ≤ b := by rw [hm]; exact Nat.le_of_ble_eq_true hb
  have hlb' : b ≠ l := fun e => by subst e; rw [Nat.beq_refl] at hlb; cases hlb
  have ex := evA_rel hσ x; rw [hx] at ex
  have ey := evA_rel hσ y; rw [hy] at ey
  have ez := evA_rel hσ z; rw [hz] at ez
  have hy' := ey.int
  obtain ⟨S1, hk⟩ := S.kill hb'
  obtain ⟨olds, hg, ho1, ho2, ho3⟩ := S.grw hb' hO (eL_all xs) (eL_len xs) ex
  generalize hz' : ev σc z = zv at ez
  cases ez with
  | osd _ _ _ _ _ hM => exact (S.own _ _ _ hOl hM).elim
  | os _ _ _ cap L hM hcap hn' hx1 =>
    obtain ⟨hLk, hle, cur, hcur, hsz, hr⟩ := S.own l _ _ hOl hM
    rw [eL_one] at hle hr
    have hle' : L.off + 4 ≤ cur.size := by rw [hsz]; simpa [Ob.cells, Cs.list, show (enc a).length = 4 from rfl] using hle
    have hvl : ((cur.toList.drop L.off).take 4).length = 4 := by simp; omega
    have hget : ∀ q u, ((cur.toList.drop L.off).take 4)[q]? = some u → q < 4 ∧ cur[L.off + q]? = some u := by
      intro q u hq
      rw [List.getElem?_take] at hq
      split at hq
      · rw [List.getElem?_drop] at hq; exact ⟨‹_›, by simpa using hq⟩
      · cases hq
    have hin : InM (M.set b .dead) L.blk := .ad (by rw [List.getElem?_set_ne hlb']; exact hM)
    have hcall := ins_core_Column (vc := cap) S1 hg ho2 ho1.symm ho3 (ds := enc a) hvl rfl (vb := L.blk) (vo := L.off + 0) (fun q u hq => by
        rw [Rd.addr_add, cell_of_row w _ _ cur _ _ hcur, Nat.add_zero]; exact (hget q u hq).2) (fun u hu => by
        obtain ⟨q, hq⟩ := mem_get hu
        obtain ⟨h1, h2⟩ := hget q u hq
        obtain ⟨y, g1, g2, _⟩ := hr q (.t ((enc a)[q]'h1)) (Rd.tr_get (List.getElem?_eq_getElem h1))
        rw [h2] at g1; cases g1; exact g2) (fun q c u h1 h2 => by
        obtain ⟨h3, h4⟩ := hget q u h2
        obtain ⟨y, g1, _, g3⟩ := hr q (.t c) (Rd.tr_get h1)
        rw [h4] at g1; cases g1
        cases g3 with | t _ _ g => exact g) hin hcur (i := j) (by omega) hc.2.2.1 hc.2.2.2
    refine LW.call hd (f := 74) (run_fcall (xs := [x, y, z]) Tryd.call74 (by rw [List.map_cons, List.map_cons, List.map_cons, List.map_nil, hy', hz'])) hcall ?_
    rintro e w' ⟨v', p, rfl, S', h1, h2⟩
    have e2 : (eL xs).take (j * 4) ++ enc a ++ (eL xs).drop (j * 4) = eL (xs.take ((j : Int).toNat) ++ a :: xs.drop ((j : Int).toNat)) := by
      rw [Int.toNat_natCast, eL_app, eL_cons, show j * 4 = j * (inferInstance : Enc I_Column).k from rfl, eL_take, eL_drop, List.append_assoc]
    rw [e2] at S'
    refine ⟨v', rfl, kk.h _ U _ w' S' (Rels.upd (fun t => h1 _ _ (hk _ _ (hσ t))) d ?_)⟩
    have e3 : (xs.take ((j : Int).toNat) ++ a :: xs.drop ((j : Int).toNat)).length = xs.length + 1 := by simp; omega
    rw [e3]; simpa using h2
theorem PL.del_Column {n : Nat} {s : Bs} {Q : APost} {σ : Fr} {O : Obs} {ops : Array Oper} {rest : List Oper} {d : Nat} {ty : TypeId} {pos : String} {after : Array Edge} {ats : Array TypeId} {m0 : Nat} (hm : s.L.length = m0) {x y z : Operand} {b n0 : Nat} {xs zs : List I_Column} {i j : Int} (hd : Nat.blt d n = true) (hx : evA σ x = .os b 0 n0) (hO : O[b]? = some (some ⟨.tr (eL xs), 45, 4⟩)) (hy : evA σ y = iA i) (hz : evA σ z = iA j)
    (hb : Nat.ble m0 b = true) (hn : n0 = xs.length) (h : delM xs i j = some zs)
    (kk : PL Tryd.prog n s ops rest Q (updA σ d (.os O.length 0 zs.length)) (O.set b none ++ [some ⟨.tr (eL zs), 45, 4⟩])) :
    PL Tryd.prog n s ops (⟨some d, .call { callee := .value (.func 75), args := #[x, y, z], argTypes := ats }, ty, pos, after, none⟩ :: rest) Q σ O := by
  unfold delM at h
  split at h
  case isFalse => cases h
  rename_i hc
  cases h
  obtain ⟨i, rfl⟩ := Int.eq_ofNat_of_zero_le hc.1
  obtain ⟨j, rfl⟩ := Int.eq_ofNat_of_zero_le (show 0 ≤ j by omega)
  subst hn
  refine ⟨fun M U σc w S hσ => ?_⟩
  have hb' : s.L.length ≤ b := by rw [hm]; exact Nat.le_of_ble_eq_true hb
  have ex := evA_rel hσ x; rw [hx] at ex
  have ey := evA_rel hσ y; rw [hy] at ey
  have ez := evA_rel hσ z; rw [hz] at ez
  have hy' := ey.int
  have hz' := ez.int
  obtain ⟨S1, hk⟩ := S.kill hb'
  obtain ⟨olds, hg, ho1, ho2, ho3⟩ := S.grw hb' hO (eL_all xs) (eL_len xs) ex
  rcases hg.2 with ⟨_, e'⟩ | ⟨B, o, cap, cur, hv, hnc, hcm, hcur, h2, h3, h4, h5⟩
  · omega
  rcases h5 with ⟨h6, _⟩ | ⟨rfl, hsz, htk⟩
  · omega
  have hcm' : cap ≤ 9223372036854775807 := hcm
  have hcl : (eL xs).length = xs.length * 4 := eL_len xs
  have hol : ∀ q, q < xs.length * 4 → cur[q]? = olds[q]? := fun q hq => by
    rw [← htk, List.getElem?_take, if_pos hq, Array.getElem?_toList]
  have hone : ∀ q u, q < xs.length * 4 → cur[q]? = some u → u.oneCell' = true := fun q u hq hu => ho2 u (by rw [hol q hq] at hu; exact get_mem hu)
  have hjn : j ≤ xs.length := by omega
  have hij : i ≤ j := by omega
  have hnk : (xs.length - (j - i)) * 4 ≤ cap * 4 := Nat.mul_le_mul_right _ (by omega)
  refine LW.call hd (f := 75) (run_fcall (xs := [x, y, z]) Tryd.call75 (by rw [List.map_cons, List.map_cons, List.map_cons, List.map_nil, hy', hz', hv])) (del_raw_Column w B xs.length cap i j cur hcur hsz hnc hcm' hij hjn hone) ?_
  rintro e w' ⟨rfl, hbx, new, g1, g2, g3⟩
  have hzl : (xs.take i ++ xs.drop j).length = xs.length - (j - i) := by simp; omega
  obtain ⟨S', hr'⟩ := S1.insX (w' := w') (L := ⟨B, cap * 4, 4⟩) (ob := ⟨.tr (eL (xs.take i ++ xs.drop j)), 45, 4⟩) (X := [B]) hbx (fun B' h => by simp at h; subst h; exact ⟨h2, h3, h4⟩) ⟨h2, h3, h4, (Array.getElem?_eq_some_iff.1 g1).1⟩
    ⟨new, rfl, by simp only [Ob.cells, Cs.list, List.length_map, eL_len, hzl, Loc.off, Nat.zero_add]; exact hnk, g1, by rw [g2, hsz], fun q c hq => by
      simp only [Ob.cells, Cs.list, List.getElem?_map] at hq
      cases hq' : (eL (xs.take i ++ xs.drop j))[q]? with
      | none => rw [hq'] at hq; cases hq
      | some t =>
        rw [hq'] at hq; simp at hq; subst hq
        have hql := (List.getElem?_eq_some_iff.1 hq').1
        rw [eL_len, hzl] at hql
        have hql : q < (xs.length - (j - i)) * 4 := hql
        rw [eL_app, ← eL_take, ← eL_drop] at hq'
        have hik : i * 4 ≤ xs.length * 4 := Nat.mul_le_mul_right _ (by omega)
        have hq2 : ((eL xs).take (i * 4) ++ (eL xs).drop (j * 4))[q]? = some t := hq'
        rw [List.getElem?_append, List.length_take, hcl, Nat.min_eq_left hik] at hq2
        show ∃ y, new[0 + q]? = some y ∧ _
        rw [Nat.zero_add, g3 q hql]
        have e5 : (xs.length - (j - i)) * 4 + (j - i) * 4 = xs.length * 4 := by rw [← Nat.add_mul]; congr 1; omega
        have e6 : (j - i) * 4 + i * 4 = j * 4 := by rw [← Nat.add_mul]; congr 1; omega
        by_cases h7 : q < i * 4
        · rw [if_pos h7, List.getElem?_take, if_pos h7] at hq2
          rw [if_pos h7, hol q (by omega)]
          have hy : olds[q]? = some (olds[q]'(by rw [ho1, hcl]; omega)) := List.getElem?_eq_getElem _
          exact ⟨_, hy, ho2 _ (get_mem hy), .t _ _ (ho3 q t _ hq2 hy)⟩
        · rw [if_neg h7, List.getElem?_drop] at hq2
          rw [if_neg h7, hol _ (by omega)]
          have hy : olds[q + (j - i) * 4]? = some (olds[q + (j - i) * 4]'(by rw [ho1, hcl]; omega)) := List.getElem?_eq_getElem _
          refine ⟨_, hy, ho2 _ (get_mem hy), .t _ _ (ho3 _ t _ ?_ hy)⟩
          rw [← hq2]; congr 1; omega⟩
  refine ⟨_, rfl, kk.h _ U _ w' S' (Rels.upd (fun t => hr' _ _ (hk _ _ (hσ t))) d ?_)⟩
  rw [Int.toNat_natCast, Int.toNat_natCast, hzl]
  have := Rel.os (w := w') (U := U) (M := M.set b .dead ++ [.ad ⟨B, cap * 4, 4⟩]) O.length 0 (xs.length - (j - i)) cap ⟨B, cap * 4, 4⟩ (snoc_new (by simp [S.len])) (by simp [Loc.off]) (by omega) hcm
  exact this
end V
end Go.Proofs.YtikobdnhflcnmaaDoor
namespace Go.Proofs
open Go.Shelf
def Tryd.laysM171_ren : Go.Shelf.Ren := ⟨fun | 171 => 81 | 243 => 83 | 246 => 85 | 283 => 86 | 284 => 87 | 285 => 88 | 286 => 89 | 129 => 91 | 317 => 90 | 318 => 92 | 319 => 93 | 320 => 94 | 337 => 95 | 338 => 96 | n => n, fun | 3 => 3 | 9 => 9 | 2 => 2 | 4 => 4 | 171 => 116 | 0 => 0 | 53 => 117 | 37 => 107 | 5 => 5 | 173 => 120 | 212 => 124 | 51 => 125 | 20 => 20 | 213 => 126 | 46 => 128 | 232 => 131 | 233 => 132 | n => n, fun | 17 => 0 | 18 => 1 | 19 => 2 | n => n⟩
theorem Tryd.laysM171 : Go.Proofs.LaysM.n171 Tryd.prog Tryd.laysM171_ren := {
  mixed := by kernel_rfl
  f129 := Tryd.func91.trans (congrArg some (by kernel_rfl))
  f171 := Tryd.func81.trans (congrArg some (by kernel_rfl))
  f243 := Tryd.func83.trans (congrArg some (by kernel_rfl))
  f246 := Tryd.func85.trans (congrArg some (by kernel_rfl))
  f283 := Tryd.func86.trans (congrArg some (by kernel_rfl))
  f284 := Tryd.func87.trans (congrArg some (by kernel_rfl))
  f285 := Tryd.func88.trans (congrArg some (by kernel_rfl))
  f286 := Tryd.func89.trans (congrArg some (by kernel_rfl))
  f317 := Tryd.func90.trans (congrArg some (by kernel_rfl))
  f318 := Tryd.func92.trans (congrArg some (by kernel_rfl))
  f319 := Tryd.func93.trans (congrArg some (by kernel_rfl))
  f320 := Tryd.func94.trans (congrArg some (by kernel_rfl))
  f337 := Tryd.func95.trans (congrArg some (by kernel_rfl))
  f338 := Tryd.func96.trans (congrArg some (by kernel_rfl))
  t0 := Tryd.underlying0
  a0 := Tryd.isAgg0
  z0 := Tryd.sizeOf0
  v0 := Tryd.zeroValue0
  t2 := Tryd.underlying2
  a2 := Tryd.isAgg2
  z2 := Tryd.sizeOf2
  v2 := Tryd.zeroValue2
  t3 := Tryd.underlying3
  a3 := Tryd.isAgg3
  z3 := Tryd.sizeOf3
  v3 := Tryd.zeroValue3
  t4 := Tryd.underlying4
  a4 := Tryd.isAgg4
  z4 := Tryd.sizeOf4
  v4 := Tryd.zeroValue4
  t5 := Tryd.underlying5
  a5 := Tryd.isAgg5
  z5 := Tryd.sizeOf5
  v5 := Tryd.zeroValue5
  t9 := Tryd.underlying9
  a9 := Tryd.isAgg9
  z9 := Tryd.sizeOf9
  v9 := Tryd.zeroValue9
  t20 := Tryd.underlying20
  a20 := Tryd.isAgg20
  z20 := Tryd.sizeOf20
  v20 := Tryd.zeroValue20
  t37 := Tryd.underlying107
  a37 := Tryd.isAgg107
  z37 := Tryd.sizeOf107
  v37 := Tryd.zeroValue107
  t46 := Tryd.underlying128
  a46 := Tryd.isAgg128
  z46 := Tryd.sizeOf128
  v46 := Tryd.zeroValue128
  t51 := Tryd.underlying125
  a51 := Tryd.isAgg125
  z51 := Tryd.sizeOf125
  v51 := Tryd.zeroValue125
  t53 := Tryd.underlying117
  a53 := Tryd.isAgg117
  z53 := Tryd.sizeOf117
  v53 := Tryd.zeroValue117
  t171 := Tryd.underlying116
  a171 := Tryd.isAgg116
  z171 := Tryd.sizeOf116
  v171 := Tryd.zeroValue116
  t173 := Tryd.underlying120
  a173 := Tryd.isAgg120
  z173 := Tryd.sizeOf120
  v173 := Tryd.zeroValue120
  t212 := Tryd.underlying124
  a212 := Tryd.isAgg124
  z212 := Tryd.sizeOf124
  v212 := Tryd.zeroValue124
  t213 := Tryd.underlying126
  a213 := Tryd.isAgg126
  z213 := Tryd.sizeOf126
  t232 := Tryd.underlying131
  a232 := Tryd.isAgg131
  z232 := Tryd.sizeOf131
  v232 := Tryd.zeroValue131
  t233 := Tryd.underlying132
  a233 := Tryd.isAgg132
  z233 := Tryd.sizeOf132
  v233 := Tryd.zeroValue132
  g17 := by kernel_rfl
  g18 := by kernel_rfl
  g19 := by kernel_rfl
  i0 := by kernel_rfl
  i2 := by kernel_rfl
  i3 := by kernel_rfl
  i4 := by kernel_rfl
  i5 := by kernel_rfl
  i9 := by kernel_rfl
  i20 := by kernel_rfl
  i37 := by kernel_rfl
  i46 := by kernel_rfl
  i51 := by kernel_rfl
  i53 := by kernel_rfl
  i171 := by kernel_rfl
  i173 := by kernel_rfl
  i212 := by kernel_rfl
  i232 := by kernel_rfl
  i233 := by kernel_rfl
  m17 := by kernel_rfl
  m18 := by kernel_rfl
  m19 := by kernel_rfl }
end Go.Proofs
namespace Go.Proofs.YtikobdnhflcnmaaDoor
namespace V
open Go.Sort
set_option linter.unusedVariables false
set_option linter.unusedSimpArgs false
def itoaB (n : Int) : ByteArray := ⟨(Lib.itoa n).toArray⟩
def m_strconv_Itoa (N : Nat) (p_i : Int) : Option ByteArray := if -9223372036854775808 ≤ p_i ∧ p_i ≤ 9223372036854775807 then some (itoaB p_i) else none
theorem w_strconv_Itoa (N : Nat) (p_i : Int) (r : ByteArray) (hh0 : m_strconv_Itoa N p_i = some r) : FnX Tryd.prog 81 [] [iA p_i] (RE (sA r) []) := by
  unfold m_strconv_Itoa at hh0
  split at hh0
  case isFalse => cases hh0
  rename_i hb
  obtain rfl := (Option.some.inj hh0).symm
  intro s U av S hV ha
  obtain ⟨hal, har⟩ := ha
  obtain ⟨y, rfl⟩ : ∃ y, av = [y] := List.length_eq_one_iff.1 hal
  obtain rfl := Rel.int (har 0 _ y rfl rfl)
  obtain ⟨g, _, _, htab⟩ := S.tab
  refine (Any.strconv_Itoa Tryd.laysM171 p_i hb.1 hb.2 s.w htab).mono ?_
  rintro e w' ⟨rfl, k, os, rfl⟩
  refine ⟨_, sA (itoaB p_i), [], s.L, U, rfl, ⟨rfl, rfl⟩, .t _ _ (.v _ rfl), S.below ⟨rfl, rfl, rfl, by simp, fun B hB => ?_⟩⟩
  exact heap_grow_old _ _ (by simpa using hB)
end V
end Go.Proofs.YtikobdnhflcnmaaDoor
