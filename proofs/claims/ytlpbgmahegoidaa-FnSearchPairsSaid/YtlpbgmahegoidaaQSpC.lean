/- What the rows need, part 3. No condition. -/
import Derived.Shelf.Sort.Plain
import Derived.Shelf.Slices.In.SortNone
import Derived.Test.YtlpbgmahegoidaaProg
import Derived.Test.YtlpbgmahegoidaaQSpB
set_option linter.unusedVariables false
set_option linter.unusedSimpArgs false
namespace Go.Proofs.Ytlpbgmahegoidaa
namespace V
open Enc (enc)
set_option maxHeartbeats 4000000
set_option maxRecDepth 100000
open Go.RowKit
attribute [local irreducible] thA inA FinA eL
structure I_Value where
  kind : Int
  num : Int
  text : ByteArray
deriving DecidableEq
instance : Enc I_Value := ⟨fun x => [.v (.int .i64 x.kind), .v (.int .i64 x.num), .v (.string x.text)], 3, fun _ => rfl⟩
instance : EncF I_Value := ⟨fun _ c h => by simp [enc] at h; rcases h with h | h | h <;> exact ⟨_, h⟩⟩
structure I_Column where
  kind : Int
  default : I_Value
deriving DecidableEq
instance : Enc I_Column := ⟨fun x => [.v (.int .i64 x.kind), .v (.int .i64 x.default.kind), .v (.int .i64 x.default.num), .v (.string x.default.text)], 4, fun _ => rfl⟩
structure I_Change where
  kind : Int
  at_ : Int
  column : I_Column
deriving DecidableEq
instance : Enc I_Change := ⟨fun x => [.v (.int .i64 x.kind), .v (.int .i64 x.at_), .v (.int .i64 x.column.kind), .v (.int .i64 x.column.default.kind), .v (.int .i64 x.column.default.num), .v (.string x.column.default.text)], 6, fun _ => rfl⟩
structure I_Tagged where
  tag : Int
  row : List I_Value
deriving DecidableEq
instance : Enc I_Tagged := ⟨fun x => [.v (.int .i64 x.tag), .sl x.row.length (eL x.row)], 2, fun _ => rfl⟩
structure I_Table where
  first : List I_Column
  changes : List I_Change
  rows : List I_Tagged
deriving DecidableEq
def m_I_validText_k1 (N : Nat) : Option (Bool) :=
  some true
def m_I_validText_b1 (N : Nat) (p_s : ByteArray) (i2 : Int) : Option (Int ⊕ (Unit ⊕ Bool)) :=
  cond (decide (i2 < (p_s.size : Int)))
    ((ixS p_s i2).bind fun c18 =>
    cond (decide ((c18.toNat : Int) < ((32 : UInt8).toNat : Int)))
      (some (.inr (.inr false)))
      ((ixS p_s i2).bind fun c21 =>
      cond (decide (((126 : UInt8).toNat : Int) < (c21.toNat : Int)))
        (some (.inr (.inr false)))
        ((chk (i2 + (1 : Int))).bind fun n24 =>
        some (.inl n24))))
    (some (.inr (.inl ())))
def m_I_validText (N : Nat) (p_s : ByteArray) : Option (Bool) :=
  cond (decide ((12 : Int) < (p_s.size : Int)))
    (some false)
    ((loopM (β := Unit ⊕ Bool) (fun s : Int => m_I_validText_b1 N p_s s) N (0 : Int)).bind fun o => match o with
    | .inl e =>
      m_I_validText_k1 N 
    | .inr v =>
      some v)
theorem w_I_validText (N : Nat) (p_s : ByteArray) (r : Bool) (hh0 : m_I_validText N p_s = some r) : FnX Try.prog 59 [] [sA p_s] (RE (bA r) []) := by
  unfold m_I_validText at hh0; refine FnX.mk Try.func59 rfl rfl ?_; intro s hs; refine PC.seq ?_; refine PC.rg ?_; refine PL.aT rfl rfl ?_; refine PL.nn ?_; (iterate 2 refine PC.seq ?_); refine PC.rg ?_; refine PL.mT rfl rfl ?_; refine PL.op rfl (Rd.lenSt rfl) ?_; refine PL.op rfl (Rd.gtr rfl rfl) ?_; refine PL.nn ?_; rcases cond_some hh0 with ⟨h_1, hh0⟩ | ⟨h_1, hh0⟩
  · refine PC.ct rfl h_1 ?_; refine PC.seq ?_; refine PC.rg ?_; refine PL.aT rfl rfl ?_; refine PL.nn ?_; refine PC.ret ?_; refine thA_r ?_; obtain rfl := some_in hh0; exact FinA.mk (r := bA false) (bl := []) [] (.inl rfl) rfl (rl := [.tmp 2]) (.tmp .nil) rfl rfl rfl (.t _) trivial ⟨rfl, rfl⟩
  refine PC.cf rfl h_1 ?_; refine PC.skip ?_; refine thA_n ?_; (iterate 2 refine PC.seq ?_); refine PC.rg ?_; refine PL.aT rfl rfl ?_; refine PL.nn ?_; obtain ⟨o12, h_13, hh0⟩ := bind_some hh0; refine PC.cutE hs (fun x : Unit => []) (fun x => []) (fun x => m_I_validText_k1 N  = some r) ?_ ?_
  · refine PC.block ?_; refine PC.loop hs (fun x : Nat × (Int) => [(0, sA p_s), (3, iA x.2)]) (fun x => []) (fun x => loopM (β := Unit ⊕ Bool) (fun s : Int => m_I_validText_b1 N p_s s) x.1 x.2 = some o12) (fun x => x.1) (N, (0 : Int)) [] ⟨rfl, rfl, trivial, ⟨.t _, .t _, trivial⟩⟩ h_13 ?_
    rintro ⟨f14_, i2⟩ h_16
    obtain ⟨f14, y15, rfl, hh1, kk1⟩ := loopM_some h_16
    replace hh1 : m_I_validText_b1 N p_s i2 = some y15 := hh1
    unfold m_I_validText_b1 at hh1; (iterate 2 refine PC.seq ?_); refine PC.rg ?_; (iterate 2 refine PL.mT rfl rfl ?_); refine PL.op rfl (Rd.lenSt rfl) ?_; refine PL.op rfl (Rd.lss rfl rfl) ?_; refine PL.nn ?_; rcases cond_some hh1 with ⟨h_17, hh1⟩ | ⟨h_17, hh1⟩; rotate_left
    · refine PC.cf rfl h_17 ?_; refine PC.exit ?_; (iterate 2 refine thA_e ?_); refine inA_eq rfl ?_; refine thA_n ?_; obtain rfl := some_in hh1; obtain rfl : (.inl () : Unit ⊕ Bool) = o12 := kk1; exact ⟨(), hh0, [], ⟨rfl, rfl, trivial, trivial⟩⟩
    refine PC.ct rfl h_17 ?_; refine PC.skip ?_; refine thA_n ?_; refine PC.seq ?_; refine PC.block ?_; refine PC.seq ?_; obtain ⟨c18, h_19, hh1⟩ := bind_some hh1; rcases cond_some hh1 with ⟨h_20, hh1⟩ | ⟨h_20, hh1⟩
    · refine PC.rg ?_; (iterate 2 refine PL.mT rfl rfl ?_); refine PL.op rfl (Rd.ixSM rfl rfl h_19) ?_; refine PL.op rfl (Rd.lssU rfl rfl) ?_; refine PL.mT rfl rfl ?_; (iterate 4 refine PL.gf rfl rfl h_20 ?_); refine PL.op rfl (Rd.pick_t rfl h_20) ?_; refine PL.nn ?_; refine PC.ct rfl rfl ?_; refine PC.seq ?_; refine PC.rg ?_; refine PL.aT rfl rfl ?_; refine PL.nn ?_; refine PC.ret ?_; refine inA_r ?_; (iterate 2 refine thA_r ?_); refine inA_r ?_; refine thA_r ?_; obtain rfl := some_in hh1; obtain rfl : (.inr false : Unit ⊕ Bool) = o12 := kk1; refine thA_r ?_; obtain rfl := some_in hh0; exact FinA.mk (r := bA false) (bl := []) [] (.inl rfl) rfl (rl := [.tmp 2]) (.tmp .nil) rfl rfl rfl (.t _) trivial ⟨rfl, rfl⟩
    obtain ⟨c21, h_22, hh1⟩ := bind_some hh1; refine PC.rg ?_; (iterate 2 refine PL.mT rfl rfl ?_); refine PL.op rfl (Rd.ixSM rfl rfl h_19) ?_; refine PL.op rfl (Rd.lssU rfl rfl) ?_; refine PL.mT rfl rfl ?_; refine PL.gn rfl h_20 ?_; refine PL.mT rfl rfl ?_; refine PL.gn rfl h_20 ?_; refine PL.mT rfl rfl ?_; refine PL.gn rfl h_20 ?_; refine PL.op rfl (Rd.ixSM rfl rfl h_22) ?_; refine PL.gn rfl h_20 ?_; refine PL.op rfl (Rd.gtrU rfl rfl) ?_; refine PL.op rfl (Rd.pick_f rfl h_20) ?_; refine PL.nn ?_; rcases cond_some hh1 with ⟨h_23, hh1⟩ | ⟨h_23, hh1⟩; rotate_left
    · refine PC.cf rfl h_23 ?_; refine PC.skip ?_; refine inA_n ?_; refine thA_n ?_; obtain ⟨n24, h_25, hh1⟩ := bind_some hh1; refine PC.rg ?_; refine PL.mT rfl rfl ?_; refine PL.op rfl (Rd.addM rfl rfl h_25) ?_; refine PL.aT rfl rfl ?_; refine PL.nil ?_; obtain rfl := some_in hh1; refine thA_n ?_; exact ⟨(f14, n24), Nat.lt_succ_self _, kk1, [], ⟨rfl, rfl, trivial, ⟨.t _, .t _, trivial⟩⟩⟩
    refine PC.ct rfl h_23 ?_; refine PC.seq ?_; refine PC.rg ?_; refine PL.aT rfl rfl ?_; refine PL.nn ?_; refine PC.ret ?_; refine inA_r ?_; (iterate 2 refine thA_r ?_); refine inA_r ?_; refine thA_r ?_; obtain rfl := some_in hh1; obtain rfl : (.inr false : Unit ⊕ Bool) = o12 := kk1; refine thA_r ?_; obtain rfl := some_in hh0; exact FinA.mk (r := bA false) (bl := []) [] (.inl rfl) rfl (rl := [.tmp 2]) (.tmp .nil) rfl rfl rfl (.t _) trivial ⟨rfl, rfl⟩
  clear hh0
  rintro ⟨⟩ hh0
  replace hh0 : m_I_validText_k1 N  = some r := hh0
  unfold m_I_validText_k1 at hh0; refine thA_n ?_; refine PC.seq ?_; refine PC.rg ?_; refine PL.aT rfl rfl ?_; refine PL.nn ?_; refine PC.ret ?_; obtain rfl := some_in hh0; exact FinA.mk (r := bA true) (bl := []) [] (.inl rfl) rfl (rl := [.tmp 2]) (.tmp .nil) rfl rfl rfl (.t _) trivial ⟨rfl, rfl⟩
def m_I_ValidValue (N : Nat) (p_v : I_Value) : Option (Bool) :=
  cond (decide (p_v.kind = (0 : Int)))
    (cond (decide (p_v.num = (0 : Int)))
      (some (p_v.text.toList == ByteArray.empty.toList))
      (some false))
    (cond (decide (p_v.kind = (1 : Int)))
      (cond (decide ((-999999 : Int) ≤ p_v.num))
        (cond (decide (p_v.num ≤ (999999 : Int)))
          (some (p_v.text.toList == ByteArray.empty.toList))
          (some false))
        (some false))
      (cond (decide (p_v.kind = (2 : Int)))
        (cond (decide (p_v.num = (0 : Int)))
          ((m_I_validText N p_v.text).bind fun r8 =>
          some r8)
          (some false))
        (some false)))
theorem w_I_ValidValue (N : Nat) (p_v : I_Value) (r : Bool) (hh0 : m_I_ValidValue N p_v = some r) : FnX Try.prog 42 [] [.agg [iA p_v.kind, iA p_v.num, sA p_v.text]] (RE (bA r) []) := by
  unfold m_I_ValidValue at hh0; refine FnX.mk Try.func42 rfl rfl ?_; intro s hs; refine PC.seq ?_; refine PC.rg ?_; refine PL.ef rfl (Ef.box rfl rfl rfl) ?_; refine PL.nm (.op 0 0) [some ⟨.mx [iA p_v.kind, iA p_v.num, sA p_v.text], 42, 0⟩] rfl rfl ?_; refine PL.aT rfl rfl ?_; refine PL.nn ?_; (iterate 2 refine PC.seq ?_); refine PC.rg ?_; refine PL.op rfl (Rd.fieldO rfl rfl) ?_; refine PL.op rfl (Rd.loadO rfl rfl rfl) ?_; refine PL.nn ?_; refine PC.block ?_; refine PC.seq ?_; refine PC.rg ?_; refine PL.op rfl (Rd.eql rfl rfl) ?_; refine PL.aT rfl rfl ?_; refine PL.nn ?_; rcases cond_some hh0 with ⟨h_1, hh0⟩ | ⟨h_1, hh0⟩
  · refine PC.ct rfl h_1 ?_; refine PC.seq ?_; rcases cond_some hh0 with ⟨h_2, hh0⟩ | ⟨h_2, hh0⟩; rotate_left
    · refine PC.rg ?_; refine PL.op rfl (Rd.fieldO rfl rfl) ?_; refine PL.op rfl (Rd.loadO rfl rfl rfl) ?_; refine PL.op rfl (Rd.eql rfl rfl) ?_; refine PL.mT rfl rfl ?_; (iterate 3 refine PL.gf rfl rfl h_2 ?_); refine PL.op rfl (Rd.pick_f rfl h_2) ?_; refine PL.aT rfl rfl ?_; refine PL.nn ?_; refine PC.ret ?_; refine inA_r ?_; refine thA_r ?_; obtain rfl := some_in hh0; exact FinA.mk (r := bA false) (bl := []) [] (.inl rfl) rfl (rl := [.tmp 2]) (.tmp .nil) rfl rfl rfl (.t _) trivial ⟨rfl, rfl⟩
    refine PC.rg ?_; refine PL.op rfl (Rd.fieldO rfl rfl) ?_; refine PL.op rfl (Rd.loadO rfl rfl rfl) ?_; refine PL.op rfl (Rd.eql rfl rfl) ?_; refine PL.mT rfl rfl ?_; refine PL.gn rfl h_2 ?_; refine PL.op rfl (Rd.fieldO rfl rfl) ?_; refine PL.gn rfl h_2 ?_; refine PL.op rfl (Rd.loadO rfl rfl rfl) ?_; refine PL.gn rfl h_2 ?_; refine PL.op rfl (Rd.eqlS rfl rfl) ?_; refine PL.op rfl (Rd.pick_t rfl h_2) ?_; refine PL.aT rfl rfl ?_; refine PL.nn ?_; refine PC.ret ?_; refine inA_r ?_; refine thA_r ?_; obtain rfl := some_in hh0; exact FinA.mk (r := bA (p_v.text.toList == ByteArray.empty.toList)) (bl := []) [] (.inl rfl) rfl (rl := [.tmp 2]) (.tmp .nil) rfl rfl rfl (.t _) trivial ⟨rfl, rfl⟩
  refine PC.cf rfl h_1 ?_; refine PC.seq ?_; refine PC.rg ?_; refine PL.op rfl (Rd.eql rfl rfl) ?_; refine PL.aT rfl rfl ?_; refine PL.nn ?_; rcases cond_some hh0 with ⟨h_3, hh0⟩ | ⟨h_3, hh0⟩; rotate_left
  · refine PC.cf rfl h_3 ?_; refine PC.seq ?_; refine PC.rg ?_; refine PL.op rfl (Rd.eql rfl rfl) ?_; refine PL.aT rfl rfl ?_; refine PL.nn ?_; rcases cond_some hh0 with ⟨h_6, hh0⟩ | ⟨h_6, hh0⟩; rotate_left
    · refine PC.cf rfl h_6 ?_; refine PC.skip ?_; refine inA_n ?_; refine thA_n ?_; refine PC.seq ?_; refine PC.rg ?_; refine PL.aT rfl rfl ?_; refine PL.nn ?_; refine PC.ret ?_; obtain rfl := some_in hh0; exact FinA.mk (r := bA false) (bl := []) [] (.inl rfl) rfl (rl := [.tmp 2]) (.tmp .nil) rfl rfl rfl (.t _) trivial ⟨rfl, rfl⟩
    refine PC.ct rfl h_6 ?_; refine PC.seq ?_; rcases cond_some hh0 with ⟨h_7, hh0⟩ | ⟨h_7, hh0⟩; rotate_left
    · refine PC.rg ?_; refine PL.op rfl (Rd.fieldO rfl rfl) ?_; refine PL.op rfl (Rd.loadO rfl rfl rfl) ?_; refine PL.op rfl (Rd.eql rfl rfl) ?_; refine PL.mT rfl rfl ?_; (iterate 3 refine PL.gf rfl rfl h_7 ?_); refine PL.op rfl (Rd.pick_f rfl h_7) ?_; refine PL.aT rfl rfl ?_; refine PL.nn ?_; refine PC.ret ?_; refine inA_r ?_; refine thA_r ?_; obtain rfl := some_in hh0; exact FinA.mk (r := bA false) (bl := []) [] (.inl rfl) rfl (rl := [.tmp 2]) (.tmp .nil) rfl rfl rfl (.t _) trivial ⟨rfl, rfl⟩
    obtain ⟨r8, h_9, hh0⟩ := bind_some hh0; refine PC.rg ?_; refine PL.op rfl (Rd.fieldO rfl rfl) ?_; refine PL.op rfl (Rd.loadO rfl rfl rfl) ?_; refine PL.op rfl (Rd.eql rfl rfl) ?_; refine PL.mT rfl rfl ?_; refine PL.gn rfl h_7 ?_; refine PL.op rfl (Rd.fieldO rfl rfl) ?_; refine PL.gn rfl h_7 ?_; refine PL.op rfl (Rd.loadO rfl rfl rfl) ?_; refine PL.gn rfl h_7 ?_; refine PL.callM false [] (w_I_validText N p_v.text r8 h_9) rfl Try.call59 rfl ⟨.t _, trivial⟩ rfl trivial (fun h => by cases h) ?_; refine PL.op rfl (Rd.pick_t rfl h_7) ?_; refine PL.aT rfl rfl ?_; refine PL.nn ?_; refine PC.ret ?_; refine inA_r ?_; refine thA_r ?_; obtain rfl := some_in hh0; exact FinA.mk (r := bA r8) (bl := []) [] (.inl rfl) rfl (rl := [.tmp 2]) (.tmp .nil) rfl rfl rfl (.t _) trivial ⟨rfl, rfl⟩
  refine PC.ct rfl h_3 ?_; refine PC.seq ?_; rcases cond_some hh0 with ⟨h_4, hh0⟩ | ⟨h_4, hh0⟩; rotate_left
  · refine PC.rg ?_; refine PL.op rfl (Rd.fieldO rfl rfl) ?_; refine PL.op rfl (Rd.loadO rfl rfl rfl) ?_; refine PL.op rfl (Rd.geq rfl rfl) ?_; refine PL.mT rfl rfl ?_; (iterate 3 refine PL.gf rfl rfl h_4 ?_); refine PL.op rfl (Rd.pick_f rfl h_4) ?_; refine PL.mT rfl rfl ?_; (iterate 3 refine PL.gf rfl rfl rfl ?_); refine PL.op rfl (Rd.pick_f rfl rfl) ?_; refine PL.aT rfl rfl ?_; refine PL.nn ?_; refine PC.ret ?_; refine inA_r ?_; refine thA_r ?_; obtain rfl := some_in hh0; exact FinA.mk (r := bA false) (bl := []) [] (.inl rfl) rfl (rl := [.tmp 2]) (.tmp .nil) rfl rfl rfl (.t _) trivial ⟨rfl, rfl⟩
  rcases cond_some hh0 with ⟨h_5, hh0⟩ | ⟨h_5, hh0⟩; rotate_left
  · refine PC.rg ?_; refine PL.op rfl (Rd.fieldO rfl rfl) ?_; refine PL.op rfl (Rd.loadO rfl rfl rfl) ?_; refine PL.op rfl (Rd.geq rfl rfl) ?_; refine PL.mT rfl rfl ?_; refine PL.gn rfl h_4 ?_; refine PL.op rfl (Rd.fieldO rfl rfl) ?_; refine PL.gn rfl h_4 ?_; refine PL.op rfl (Rd.loadO rfl rfl rfl) ?_; refine PL.gn rfl h_4 ?_; refine PL.op rfl (Rd.leq rfl rfl) ?_; refine PL.op rfl (Rd.pick_t rfl h_4) ?_; refine PL.mT rfl rfl ?_; (iterate 3 refine PL.gf rfl rfl h_5 ?_); refine PL.op rfl (Rd.pick_f rfl h_5) ?_; refine PL.aT rfl rfl ?_; refine PL.nn ?_; refine PC.ret ?_; refine inA_r ?_; refine thA_r ?_; obtain rfl := some_in hh0; exact FinA.mk (r := bA false) (bl := []) [] (.inl rfl) rfl (rl := [.tmp 2]) (.tmp .nil) rfl rfl rfl (.t _) trivial ⟨rfl, rfl⟩
  refine PC.rg ?_; refine PL.op rfl (Rd.fieldO rfl rfl) ?_; refine PL.op rfl (Rd.loadO rfl rfl rfl) ?_; refine PL.op rfl (Rd.geq rfl rfl) ?_; refine PL.mT rfl rfl ?_; refine PL.gn rfl h_4 ?_; refine PL.op rfl (Rd.fieldO rfl rfl) ?_; refine PL.gn rfl h_4 ?_; refine PL.op rfl (Rd.loadO rfl rfl rfl) ?_; refine PL.gn rfl h_4 ?_; refine PL.op rfl (Rd.leq rfl rfl) ?_; refine PL.op rfl (Rd.pick_t rfl h_4) ?_; refine PL.mT rfl rfl ?_; refine PL.gn rfl h_5 ?_; refine PL.op rfl (Rd.fieldO rfl rfl) ?_; refine PL.gn rfl h_5 ?_; refine PL.op rfl (Rd.loadO rfl rfl rfl) ?_; refine PL.gn rfl h_5 ?_; refine PL.op rfl (Rd.eqlS rfl rfl) ?_; refine PL.op rfl (Rd.pick_t rfl h_5) ?_; refine PL.aT rfl rfl ?_; refine PL.nn ?_; refine PC.ret ?_; refine inA_r ?_; refine thA_r ?_; obtain rfl := some_in hh0; exact FinA.mk (r := bA (p_v.text.toList == ByteArray.empty.toList)) (bl := []) [] (.inl rfl) rfl (rl := [.tmp 2]) (.tmp .nil) rfl rfl rfl (.t _) trivial ⟨rfl, rfl⟩
def m_S_inRange (N : Nat) (p_n : Int) (p_low : Int) (p_high : Int) : Option (Bool) :=
  cond (decide (p_low ≤ p_n))
    (some (decide (p_n ≤ p_high)))
    (some false)
theorem w_S_inRange (N : Nat) (p_n : Int) (p_low : Int) (p_high : Int) (r : Bool) (hh0 : m_S_inRange N p_n p_low p_high = some r) : FnX Try.prog 52 [] [iA p_n, iA p_low, iA p_high] (RE (bA r) []) := by
  unfold m_S_inRange at hh0; refine FnX.mk Try.func52 rfl rfl ?_; intro s hs; refine PC.seq ?_; refine PC.rg ?_; refine PL.aT rfl rfl ?_; refine PL.nn ?_; refine PC.seq ?_; rcases cond_some hh0 with ⟨h_1, hh0⟩ | ⟨h_1, hh0⟩; rotate_left
  · refine PC.rg ?_; (iterate 2 refine PL.mT rfl rfl ?_); refine PL.op rfl (Rd.leq rfl rfl) ?_; refine PL.mT rfl rfl ?_; (iterate 3 refine PL.gf rfl rfl h_1 ?_); refine PL.op rfl (Rd.pick_f rfl h_1) ?_; refine PL.aT rfl rfl ?_; refine PL.nn ?_; refine PC.ret ?_; obtain rfl := some_in hh0; exact FinA.mk (r := bA false) (bl := []) [] (.inl rfl) rfl (rl := [.tmp 6]) (.tmp .nil) rfl rfl rfl (.t _) trivial ⟨rfl, rfl⟩
  refine PC.rg ?_; (iterate 2 refine PL.mT rfl rfl ?_); refine PL.op rfl (Rd.leq rfl rfl) ?_; refine PL.mT rfl rfl ?_; refine PL.gn rfl h_1 ?_; refine PL.mT rfl rfl ?_; refine PL.gn rfl h_1 ?_; refine PL.mT rfl rfl ?_; refine PL.gn rfl h_1 ?_; refine PL.op rfl (Rd.leq rfl rfl) ?_; refine PL.op rfl (Rd.pick_t rfl h_1) ?_; refine PL.aT rfl rfl ?_; refine PL.nn ?_; refine PC.ret ?_; obtain rfl := some_in hh0; exact FinA.mk (r := bA (decide (p_n ≤ p_high))) (bl := []) [] (.inl rfl) rfl (rl := [.tmp 6]) (.tmp .nil) rfl rfl rfl (.t _) trivial ⟨rfl, rfl⟩
def m_S_validText_k1 (N : Nat) (p_s : ByteArray) : Option (Bool) :=
  some (decide ((p_s.size : Int) ≤ (12 : Int)))
def m_S_validText_b1 (N : Nat) (p_s : ByteArray) (i1 : Int) : Option (Int ⊕ (Unit ⊕ Bool)) :=
  cond (decide (i1 < (p_s.size : Int)))
    ((ixS p_s i1).bind fun c16 =>
    (m_S_inRange N (c16.toNat : Int) (32 : Int) (126 : Int)).bind fun r18 =>
    cond r18
      ((chk (i1 + (1 : Int))).bind fun n21 =>
      some (.inl n21))
      (some (.inr (.inr false))))
    (some (.inr (.inl ())))
def m_S_validText (N : Nat) (p_s : ByteArray) : Option (Bool) :=
  (loopM (β := Unit ⊕ Bool) (fun s : Int => m_S_validText_b1 N p_s s) N (0 : Int)).bind fun o => match o with
  | .inl e =>
    m_S_validText_k1 N p_s 
  | .inr v =>
    some v
theorem w_S_validText (N : Nat) (p_s : ByteArray) (r : Bool) (hh0 : m_S_validText N p_s = some r) : FnX Try.prog 56 [] [sA p_s] (RE (bA r) []) := by
  unfold m_S_validText at hh0; refine FnX.mk Try.func56 rfl rfl ?_; intro s hs; refine PC.seq ?_; refine PC.rg ?_; refine PL.aT rfl rfl ?_; refine PL.nn ?_; (iterate 2 refine PC.seq ?_); refine PC.rg ?_; refine PL.aT rfl rfl ?_; refine PL.nn ?_; obtain ⟨o10, h_11, hh0⟩ := bind_some hh0; refine PC.cutE hs (fun x : Unit => [(0, sA p_s)]) (fun x => []) (fun x => m_S_validText_k1 N p_s  = some r) ?_ ?_
  · refine PC.block ?_; refine PC.loop hs (fun x : Nat × (Int) => [(0, sA p_s), (3, iA x.2)]) (fun x => []) (fun x => loopM (β := Unit ⊕ Bool) (fun s : Int => m_S_validText_b1 N p_s s) x.1 x.2 = some o10) (fun x => x.1) (N, (0 : Int)) [] ⟨rfl, rfl, trivial, ⟨.t _, .t _, trivial⟩⟩ h_11 ?_
    rintro ⟨f12_, i1⟩ h_14
    obtain ⟨f12, y13, rfl, hh1, kk1⟩ := loopM_some h_14
    replace hh1 : m_S_validText_b1 N p_s i1 = some y13 := hh1
    unfold m_S_validText_b1 at hh1; (iterate 2 refine PC.seq ?_); refine PC.rg ?_; (iterate 2 refine PL.mT rfl rfl ?_); refine PL.op rfl (Rd.lenSt rfl) ?_; refine PL.op rfl (Rd.lss rfl rfl) ?_; refine PL.nn ?_; rcases cond_some hh1 with ⟨h_15, hh1⟩ | ⟨h_15, hh1⟩; rotate_left
    · refine PC.cf rfl h_15 ?_; refine PC.exit ?_; (iterate 2 refine thA_e ?_); refine inA_eq rfl ?_; refine thA_n ?_; obtain rfl := some_in hh1; obtain rfl : (.inl () : Unit ⊕ Bool) = o10 := kk1; exact ⟨(), hh0, [], ⟨rfl, rfl, trivial, ⟨.t _, trivial⟩⟩⟩
    refine PC.ct rfl h_15 ?_; refine PC.skip ?_; refine thA_n ?_; refine PC.seq ?_; refine PC.block ?_; refine PC.seq ?_; obtain ⟨c16, h_17, hh1⟩ := bind_some hh1; obtain ⟨r18, h_19, hh1⟩ := bind_some hh1; refine PC.rg ?_; (iterate 2 refine PL.mT rfl rfl ?_); refine PL.op rfl (Rd.ixSM rfl rfl h_17) ?_; refine PL.op rfl (Rd.u8 rfl) ?_; refine PL.callM false [] (w_S_inRange N (c16.toNat : Int) (32 : Int) (126 : Int) r18 h_19) rfl Try.call52 rfl ⟨.t _, .t _, .t _, trivial⟩ rfl trivial (fun h => by cases h) ?_; refine PL.op rfl (Rd.unnot rfl) ?_; refine PL.nn ?_; rcases cond_some hh1 with ⟨h_20, hh1⟩ | ⟨h_20, hh1⟩
    · refine PC.cf rfl (not_t h_20) ?_; refine PC.skip ?_; refine inA_n ?_; refine thA_n ?_; obtain ⟨n21, h_22, hh1⟩ := bind_some hh1; refine PC.rg ?_; refine PL.mT rfl rfl ?_; refine PL.op rfl (Rd.addM rfl rfl h_22) ?_; refine PL.aT rfl rfl ?_; refine PL.nil ?_; obtain rfl := some_in hh1; refine thA_n ?_; exact ⟨(f12, n21), Nat.lt_succ_self _, kk1, [], ⟨rfl, rfl, trivial, ⟨.t _, .t _, trivial⟩⟩⟩
    refine PC.ct rfl (not_f h_20) ?_; refine PC.seq ?_; refine PC.rg ?_; refine PL.aT rfl rfl ?_; refine PL.nn ?_; refine PC.ret ?_; refine inA_r ?_; (iterate 2 refine thA_r ?_); refine inA_r ?_; refine thA_r ?_; obtain rfl := some_in hh1; obtain rfl : (.inr false : Unit ⊕ Bool) = o10 := kk1; refine thA_r ?_; obtain rfl := some_in hh0; exact FinA.mk (r := bA false) (bl := []) [] (.inl rfl) rfl (rl := [.tmp 2]) (.tmp .nil) rfl rfl rfl (.t _) trivial ⟨rfl, rfl⟩
  clear hh0
  rintro ⟨⟩ hh0
  replace hh0 : m_S_validText_k1 N p_s  = some r := hh0
  unfold m_S_validText_k1 at hh0; refine thA_n ?_; refine PC.seq ?_; refine PC.rg ?_; refine PL.mT rfl rfl ?_; refine PL.op rfl (Rd.lenSt rfl) ?_; refine PL.op rfl (Rd.leq rfl rfl) ?_; refine PL.aT rfl rfl ?_; refine PL.nn ?_; refine PC.ret ?_; obtain rfl := some_in hh0; exact FinA.mk (r := bA (decide ((p_s.size : Int) ≤ (12 : Int)))) (bl := []) [] (.inl rfl) rfl (rl := [.tmp 2]) (.tmp .nil) rfl rfl rfl (.t _) trivial ⟨rfl, rfl⟩
def m_S_validValue (N : Nat) (p_v : I_Value) : Option (Bool) :=
  cond (decide (p_v.kind = (0 : Int)))
    (cond (decide (p_v.num = (0 : Int)))
      (some (p_v.text.toList == ByteArray.empty.toList))
      (some false))
    (cond (decide (p_v.kind = (1 : Int)))
      ((m_S_inRange N p_v.num (-999999 : Int) (999999 : Int)).bind fun r4 =>
      cond r4
        (some (p_v.text.toList == ByteArray.empty.toList))
        (some false))
      (cond (decide (p_v.kind = (2 : Int)))
        (cond (decide (p_v.num = (0 : Int)))
          ((m_S_validText N p_v.text).bind fun r9 =>
          some r9)
          (some false))
        (some false)))
theorem w_S_validValue (N : Nat) (p_v : I_Value) (r : Bool) (hh0 : m_S_validValue N p_v = some r) : FnX Try.prog 38 [] [.agg [iA p_v.kind, iA p_v.num, sA p_v.text]] (RE (bA r) []) := by
  unfold m_S_validValue at hh0; refine FnX.mk Try.func38 rfl rfl ?_; intro s hs; refine PC.seq ?_; refine PC.rg ?_; refine PL.ef rfl (Ef.box rfl rfl rfl) ?_; refine PL.nm (.op 0 0) [some ⟨.mx [iA p_v.kind, iA p_v.num, sA p_v.text], 42, 0⟩] rfl rfl ?_; refine PL.aT rfl rfl ?_; refine PL.nn ?_; (iterate 2 refine PC.seq ?_); refine PC.rg ?_; refine PL.op rfl (Rd.fieldO rfl rfl) ?_; refine PL.op rfl (Rd.loadO rfl rfl rfl) ?_; refine PL.nn ?_; refine PC.block ?_; refine PC.seq ?_; refine PC.rg ?_; refine PL.op rfl (Rd.eql rfl rfl) ?_; refine PL.aT rfl rfl ?_; refine PL.nn ?_; rcases cond_some hh0 with ⟨h_1, hh0⟩ | ⟨h_1, hh0⟩
  · refine PC.ct rfl h_1 ?_; refine PC.seq ?_; rcases cond_some hh0 with ⟨h_2, hh0⟩ | ⟨h_2, hh0⟩; rotate_left
    · refine PC.rg ?_; refine PL.op rfl (Rd.fieldO rfl rfl) ?_; refine PL.op rfl (Rd.loadO rfl rfl rfl) ?_; refine PL.op rfl (Rd.eql rfl rfl) ?_; refine PL.mT rfl rfl ?_; (iterate 3 refine PL.gf rfl rfl h_2 ?_); refine PL.op rfl (Rd.pick_f rfl h_2) ?_; refine PL.aT rfl rfl ?_; refine PL.nn ?_; refine PC.ret ?_; refine inA_r ?_; refine thA_r ?_; obtain rfl := some_in hh0; exact FinA.mk (r := bA false) (bl := []) [] (.inl rfl) rfl (rl := [.tmp 2]) (.tmp .nil) rfl rfl rfl (.t _) trivial ⟨rfl, rfl⟩
    refine PC.rg ?_; refine PL.op rfl (Rd.fieldO rfl rfl) ?_; refine PL.op rfl (Rd.loadO rfl rfl rfl) ?_; refine PL.op rfl (Rd.eql rfl rfl) ?_; refine PL.mT rfl rfl ?_; refine PL.gn rfl h_2 ?_; refine PL.op rfl (Rd.fieldO rfl rfl) ?_; refine PL.gn rfl h_2 ?_; refine PL.op rfl (Rd.loadO rfl rfl rfl) ?_; refine PL.gn rfl h_2 ?_; refine PL.op rfl (Rd.eqlS rfl rfl) ?_; refine PL.op rfl (Rd.pick_t rfl h_2) ?_; refine PL.aT rfl rfl ?_; refine PL.nn ?_; refine PC.ret ?_; refine inA_r ?_; refine thA_r ?_; obtain rfl := some_in hh0; exact FinA.mk (r := bA (p_v.text.toList == ByteArray.empty.toList)) (bl := []) [] (.inl rfl) rfl (rl := [.tmp 2]) (.tmp .nil) rfl rfl rfl (.t _) trivial ⟨rfl, rfl⟩
  refine PC.cf rfl h_1 ?_; refine PC.seq ?_; refine PC.rg ?_; refine PL.op rfl (Rd.eql rfl rfl) ?_; refine PL.aT rfl rfl ?_; refine PL.nn ?_; rcases cond_some hh0 with ⟨h_3, hh0⟩ | ⟨h_3, hh0⟩
  · refine PC.ct rfl h_3 ?_; refine PC.seq ?_; obtain ⟨r4, h_5, hh0⟩ := bind_some hh0; rcases cond_some hh0 with ⟨h_6, hh0⟩ | ⟨h_6, hh0⟩; rotate_left
    · refine PC.rg ?_; refine PL.op rfl (Rd.fieldO rfl rfl) ?_; refine PL.op rfl (Rd.loadO rfl rfl rfl) ?_; refine PL.callM false [] (w_S_inRange N p_v.num (-999999 : Int) (999999 : Int) r4 h_5) rfl Try.call52 rfl ⟨.t _, .t _, .t _, trivial⟩ rfl trivial (fun h => by cases h) ?_; refine PL.mT rfl rfl ?_; (iterate 3 refine PL.gf rfl rfl h_6 ?_); refine PL.op rfl (Rd.pick_f rfl h_6) ?_; refine PL.aT rfl rfl ?_; refine PL.nn ?_; refine PC.ret ?_; refine inA_r ?_; refine thA_r ?_; obtain rfl := some_in hh0; exact FinA.mk (r := bA false) (bl := []) [] (.inl rfl) rfl (rl := [.tmp 2]) (.tmp .nil) rfl rfl rfl (.t _) trivial ⟨rfl, rfl⟩
    refine PC.rg ?_; refine PL.op rfl (Rd.fieldO rfl rfl) ?_; refine PL.op rfl (Rd.loadO rfl rfl rfl) ?_; refine PL.callM false [] (w_S_inRange N p_v.num (-999999 : Int) (999999 : Int) r4 h_5) rfl Try.call52 rfl ⟨.t _, .t _, .t _, trivial⟩ rfl trivial (fun h => by cases h) ?_; refine PL.mT rfl rfl ?_; refine PL.gn rfl h_6 ?_; refine PL.op rfl (Rd.fieldO rfl rfl) ?_; refine PL.gn rfl h_6 ?_; refine PL.op rfl (Rd.loadO rfl rfl rfl) ?_; refine PL.gn rfl h_6 ?_; refine PL.op rfl (Rd.eqlS rfl rfl) ?_; refine PL.op rfl (Rd.pick_t rfl h_6) ?_; refine PL.aT rfl rfl ?_; refine PL.nn ?_; refine PC.ret ?_; refine inA_r ?_; refine thA_r ?_; obtain rfl := some_in hh0; exact FinA.mk (r := bA (p_v.text.toList == ByteArray.empty.toList)) (bl := []) [] (.inl rfl) rfl (rl := [.tmp 2]) (.tmp .nil) rfl rfl rfl (.t _) trivial ⟨rfl, rfl⟩
  refine PC.cf rfl h_3 ?_; refine PC.seq ?_; refine PC.rg ?_; refine PL.op rfl (Rd.eql rfl rfl) ?_; refine PL.aT rfl rfl ?_; refine PL.nn ?_; rcases cond_some hh0 with ⟨h_7, hh0⟩ | ⟨h_7, hh0⟩; rotate_left
  · refine PC.cf rfl h_7 ?_; refine PC.skip ?_; refine inA_n ?_; refine thA_n ?_; refine PC.seq ?_; refine PC.rg ?_; refine PL.aT rfl rfl ?_; refine PL.nn ?_; refine PC.ret ?_; obtain rfl := some_in hh0; exact FinA.mk (r := bA false) (bl := []) [] (.inl rfl) rfl (rl := [.tmp 2]) (.tmp .nil) rfl rfl rfl (.t _) trivial ⟨rfl, rfl⟩
  refine PC.ct rfl h_7 ?_; refine PC.seq ?_; rcases cond_some hh0 with ⟨h_8, hh0⟩ | ⟨h_8, hh0⟩; rotate_left
  · refine PC.rg ?_; refine PL.op rfl (Rd.fieldO rfl rfl) ?_; refine PL.op rfl (Rd.loadO rfl rfl rfl) ?_; refine PL.op rfl (Rd.eql rfl rfl) ?_; refine PL.mT rfl rfl ?_; (iterate 3 refine PL.gf rfl rfl h_8 ?_); refine PL.op rfl (Rd.pick_f rfl h_8) ?_; refine PL.aT rfl rfl ?_; refine PL.nn ?_; refine PC.ret ?_; refine inA_r ?_; refine thA_r ?_; obtain rfl := some_in hh0; exact FinA.mk (r := bA false) (bl := []) [] (.inl rfl) rfl (rl := [.tmp 2]) (.tmp .nil) rfl rfl rfl (.t _) trivial ⟨rfl, rfl⟩
  obtain ⟨r9, h_10, hh0⟩ := bind_some hh0; refine PC.rg ?_; refine PL.op rfl (Rd.fieldO rfl rfl) ?_; refine PL.op rfl (Rd.loadO rfl rfl rfl) ?_; refine PL.op rfl (Rd.eql rfl rfl) ?_; refine PL.mT rfl rfl ?_; refine PL.gn rfl h_8 ?_; refine PL.op rfl (Rd.fieldO rfl rfl) ?_; refine PL.gn rfl h_8 ?_; refine PL.op rfl (Rd.loadO rfl rfl rfl) ?_; refine PL.gn rfl h_8 ?_; refine PL.callM false [] (w_S_validText N p_v.text r9 h_10) rfl Try.call56 rfl ⟨.t _, trivial⟩ rfl trivial (fun h => by cases h) ?_; refine PL.op rfl (Rd.pick_t rfl h_8) ?_; refine PL.aT rfl rfl ?_; refine PL.nn ?_; refine PC.ret ?_; refine inA_r ?_; refine thA_r ?_; obtain rfl := some_in hh0; exact FinA.mk (r := bA r9) (bl := []) [] (.inl rfl) rfl (rl := [.tmp 2]) (.tmp .nil) rfl rfl rfl (.t _) trivial ⟨rfl, rfl⟩
def m_S_validColumn (N : Nat) (p_c : I_Column) : Option (Bool) :=
  (m_S_inRange N p_c.kind (1 : Int) (2 : Int)).bind fun r1 =>
  cond r1
    ((m_S_validValue N p_c.default).bind fun r4 =>
    cond r4
      (cond (decide (p_c.default.kind = (0 : Int)))
        (some true)
        (some (decide (p_c.default.kind = p_c.kind))))
      (some false))
    (some false)
theorem w_S_validColumn (N : Nat) (p_c : I_Column) (r : Bool) (hh0 : m_S_validColumn N p_c = some r) : FnX Try.prog 108 [] [.agg [iA p_c.kind, iA p_c.default.kind, iA p_c.default.num, sA p_c.default.text]] (RE (bA r) []) := by
  unfold m_S_validColumn at hh0; refine FnX.mk Try.func108 rfl rfl ?_; intro s hs; refine PC.seq ?_; refine PC.rg ?_; refine PL.ef rfl (Ef.box rfl rfl rfl) ?_; refine PL.nm (.op 0 0) [some ⟨.mx [iA p_c.kind, iA p_c.default.kind, iA p_c.default.num, sA p_c.default.text], 138, 0⟩] rfl rfl ?_; refine PL.aT rfl rfl ?_; refine PL.nn ?_; refine PC.seq ?_; obtain ⟨r1, h_2, hh0⟩ := bind_some hh0; rcases cond_some hh0 with ⟨h_3, hh0⟩ | ⟨h_3, hh0⟩; rotate_left
  · refine PC.rg ?_; refine PL.op rfl (Rd.fieldO rfl rfl) ?_; refine PL.op rfl (Rd.loadO rfl rfl rfl) ?_; refine PL.callM false [] (w_S_inRange N p_c.kind (1 : Int) (2 : Int) r1 h_2) rfl Try.call52 rfl ⟨.t _, .t _, .t _, trivial⟩ rfl trivial (fun h => by cases h) ?_; refine PL.mT rfl rfl ?_; (iterate 3 refine PL.gf rfl rfl h_3 ?_); refine PL.op rfl (Rd.pick_f rfl h_3) ?_; refine PL.mT rfl rfl ?_; (iterate 5 refine PL.gf rfl rfl rfl ?_); (iterate 6 refine PL.guard_un rfl rfl ?_); refine PL.gf rfl rfl rfl ?_; refine PL.op rfl (Rd.pick_f rfl rfl) ?_; refine PL.aT rfl rfl ?_; refine PL.nn ?_; refine PC.ret ?_; obtain rfl := some_in hh0; exact FinA.mk (r := bA false) (bl := []) [] (.inl rfl) rfl (rl := [.tmp 2]) (.tmp .nil) rfl rfl rfl (.t _) trivial ⟨rfl, rfl⟩
  obtain ⟨r4, h_5, hh0⟩ := bind_some hh0; rcases cond_some hh0 with ⟨h_6, hh0⟩ | ⟨h_6, hh0⟩; rotate_left
  · refine PC.rg ?_; refine PL.op rfl (Rd.fieldO rfl rfl) ?_; refine PL.op rfl (Rd.loadO rfl rfl rfl) ?_; refine PL.callM false [] (w_S_inRange N p_c.kind (1 : Int) (2 : Int) r1 h_2) rfl Try.call52 rfl ⟨.t _, .t _, .t _, trivial⟩ rfl trivial (fun h => by cases h) ?_; refine PL.mT rfl rfl ?_; refine PL.gn rfl h_3 ?_; refine PL.op rfl (Rd.fieldO rfl rfl) ?_; refine PL.gn rfl h_3 ?_; refine PL.op rfl (Rd.loadSub rfl rfl rfl rfl) ?_; refine PL.gn rfl h_3 ?_; refine PL.callM false [] (w_S_validValue N p_c.default r4 h_5) rfl Try.call38 rfl ⟨.aggL ⟨.t _, .t _, .t _, trivial⟩, trivial⟩ rfl trivial (fun h => by cases h) ?_; refine PL.op rfl (Rd.pick_t rfl h_3) ?_; refine PL.mT rfl rfl ?_; (iterate 5 refine PL.gf rfl rfl h_6 ?_); (iterate 6 refine PL.guard_un rfl rfl ?_); refine PL.gf rfl rfl h_6 ?_; refine PL.op rfl (Rd.pick_f rfl h_6) ?_; refine PL.aT rfl rfl ?_; refine PL.nn ?_; refine PC.ret ?_; obtain rfl := some_in hh0; exact FinA.mk (r := bA false) (bl := []) [] (.inl rfl) rfl (rl := [.tmp 2]) (.tmp .nil) rfl rfl rfl (.t _) trivial ⟨rfl, rfl⟩
  rcases cond_some hh0 with ⟨h_7, hh0⟩ | ⟨h_7, hh0⟩
  · refine PC.rg ?_; refine PL.op rfl (Rd.fieldO rfl rfl) ?_; refine PL.op rfl (Rd.loadO rfl rfl rfl) ?_; refine PL.callM false [] (w_S_inRange N p_c.kind (1 : Int) (2 : Int) r1 h_2) rfl Try.call52 rfl ⟨.t _, .t _, .t _, trivial⟩ rfl trivial (fun h => by cases h) ?_; refine PL.mT rfl rfl ?_; refine PL.gn rfl h_3 ?_; refine PL.op rfl (Rd.fieldO rfl rfl) ?_; refine PL.gn rfl h_3 ?_; refine PL.op rfl (Rd.loadSub rfl rfl rfl rfl) ?_; refine PL.gn rfl h_3 ?_; refine PL.callM false [] (w_S_validValue N p_c.default r4 h_5) rfl Try.call38 rfl ⟨.aggL ⟨.t _, .t _, .t _, trivial⟩, trivial⟩ rfl trivial (fun h => by cases h) ?_; refine PL.op rfl (Rd.pick_t rfl h_3) ?_; refine PL.mT rfl rfl ?_; refine PL.gn rfl h_6 ?_; refine PL.op rfl (Rd.fieldO rfl rfl) ?_; refine PL.gn rfl h_6 ?_; refine PL.op rfl (Rd.fieldO rfl rfl) ?_; refine PL.gn rfl h_6 ?_; refine PL.op rfl (Rd.loadO rfl rfl rfl) ?_; refine PL.gn rfl h_6 ?_; refine PL.op rfl (Rd.eql rfl rfl) ?_; refine PL.gn rfl h_6 ?_; refine PL.mT rfl rfl ?_; (iterate 6 refine PL.gf rfl rfl h_7 ?_); refine PL.gn rfl h_6 ?_; refine PL.op rfl (Rd.pick_t rfl h_7) ?_; refine PL.op rfl (Rd.pick_t rfl h_6) ?_; refine PL.aT rfl rfl ?_; refine PL.nn ?_; refine PC.ret ?_; obtain rfl := some_in hh0; exact FinA.mk (r := bA true) (bl := []) [] (.inl rfl) rfl (rl := [.tmp 2]) (.tmp .nil) rfl rfl rfl (.t _) trivial ⟨rfl, rfl⟩
  refine PC.rg ?_; refine PL.op rfl (Rd.fieldO rfl rfl) ?_; refine PL.op rfl (Rd.loadO rfl rfl rfl) ?_; refine PL.callM false [] (w_S_inRange N p_c.kind (1 : Int) (2 : Int) r1 h_2) rfl Try.call52 rfl ⟨.t _, .t _, .t _, trivial⟩ rfl trivial (fun h => by cases h) ?_; refine PL.mT rfl rfl ?_; refine PL.gn rfl h_3 ?_; refine PL.op rfl (Rd.fieldO rfl rfl) ?_; refine PL.gn rfl h_3 ?_; refine PL.op rfl (Rd.loadSub rfl rfl rfl rfl) ?_; refine PL.gn rfl h_3 ?_; refine PL.callM false [] (w_S_validValue N p_c.default r4 h_5) rfl Try.call38 rfl ⟨.aggL ⟨.t _, .t _, .t _, trivial⟩, trivial⟩ rfl trivial (fun h => by cases h) ?_; refine PL.op rfl (Rd.pick_t rfl h_3) ?_; refine PL.mT rfl rfl ?_; refine PL.gn rfl h_6 ?_; refine PL.op rfl (Rd.fieldO rfl rfl) ?_; refine PL.gn rfl h_6 ?_; refine PL.op rfl (Rd.fieldO rfl rfl) ?_; refine PL.gn rfl h_6 ?_; refine PL.op rfl (Rd.loadO rfl rfl rfl) ?_; refine PL.gn rfl h_6 ?_; refine PL.op rfl (Rd.eql rfl rfl) ?_; refine PL.gn rfl h_6 ?_; refine PL.mT rfl rfl ?_; refine PL.gn rfl h_7 ?_; refine PL.op rfl (Rd.fieldO rfl rfl) ?_; refine PL.gn rfl h_7 ?_; refine PL.op rfl (Rd.fieldO rfl rfl) ?_; refine PL.gn rfl h_7 ?_; refine PL.op rfl (Rd.loadO rfl rfl rfl) ?_; refine PL.gn rfl h_7 ?_; refine PL.op rfl (Rd.fieldO rfl rfl) ?_; refine PL.gn rfl h_7 ?_; refine PL.op rfl (Rd.loadO rfl rfl rfl) ?_; refine PL.gn rfl h_7 ?_; refine PL.op rfl (Rd.eql rfl rfl) ?_; refine PL.gn rfl h_6 ?_; refine PL.op rfl (Rd.pick_f rfl h_7) ?_; refine PL.op rfl (Rd.pick_t rfl h_6) ?_; refine PL.aT rfl rfl ?_; refine PL.nn ?_; refine PC.ret ?_; obtain rfl := some_in hh0; exact FinA.mk (r := bA (decide (p_c.default.kind = p_c.kind))) (bl := []) [] (.inl rfl) rfl (rl := [.tmp 2]) (.tmp .nil) rfl rfl rfl (.t _) trivial ⟨rfl, rfl⟩
def m_S_validFormat_k1 (N : Nat) (p_f : (List I_Column)) : Option (Bool) :=
  (m_S_inRange N (p_f.length : Int) (1 : Int) (5 : Int)).bind fun r15 =>
  some r15
def m_S_validFormat_b1 (N : Nat) (p_f : (List I_Column)) (i1 : Int) : Option (Int ⊕ (Unit ⊕ Bool)) :=
  cond (decide (i1 < (p_f.length : Int)))
    ((ixI p_f i1).bind fun x18 =>
    (m_S_validColumn N x18).bind fun r20 =>
    cond r20
      ((chk (i1 + (1 : Int))).bind fun n23 =>
      some (.inl n23))
      (some (.inr (.inr false))))
    (some (.inr (.inl ())))
def m_S_validFormat (N : Nat) (p_f : (List I_Column)) : Option (Bool) :=
  (loopM (β := Unit ⊕ Bool) (fun s : Int => m_S_validFormat_b1 N p_f s) N (0 : Int)).bind fun o => match o with
  | .inl e =>
    m_S_validFormat_k1 N p_f 
  | .inr v =>
    some v
theorem w_S_validFormat (N : Nat) (p_f : (List I_Column)) (r : Bool) (hh0 : m_S_validFormat N p_f = some r) : FnX Try.prog 103 [] [sL p_f] (RE (bA r) []) := by
  unfold m_S_validFormat at hh0; refine FnX.mk Try.func103 rfl rfl ?_; intro s hs; refine PC.seq ?_; refine PC.rg ?_; refine PL.aT rfl rfl ?_; refine PL.nn ?_; (iterate 2 refine PC.seq ?_); refine PC.rg ?_; refine PL.aT rfl rfl ?_; refine PL.nn ?_; obtain ⟨o10, h_11, hh0⟩ := bind_some hh0; refine PC.cutE hs (fun x : Unit => [(0, sL p_f)]) (fun x => []) (fun x => m_S_validFormat_k1 N p_f  = some r) ?_ ?_
  · refine PC.block ?_; refine PC.loop hs (fun x : Nat × (Int) => [(0, sL p_f), (3, iA x.2)]) (fun x => []) (fun x => loopM (β := Unit ⊕ Bool) (fun s : Int => m_S_validFormat_b1 N p_f s) x.1 x.2 = some o10) (fun x => x.1) (N, (0 : Int)) [] ⟨rfl, rfl, trivial, ⟨.t _, .t _, trivial⟩⟩ h_11 ?_
    rintro ⟨f12_, i1⟩ h_14
    obtain ⟨f12, y13, rfl, hh1, kk1⟩ := loopM_some h_14
    replace hh1 : m_S_validFormat_b1 N p_f i1 = some y13 := hh1
    unfold m_S_validFormat_b1 at hh1; (iterate 2 refine PC.seq ?_); refine PC.rg ?_; (iterate 2 refine PL.mT rfl rfl ?_); refine PL.op rfl (Rd.lenT rfl) ?_; refine PL.op rfl (Rd.lss rfl rfl) ?_; refine PL.nn ?_; rcases cond_some hh1 with ⟨h_17, hh1⟩ | ⟨h_17, hh1⟩; rotate_left
    · refine PC.cf rfl h_17 ?_; refine PC.exit ?_; (iterate 2 refine thA_e ?_); refine inA_eq rfl ?_; refine thA_n ?_; obtain rfl := some_in hh1; obtain rfl : (.inl () : Unit ⊕ Bool) = o10 := kk1; exact ⟨(), hh0, [], ⟨rfl, rfl, trivial, ⟨.t _, trivial⟩⟩⟩
    refine PC.ct rfl h_17 ?_; refine PC.skip ?_; refine thA_n ?_; refine PC.seq ?_; refine PC.block ?_; refine PC.seq ?_; obtain ⟨x18, h_19, hh1⟩ := bind_some hh1; obtain ⟨r20, h_21, hh1⟩ := bind_some hh1; refine PC.rg ?_; (iterate 2 refine PL.mT rfl rfl ?_); refine PL.op rfl (Rd.ixM rfl rfl h_19) ?_; refine PL.op rfl (Rd.elMR rfl h_19 rfl rfl) ?_; refine PL.callM false [] (w_S_validColumn N x18 r20 h_21) rfl Try.call108 rfl ⟨.aggL ⟨.t _, .t _, .t _, .t _, trivial⟩, trivial⟩ rfl trivial (fun h => by cases h) ?_; refine PL.op rfl (Rd.unnot rfl) ?_; refine PL.nn ?_; rcases cond_some hh1 with ⟨h_22, hh1⟩ | ⟨h_22, hh1⟩
    · refine PC.cf rfl (not_t h_22) ?_; refine PC.skip ?_; refine inA_n ?_; refine thA_n ?_; obtain ⟨n23, h_24, hh1⟩ := bind_some hh1; refine PC.rg ?_; refine PL.mT rfl rfl ?_; refine PL.op rfl (Rd.addM rfl rfl h_24) ?_; refine PL.aT rfl rfl ?_; refine PL.nil ?_; obtain rfl := some_in hh1; refine thA_n ?_; exact ⟨(f12, n23), Nat.lt_succ_self _, kk1, [], ⟨rfl, rfl, trivial, ⟨.t _, .t _, trivial⟩⟩⟩
    refine PC.ct rfl (not_f h_22) ?_; refine PC.seq ?_; refine PC.rg ?_; refine PL.aT rfl rfl ?_; refine PL.nn ?_; refine PC.ret ?_; refine inA_r ?_; (iterate 2 refine thA_r ?_); refine inA_r ?_; refine thA_r ?_; obtain rfl := some_in hh1; obtain rfl : (.inr false : Unit ⊕ Bool) = o10 := kk1; refine thA_r ?_; obtain rfl := some_in hh0; exact FinA.mk (r := bA false) (bl := []) [] (.inl rfl) rfl (rl := [.tmp 2]) (.tmp .nil) rfl rfl rfl (.t _) trivial ⟨rfl, rfl⟩
  clear hh0
  rintro ⟨⟩ hh0
  replace hh0 : m_S_validFormat_k1 N p_f  = some r := hh0
  unfold m_S_validFormat_k1 at hh0; refine thA_n ?_; refine PC.seq ?_; obtain ⟨r15, h_16, hh0⟩ := bind_some hh0; refine PC.rg ?_; refine PL.mT rfl rfl ?_; refine PL.op rfl (Rd.lenT rfl) ?_; refine PL.callM false [] (w_S_inRange N (p_f.length : Int) (1 : Int) (5 : Int) r15 h_16) rfl Try.call52 rfl ⟨.t _, .t _, .t _, trivial⟩ rfl trivial (fun h => by cases h) ?_; refine PL.aT rfl rfl ?_; refine PL.nn ?_; refine PC.ret ?_; obtain rfl := some_in hh0; exact FinA.mk (r := bA r15) (bl := []) [] (.inl rfl) rfl (rl := [.tmp 2]) (.tmp .nil) rfl rfl rfl (.t _) trivial ⟨rfl, rfl⟩
def m_S_copyColumns (N : Nat) (p_f : (List I_Column)) : Option ((List I_Column)) :=
  (appM 40 ([] : List I_Column) p_f).bind fun xs1 =>
  some xs1
theorem w_S_copyColumns (N : Nat) (p_f : (List I_Column)) (r : (List I_Column)) (hh0 : m_S_copyColumns N p_f = some r) : FnX Try.prog 100 [] [sL p_f] (RE (.os 0 0 r.length) [⟨.tr (eL r), 138, 4⟩]) := by
  unfold m_S_copyColumns at hh0; refine FnX.mk Try.func100 rfl rfl ?_; intro s hs; refine PC.seq ?_; refine PC.rg ?_; refine PL.aT rfl rfl ?_; refine PL.nn ?_; refine PC.seq ?_; obtain ⟨xs1, h_2, hh0⟩ := bind_some hh0; refine PC.rg ?_; refine PL.ef rfl (Ef.lit0M I_Column) ?_; refine PL.nm (.os 0 0 0) [some ⟨.tr (eL ([] : List I_Column)), 138, 4⟩] rfl rfl ?_; refine PL.mT rfl rfl ?_; refine PL.apM hs rfl rfl rfl rfl (SrcA.eL rfl) rfl rfl rfl rfl h_2 ?_; refine PL.nm (.os 1 0 xs1.length) [none, some ⟨.tr (eL xs1), 138, 4⟩] rfl rfl ?_; refine PL.op rfl (Rd.asnO rfl) ?_; refine PL.nn ?_; refine PC.ret ?_; obtain rfl := some_in hh0; exact FinA.mk (r := .os 0 0 xs1.length) (bl := [⟨.tr (eL xs1), 138, 4⟩]) [some 1] (.inl rfl) rfl (rl := [.tmp 2]) (.tmp .nil) rfl rfl rfl (.os rfl) ⟨⟨_, rfl, rfl, rfl, .tr _⟩, trivial⟩ ⟨rfl, rfl⟩
def m_S_decimal : Nat → Int → Option (ByteArray)
  | 0, _ => none
  | N + 1, p_n =>
    cond (decide (p_n < (0 : Int)))
      ((chk (-p_n)).bind fun n2 =>
      cond (decide (p_n = n2))
        (some (ByteArray.mk #[45, 57, 50, 50, 51, 51, 55, 50, 48, 51, 54, 56, 53, 52, 55, 55, 53, 56, 48, 56]))
        ((chk (-p_n)).bind fun n5 =>
        (m_S_decimal N n5).bind fun r7 =>
        (addS (ByteArray.mk #[45]) r7).bind fun s9 =>
        some s9))
      (cond (decide (p_n < (10 : Int)))
        ((chk ((48 : Int) + p_n)).bind fun n12 =>
        some (b2s [(i2b n12)]))
        ((quoM p_n (10 : Int)).bind fun n14 =>
        (m_S_decimal N n14).bind fun r16 =>
        (remM p_n (10 : Int)).bind fun n18 =>
        (chk ((48 : Int) + n18)).bind fun n20 =>
        (addS r16 (b2s [(i2b n20)])).bind fun s22 =>
        some s22))
theorem w_S_decimal : ∀ (N : Nat) (p_n : Int) (r : ByteArray) (hh0 : m_S_decimal N p_n = some r), FnX Try.prog 111 [] [iA p_n] (RE (sA r) []) := by
  intro N
  induction N with
  | zero =>
    intro p_n r hh0
    simp [m_S_decimal] at hh0
  | succ N ih =>
    intro p_n r hh0; unfold m_S_decimal at hh0; refine FnX.mk Try.func111 rfl rfl ?_; intro s hs; refine PC.seq ?_; refine PC.rg ?_; refine PL.aT rfl rfl ?_; refine PL.nn ?_; (iterate 2 refine PC.seq ?_); rcases cond_some hh0 with ⟨h_1, hh0⟩ | ⟨h_1, hh0⟩
    · obtain ⟨n2, h_3, hh0⟩ := bind_some hh0; refine PC.rg ?_; refine PL.mT rfl rfl ?_; refine PL.op rfl (Rd.lss rfl rfl) ?_; refine PL.mT rfl rfl ?_; refine PL.gn rfl h_1 ?_; refine PL.mT rfl rfl ?_; refine PL.gn rfl h_1 ?_; refine PL.mT rfl rfl ?_; refine PL.gn rfl h_1 ?_; refine PL.op rfl (Rd.negM rfl h_3) ?_; refine PL.gn rfl h_1 ?_; refine PL.op rfl (Rd.eql rfl rfl) ?_; refine PL.op rfl (Rd.pick_t rfl h_1) ?_; refine PL.nn ?_; rcases cond_some hh0 with ⟨h_4, hh0⟩ | ⟨h_4, hh0⟩
      · refine PC.ct rfl h_4 ?_; refine PC.seq ?_; refine PC.rg ?_; refine PL.aT rfl rfl ?_; refine PL.nn ?_; refine PC.ret ?_; refine thA_r ?_; obtain rfl := some_in hh0; exact FinA.mk (r := sA (ByteArray.mk #[45, 57, 50, 50, 51, 51, 55, 50, 48, 51, 54, 56, 53, 52, 55, 55, 53, 56, 48, 56])) (bl := []) [] (.inl rfl) rfl (rl := [.tmp 2]) (.tmp .nil) rfl rfl rfl (.t _) trivial ⟨rfl, rfl⟩
      refine PC.cf rfl h_4 ?_; refine PC.skip ?_; refine thA_n ?_; (iterate 2 refine PC.seq ?_); refine PC.rg ?_; refine PL.mT rfl rfl ?_; refine PL.op rfl (Rd.lss rfl rfl) ?_; refine PL.nn ?_; refine PC.ct rfl h_1 ?_; refine PC.seq ?_; obtain ⟨n5, h_6, hh0⟩ := bind_some hh0; obtain ⟨r7, h_8, hh0⟩ := bind_some hh0; obtain ⟨s9, h_10, hh0⟩ := bind_some hh0; refine PC.rg ?_; refine PL.mT rfl rfl ?_; refine PL.op rfl (Rd.negM rfl h_6) ?_; refine PL.callM false [] (ih n5 r7 h_8) rfl Try.call111 rfl ⟨.t _, trivial⟩ rfl trivial (fun h => by cases h) ?_; refine PL.op rfl (Rd.addSM rfl rfl h_10) ?_; refine PL.aT rfl rfl ?_; refine PL.nn ?_; refine PC.ret ?_; refine thA_r ?_; obtain rfl := some_in hh0; exact FinA.mk (r := sA s9) (bl := []) [] (.inl rfl) rfl (rl := [.tmp 2]) (.tmp .nil) rfl rfl rfl (.t _) trivial ⟨rfl, rfl⟩
    refine PC.rg ?_; refine PL.mT rfl rfl ?_; refine PL.op rfl (Rd.lss rfl rfl) ?_; refine PL.mT rfl rfl ?_; (iterate 4 refine PL.gf rfl rfl h_1 ?_); refine PL.op rfl (Rd.pick_f rfl h_1) ?_; refine PL.nn ?_; refine PC.cf rfl rfl ?_; refine PC.skip ?_; refine thA_n ?_; (iterate 2 refine PC.seq ?_); refine PC.rg ?_; refine PL.mT rfl rfl ?_; refine PL.op rfl (Rd.lss rfl rfl) ?_; refine PL.nn ?_; refine PC.cf rfl h_1 ?_; refine PC.skip ?_; refine thA_n ?_; (iterate 2 refine PC.seq ?_); refine PC.rg ?_; refine PL.mT rfl rfl ?_; refine PL.op rfl (Rd.lss rfl rfl) ?_; refine PL.nn ?_; rcases cond_some hh0 with ⟨h_11, hh0⟩ | ⟨h_11, hh0⟩
    · refine PC.ct rfl h_11 ?_; refine PC.seq ?_; obtain ⟨n12, h_13, hh0⟩ := bind_some hh0; refine PC.rg ?_; refine PL.mT rfl rfl ?_; refine PL.op rfl (Rd.addM rfl rfl h_13) ?_; refine PL.op rfl (Rd.toU8 rfl) ?_; refine PL.ef rfl (Ef.litM (α := UInt8) [(i2b n12)] [_] rfl rfl (by decide) rfl rfl rfl rfl) ?_; refine PL.nm (.os 0 0 1) [some ⟨.tr (eL [(i2b n12)]), 5, 1⟩] rfl rfl ?_; refine PL.op rfl (Rd.b2sO rfl rfl rfl) ?_; refine PL.aT rfl rfl ?_; refine PL.nn ?_; refine PC.ret ?_; refine thA_r ?_; obtain rfl := some_in hh0; exact FinA.mk (r := sA (b2s [(i2b n12)])) (bl := []) [] (.inl rfl) rfl (rl := [.tmp 2]) (.tmp .nil) rfl rfl rfl (.t _) trivial ⟨rfl, rfl⟩
    refine PC.cf rfl h_11 ?_; refine PC.skip ?_; refine thA_n ?_; obtain ⟨n14, h_15, hh0⟩ := bind_some hh0; obtain ⟨r16, h_17, hh0⟩ := bind_some hh0; obtain ⟨n18, h_19, hh0⟩ := bind_some hh0; obtain ⟨n20, h_21, hh0⟩ := bind_some hh0; obtain ⟨s22, h_23, hh0⟩ := bind_some hh0; refine PC.cut hs (fun _ : Unit => [(2, sA s22)]) (fun _ => []) (fun _ => True) ?_ ?_
    · refine PC.any (id := 7) 11 (.seg [0, 1, 3, 4, 5, 6] (.fork (.seg [2, 7, 8, 9, 10] .done) (.seg [7, 8, 2, 9, 10] .done))) [] rfl (by kernel_rfl) rfl ?_; refine PT.seg ?_; refine PR.op rfl (Rd.moveT rfl) ?_; refine PR.op rfl (Rd.quoM rfl rfl h_15) ?_; refine PR.op rfl (Rd.moveT rfl) ?_; refine PR.op rfl (Rd.remM rfl rfl h_19) ?_; refine PR.op rfl (Rd.addM rfl rfl h_21) ?_; refine PR.op rfl (Rd.toU8 rfl) ?_; refine PR.nil ?_; refine PT.fork ?_ ?_
      · refine PT.seg ?_; refine PR.callM false [] (ih n14 r16 h_17) rfl Try.call111 rfl ⟨.t _, trivial⟩ rfl trivial (fun h => by cases h) rfl ?_; refine PR.ef rfl rfl (Ef.litM (α := UInt8) [(i2b n20)] [_] rfl rfl (by decide) rfl rfl rfl rfl) ?_; refine PR.nm (.os 0 0 1) [some ⟨.tr (eL [(i2b n20)]), 5, 1⟩] rfl rfl ?_; refine PR.op rfl (Rd.b2sO rfl rfl rfl) ?_; refine PR.op rfl (Rd.addSM rfl rfl h_23) ?_; refine PR.op rfl (Rd.asnT rfl) ?_; refine PR.nil ?_; refine PT.done ?_; refine PL.nn ?_; exact ⟨(), trivial, [], ⟨rfl, rfl, trivial, ⟨.t _, trivial⟩⟩⟩
      refine PT.seg ?_; refine PR.ef rfl rfl (Ef.litM (α := UInt8) [(i2b n20)] [_] rfl rfl (by decide) rfl rfl rfl rfl) ?_; refine PR.nm (.os 0 0 1) [some ⟨.tr (eL [(i2b n20)]), 5, 1⟩] rfl rfl ?_; refine PR.op rfl (Rd.b2sO rfl rfl rfl) ?_; refine PR.callM false [] (ih n14 r16 h_17) rfl Try.call111 rfl ⟨.t _, trivial⟩ rfl trivial (fun h => by cases h) rfl ?_; refine PR.op rfl (Rd.addSM rfl rfl h_23) ?_; refine PR.op rfl (Rd.asnT rfl) ?_; refine PR.nil ?_; refine PT.done ?_; refine PL.nn ?_; exact ⟨(), trivial, [], ⟨rfl, rfl, trivial, ⟨.t _, trivial⟩⟩⟩
    rintro ⟨⟩ -
    refine PC.ret ?_; obtain rfl := some_in hh0; exact FinA.mk (r := sA s22) (bl := []) [] (.inl rfl) rfl (rl := [.tmp 2]) (.tmp .nil) rfl rfl rfl (.t _) trivial ⟨rfl, rfl⟩
def m_S_widen (N : Nat) (p_v : I_Value) : Option (I_Value) :=
  cond (decide (p_v.kind = (1 : Int)))
    ((m_S_decimal N p_v.num).bind fun r2 =>
    some (I_Value.mk (2 : Int) (0 : Int) r2))
    (some p_v)
theorem w_S_widen (N : Nat) (p_v : I_Value) (r : I_Value) (hh0 : m_S_widen N p_v = some r) : FnX Try.prog 109 [] [.agg [iA p_v.kind, iA p_v.num, sA p_v.text]] (RE (.agg [iA r.kind, iA r.num, sA r.text]) []) := by
  unfold m_S_widen at hh0; refine FnX.mk Try.func109 rfl rfl ?_; intro s hs; refine PC.seq ?_; refine PC.rg ?_; refine PL.ef rfl (Ef.box rfl rfl rfl) ?_; refine PL.nm (.op 0 0) [some ⟨.mx [iA p_v.kind, iA p_v.num, sA p_v.text], 42, 0⟩] rfl rfl ?_; refine PL.ef rfl (Ef.alloc rfl rfl) ?_; refine PL.nm (.op 1 0) [some ⟨.mx [iA p_v.kind, iA p_v.num, sA p_v.text], 42, 0⟩, some ⟨.mx [iA (0 : Int), iA (0 : Int), sA ByteArray.empty], 42, 0⟩] rfl rfl ?_; refine PL.nn ?_; (iterate 2 refine PC.seq ?_); refine PC.rg ?_; refine PL.op rfl (Rd.fieldO rfl rfl) ?_; refine PL.op rfl (Rd.loadO rfl rfl rfl) ?_; refine PL.op rfl (Rd.neq rfl rfl) ?_; refine PL.nn ?_; rcases cond_some hh0 with ⟨h_1, hh0⟩ | ⟨h_1, hh0⟩; rotate_left
  · refine PC.ct rfl (not_f h_1) ?_; refine PC.seq ?_; refine PC.rg ?_; refine PL.op rfl (Rd.loadBox rfl rfl rfl) ?_; refine PL.store rfl rfl rfl rfl rfl rfl rfl ?_; refine PL.nO [some ⟨.mx [iA p_v.kind, iA p_v.num, sA p_v.text], 42, 0⟩, some ⟨.mx [iA p_v.kind, iA p_v.num, sA p_v.text], 42, 0⟩] rfl ?_; refine PL.nn ?_; refine PC.ret ?_; refine thA_r ?_; obtain rfl := some_in hh0; exact FinA.mk (r := .agg [iA p_v.kind, iA p_v.num, sA p_v.text]) (bl := []) [] (.inl rfl) rfl (rl := [.cell 2 42]) (.cellN rfl rfl rfl rfl .nil) rfl rfl rfl (.aggL ⟨.t _, .t _, .t _, trivial⟩) trivial ⟨rfl, rfl⟩
  refine PC.cf rfl (not_t h_1) ?_; refine PC.skip ?_; refine thA_n ?_; refine PC.seq ?_; obtain ⟨r2, h_3, hh0⟩ := bind_some hh0; refine PC.rg ?_; refine PL.op rfl (Rd.fieldO rfl rfl) ?_; refine PL.op rfl (Rd.loadO rfl rfl rfl) ?_; refine PL.callM false [] (w_S_decimal N p_v.num r2 h_3) rfl Try.call111 rfl ⟨.t _, trivial⟩ rfl trivial (fun h => by cases h) ?_; refine PL.op rfl (Rd.build rfl rfl rfl rfl) ?_; refine PL.store rfl rfl rfl rfl rfl rfl rfl ?_; refine PL.nO [some ⟨.mx [iA p_v.kind, iA p_v.num, sA p_v.text], 42, 0⟩, some ⟨.mx [iA (2 : Int), iA (0 : Int), sA r2], 42, 0⟩] rfl ?_; refine PL.nn ?_; refine PC.ret ?_; obtain rfl := some_in hh0; exact FinA.mk (r := .agg [iA (2 : Int), iA (0 : Int), sA r2]) (bl := []) [] (.inl rfl) rfl (rl := [.cell 2 42]) (.cellN rfl rfl rfl rfl .nil) rfl rfl rfl (.aggL ⟨.t _, .t _, .t _, trivial⟩) trivial ⟨rfl, rfl⟩
def m_S_change (N : Nat) (p_f : (List I_Column)) (p_c : I_Change) : Option ((List I_Column) × Bool) :=
  cond (decide (p_c.kind = (1 : Int)))
    ((m_S_inRange N p_c.at_ (0 : Int) (p_f.length : Int)).bind fun r2 =>
    cond r2
      ((m_S_validColumn N p_c.column).bind fun r5 =>
      cond r5
        (cond (decide ((p_f.length : Int) < (5 : Int)))
          ((V.subM p_f (0 : Int) p_c.at_).bind fun xs9 =>
          (m_S_copyColumns N xs9).bind fun r11 =>
          (appM 40 r11 [p_c.column]).bind fun xs13 =>
          (V.subM p_f p_c.at_ (p_f.length : Int)).bind fun xs15 =>
          (appM 40 xs13 xs15).bind fun xs17 =>
          some (xs17, true))
          (some (([] : List I_Column), false)))
        (some (([] : List I_Column), false)))
      (some (([] : List I_Column), false)))
    (cond (decide (p_c.kind = (2 : Int)))
      ((chk ((p_f.length : Int) - (1 : Int))).bind fun n20 =>
      (m_S_inRange N p_c.at_ (0 : Int) n20).bind fun r22 =>
      cond r22
        (cond (decide ((1 : Int) < (p_f.length : Int)))
          ((V.subM p_f (0 : Int) p_c.at_).bind fun xs26 =>
          (m_S_copyColumns N xs26).bind fun r28 =>
          (chk (p_c.at_ + (1 : Int))).bind fun n30 =>
          (V.subM p_f n30 (p_f.length : Int)).bind fun xs32 =>
          (appM 40 r28 xs32).bind fun xs34 =>
          some (xs34, true))
          (some (([] : List I_Column), false)))
        (some (([] : List I_Column), false)))
      (cond (decide (p_c.kind = (3 : Int)))
        ((chk ((p_f.length : Int) - (1 : Int))).bind fun n37 =>
        (m_S_inRange N p_c.at_ (0 : Int) n37).bind fun r39 =>
        cond r39
          ((ixI p_f p_c.at_).bind fun x42 =>
          cond (decide (x42.kind = (1 : Int)))
            ((m_S_copyColumns N p_f).bind fun r45 =>
            (ixI p_f p_c.at_).bind fun x47 =>
            (m_S_widen N x47.default).bind fun r49 =>
            (ixI r45 p_c.at_).bind fun x51 =>
            some ((r45.set p_c.at_.toNat (I_Column.mk (2 : Int) r49)), true))
            (some (([] : List I_Column), false)))
          (some (([] : List I_Column), false)))
        (some (([] : List I_Column), false))))
theorem w_S_change (N : Nat) (p_f : (List I_Column)) (p_c : I_Change) (r : (List I_Column) × Bool) (hh0 : m_S_change N p_f p_c = some r) : FnX Try.prog 99 [] [sL p_f, .agg [iA p_c.kind, iA p_c.at_, iA p_c.column.kind, iA p_c.column.default.kind, iA p_c.column.default.num, sA p_c.column.default.text]] (RE (.tup [.os 0 0 r.1.length, bA r.2]) [⟨.tr (eL r.1), 138, 4⟩]) := by
  unfold m_S_change at hh0; refine FnX.mk Try.func99 rfl rfl ?_; intro s hs; refine PC.seq ?_; refine PC.rg ?_; refine PL.ef rfl (Ef.box rfl rfl rfl) ?_; refine PL.nm (.op 0 0) [some ⟨.mx [iA p_c.kind, iA p_c.at_, iA p_c.column.kind, iA p_c.column.default.kind, iA p_c.column.default.num, sA p_c.column.default.text], 140, 0⟩] rfl rfl ?_; (iterate 2 refine PL.aT rfl rfl ?_); refine PL.nn ?_; refine PC.seq ?_; refine PC.block ?_; refine PC.seq ?_; rcases cond_some hh0 with ⟨h_1, hh0⟩ | ⟨h_1, hh0⟩
  · obtain ⟨r2, h_3, hh0⟩ := bind_some hh0; rcases cond_some hh0 with ⟨h_4, hh0⟩ | ⟨h_4, hh0⟩; rotate_left
    · refine PC.rg ?_; refine PL.op rfl (Rd.fieldO rfl rfl) ?_; refine PL.op rfl (Rd.loadO rfl rfl rfl) ?_; refine PL.op rfl (Rd.eql rfl rfl) ?_; refine PL.mT rfl rfl ?_; refine PL.gn rfl h_1 ?_; refine PL.op rfl (Rd.fieldO rfl rfl) ?_; refine PL.gn rfl h_1 ?_; refine PL.op rfl (Rd.loadO rfl rfl rfl) ?_; refine PL.gn rfl h_1 ?_; refine PL.mT rfl rfl ?_; refine PL.gn rfl h_1 ?_; refine PL.op rfl (Rd.lenT rfl) ?_; refine PL.gn rfl h_1 ?_; refine PL.callM false [] (w_S_inRange N p_c.at_ (0 : Int) (p_f.length : Int) r2 h_3) rfl Try.call52 rfl ⟨.t _, .t _, .t _, trivial⟩ rfl trivial (fun h => by cases h) ?_; refine PL.op rfl (Rd.pick_t rfl h_1) ?_; refine PL.mT rfl rfl ?_; (iterate 3 refine PL.gf rfl rfl h_4 ?_); refine PL.op rfl (Rd.pick_f rfl h_4) ?_; refine PL.mT rfl rfl ?_; (iterate 3 refine PL.gf rfl rfl rfl ?_); refine PL.op rfl (Rd.pick_f rfl rfl) ?_; refine PL.aT rfl rfl ?_; refine PL.nn ?_; refine PC.cf rfl rfl ?_; refine PC.seq ?_; refine PC.rg ?_; refine PL.op rfl (Rd.fieldO rfl rfl) ?_; refine PL.op rfl (Rd.loadO rfl rfl rfl) ?_; refine PL.op rfl (Rd.eql rfl rfl) ?_; refine PL.mT rfl rfl ?_; (iterate 6 refine PL.gf rfl rfl (ne_lit h_1 (by decide)) ?_); refine PL.op rfl (Rd.pick_f rfl (ne_lit h_1 (by decide))) ?_; refine PL.mT rfl rfl ?_; (iterate 3 refine PL.gf rfl rfl rfl ?_); refine PL.op rfl (Rd.pick_f rfl rfl) ?_; refine PL.aT rfl rfl ?_; refine PL.nn ?_; refine PC.cf rfl rfl ?_; refine PC.seq ?_; refine PC.rg ?_; refine PL.op rfl (Rd.fieldO rfl rfl) ?_; refine PL.op rfl (Rd.loadO rfl rfl rfl) ?_; refine PL.op rfl (Rd.eql rfl rfl) ?_; refine PL.mT rfl rfl ?_; (iterate 6 refine PL.gf rfl rfl (ne_lit h_1 (by decide)) ?_); refine PL.op rfl (Rd.pick_f rfl (ne_lit h_1 (by decide))) ?_; refine PL.mT rfl rfl ?_; (iterate 7 refine PL.gf rfl rfl rfl ?_); refine PL.op rfl (Rd.pick_f rfl rfl) ?_; refine PL.aT rfl rfl ?_; refine PL.nn ?_; refine PC.cf rfl rfl ?_; refine PC.skip ?_; refine inA_n ?_; refine thA_n ?_; refine PC.seq ?_; refine PC.rg ?_; (iterate 2 refine PL.aT rfl rfl ?_); refine PL.nn ?_; refine PC.ret ?_; obtain rfl := some_in hh0; exact FinA.mk (r := .tup [.os 0 0 (((([] : List I_Column), false).1).length), bA ((([] : List I_Column), false).2)]) (bl := [⟨.tr (eL ((([] : List I_Column), false).1)), 138, 4⟩]) [none] (.inl rfl) rfl (rl := [.tmp 4, .tmp 5]) (.tmp (.tmp .nil)) rfl rfl rfl (.tupL ⟨.osn rfl, .t _, trivial⟩) ⟨ow_nil _, trivial⟩ ⟨rfl, rfl⟩
    obtain ⟨r5, h_6, hh0⟩ := bind_some hh0; rcases cond_some hh0 with ⟨h_7, hh0⟩ | ⟨h_7, hh0⟩; rotate_left
    · refine PC.rg ?_; refine PL.op rfl (Rd.fieldO rfl rfl) ?_; refine PL.op rfl (Rd.loadO rfl rfl rfl) ?_; refine PL.op rfl (Rd.eql rfl rfl) ?_; refine PL.mT rfl rfl ?_; refine PL.gn rfl h_1 ?_; refine PL.op rfl (Rd.fieldO rfl rfl) ?_; refine PL.gn rfl h_1 ?_; refine PL.op rfl (Rd.loadO rfl rfl rfl) ?_; refine PL.gn rfl h_1 ?_; refine PL.mT rfl rfl ?_; refine PL.gn rfl h_1 ?_; refine PL.op rfl (Rd.lenT rfl) ?_; refine PL.gn rfl h_1 ?_; refine PL.callM false [] (w_S_inRange N p_c.at_ (0 : Int) (p_f.length : Int) r2 h_3) rfl Try.call52 rfl ⟨.t _, .t _, .t _, trivial⟩ rfl trivial (fun h => by cases h) ?_; refine PL.op rfl (Rd.pick_t rfl h_1) ?_; refine PL.mT rfl rfl ?_; refine PL.gn rfl h_4 ?_; refine PL.op rfl (Rd.fieldO rfl rfl) ?_; refine PL.gn rfl h_4 ?_; refine PL.op rfl (Rd.loadSub rfl rfl rfl rfl) ?_; refine PL.gn rfl h_4 ?_; refine PL.callM false [] (w_S_validColumn N p_c.column r5 h_6) rfl Try.call108 rfl ⟨.aggL ⟨.t _, .t _, .t _, .t _, trivial⟩, trivial⟩ rfl trivial (fun h => by cases h) ?_; refine PL.op rfl (Rd.pick_t rfl h_4) ?_; refine PL.mT rfl rfl ?_; (iterate 3 refine PL.gf rfl rfl h_7 ?_); refine PL.op rfl (Rd.pick_f rfl h_7) ?_; refine PL.aT rfl rfl ?_; refine PL.nn ?_; refine PC.cf rfl rfl ?_; refine PC.seq ?_; refine PC.rg ?_; refine PL.op rfl (Rd.fieldO rfl rfl) ?_; refine PL.op rfl (Rd.loadO rfl rfl rfl) ?_; refine PL.op rfl (Rd.eql rfl rfl) ?_; refine PL.mT rfl rfl ?_; (iterate 6 refine PL.gf rfl rfl (ne_lit h_1 (by decide)) ?_); refine PL.op rfl (Rd.pick_f rfl (ne_lit h_1 (by decide))) ?_; refine PL.mT rfl rfl ?_; (iterate 3 refine PL.gf rfl rfl rfl ?_); refine PL.op rfl (Rd.pick_f rfl rfl) ?_; refine PL.aT rfl rfl ?_; refine PL.nn ?_; refine PC.cf rfl rfl ?_; refine PC.seq ?_; refine PC.rg ?_; refine PL.op rfl (Rd.fieldO rfl rfl) ?_; refine PL.op rfl (Rd.loadO rfl rfl rfl) ?_; refine PL.op rfl (Rd.eql rfl rfl) ?_; refine PL.mT rfl rfl ?_; (iterate 6 refine PL.gf rfl rfl (ne_lit h_1 (by decide)) ?_); refine PL.op rfl (Rd.pick_f rfl (ne_lit h_1 (by decide))) ?_; refine PL.mT rfl rfl ?_; (iterate 7 refine PL.gf rfl rfl rfl ?_); refine PL.op rfl (Rd.pick_f rfl rfl) ?_; refine PL.aT rfl rfl ?_; refine PL.nn ?_; refine PC.cf rfl rfl ?_; refine PC.skip ?_; refine inA_n ?_; refine thA_n ?_; refine PC.seq ?_; refine PC.rg ?_; (iterate 2 refine PL.aT rfl rfl ?_); refine PL.nn ?_; refine PC.ret ?_; obtain rfl := some_in hh0; exact FinA.mk (r := .tup [.os 0 0 (((([] : List I_Column), false).1).length), bA ((([] : List I_Column), false).2)]) (bl := [⟨.tr (eL ((([] : List I_Column), false).1)), 138, 4⟩]) [none] (.inl rfl) rfl (rl := [.tmp 4, .tmp 5]) (.tmp (.tmp .nil)) rfl rfl rfl (.tupL ⟨.osn rfl, .t _, trivial⟩) ⟨ow_nil _, trivial⟩ ⟨rfl, rfl⟩
    refine PC.rg ?_; refine PL.op rfl (Rd.fieldO rfl rfl) ?_; refine PL.op rfl (Rd.loadO rfl rfl rfl) ?_; refine PL.op rfl (Rd.eql rfl rfl) ?_; refine PL.mT rfl rfl ?_; refine PL.gn rfl h_1 ?_; refine PL.op rfl (Rd.fieldO rfl rfl) ?_; refine PL.gn rfl h_1 ?_; refine PL.op rfl (Rd.loadO rfl rfl rfl) ?_; refine PL.gn rfl h_1 ?_; refine PL.mT rfl rfl ?_; refine PL.gn rfl h_1 ?_; refine PL.op rfl (Rd.lenT rfl) ?_; refine PL.gn rfl h_1 ?_; refine PL.callM false [] (w_S_inRange N p_c.at_ (0 : Int) (p_f.length : Int) r2 h_3) rfl Try.call52 rfl ⟨.t _, .t _, .t _, trivial⟩ rfl trivial (fun h => by cases h) ?_; refine PL.op rfl (Rd.pick_t rfl h_1) ?_; refine PL.mT rfl rfl ?_; refine PL.gn rfl h_4 ?_; refine PL.op rfl (Rd.fieldO rfl rfl) ?_; refine PL.gn rfl h_4 ?_; refine PL.op rfl (Rd.loadSub rfl rfl rfl rfl) ?_; refine PL.gn rfl h_4 ?_; refine PL.callM false [] (w_S_validColumn N p_c.column r5 h_6) rfl Try.call108 rfl ⟨.aggL ⟨.t _, .t _, .t _, .t _, trivial⟩, trivial⟩ rfl trivial (fun h => by cases h) ?_; refine PL.op rfl (Rd.pick_t rfl h_4) ?_; refine PL.mT rfl rfl ?_; refine PL.gn rfl h_7 ?_; refine PL.mT rfl rfl ?_; refine PL.gn rfl h_7 ?_; refine PL.op rfl (Rd.lenT rfl) ?_; refine PL.gn rfl h_7 ?_; refine PL.op rfl (Rd.lss rfl rfl) ?_; refine PL.op rfl (Rd.pick_t rfl h_7) ?_; refine PL.aT rfl rfl ?_; refine PL.nn ?_; rcases cond_some hh0 with ⟨h_8, hh0⟩ | ⟨h_8, hh0⟩; rotate_left
    · refine PC.cf rfl h_8 ?_; refine PC.seq ?_; refine PC.rg ?_; refine PL.op rfl (Rd.fieldO rfl rfl) ?_; refine PL.op rfl (Rd.loadO rfl rfl rfl) ?_; refine PL.op rfl (Rd.eql rfl rfl) ?_; refine PL.mT rfl rfl ?_; (iterate 6 refine PL.gf rfl rfl (ne_lit h_1 (by decide)) ?_); refine PL.op rfl (Rd.pick_f rfl (ne_lit h_1 (by decide))) ?_; refine PL.mT rfl rfl ?_; (iterate 3 refine PL.gf rfl rfl rfl ?_); refine PL.op rfl (Rd.pick_f rfl rfl) ?_; refine PL.aT rfl rfl ?_; refine PL.nn ?_; refine PC.cf rfl rfl ?_; refine PC.seq ?_; refine PC.rg ?_; refine PL.op rfl (Rd.fieldO rfl rfl) ?_; refine PL.op rfl (Rd.loadO rfl rfl rfl) ?_; refine PL.op rfl (Rd.eql rfl rfl) ?_; refine PL.mT rfl rfl ?_; (iterate 6 refine PL.gf rfl rfl (ne_lit h_1 (by decide)) ?_); refine PL.op rfl (Rd.pick_f rfl (ne_lit h_1 (by decide))) ?_; refine PL.mT rfl rfl ?_; (iterate 7 refine PL.gf rfl rfl rfl ?_); refine PL.op rfl (Rd.pick_f rfl rfl) ?_; refine PL.aT rfl rfl ?_; refine PL.nn ?_; refine PC.cf rfl rfl ?_; refine PC.skip ?_; refine inA_n ?_; refine thA_n ?_; refine PC.seq ?_; refine PC.rg ?_; (iterate 2 refine PL.aT rfl rfl ?_); refine PL.nn ?_; refine PC.ret ?_; obtain rfl := some_in hh0; exact FinA.mk (r := .tup [.os 0 0 (((([] : List I_Column), false).1).length), bA ((([] : List I_Column), false).2)]) (bl := [⟨.tr (eL ((([] : List I_Column), false).1)), 138, 4⟩]) [none] (.inl rfl) rfl (rl := [.tmp 4, .tmp 5]) (.tmp (.tmp .nil)) rfl rfl rfl (.tupL ⟨.osn rfl, .t _, trivial⟩) ⟨ow_nil _, trivial⟩ ⟨rfl, rfl⟩
    refine PC.ct rfl h_8 ?_; obtain ⟨xs9, h_10, hh0⟩ := bind_some hh0; obtain ⟨r11, h_12, hh0⟩ := bind_some hh0; obtain ⟨xs13, h_14, hh0⟩ := bind_some hh0; obtain ⟨xs15, h_16, hh0⟩ := bind_some hh0; obtain ⟨xs17, h_18, hh0⟩ := bind_some hh0; refine PC.cut hs (fun _ : Unit => [(4, .os 0 0 xs17.length), (5, bA true)]) (fun _ => [⟨.tr (eL xs17), 138, 4⟩]) (fun _ => True) ?_ ?_
    · refine PC.any (id := 2) 16 (.seg [0, 1, 2, 3, 5, 6, 9, 10, 11, 12] (.fork (.seg [4, 7, 8, 13, 14, 15] .done) (.seg [7, 4, 8, 13, 14, 15] .done))) [] rfl (by kernel_rfl) rfl ?_; refine PT.seg ?_; refine PR.op rfl (Rd.moveT rfl) ?_; refine PR.op rfl (Rd.fieldO rfl rfl) ?_; refine PR.op rfl (Rd.loadO rfl rfl rfl) ?_; refine PR.op rfl (Rd.subTMH rfl rfl h_10) ?_; refine PR.op rfl (Rd.fieldO rfl rfl) ?_; refine PR.op rfl (Rd.loadSub rfl rfl rfl rfl) ?_; refine PR.op rfl (Rd.moveT rfl) ?_; refine PR.op rfl (Rd.fieldO rfl rfl) ?_; refine PR.op rfl (Rd.loadO rfl rfl rfl) ?_; refine PR.op rfl (Rd.subTML rfl rfl h_16) ?_; refine PR.nil ?_; refine PT.fork ?_ ?_
      · refine PT.seg ?_; refine PR.callMX [1] false [] (w_S_copyColumns N xs9 r11 h_12) rfl Try.call100 rfl ⟨.t _, trivial⟩ rfl trivial (fun h => by cases h) rfl rfl rfl ?_; refine PR.nm (.os 1 0 r11.length) [some ⟨.mx [iA p_c.kind, iA p_c.at_, iA p_c.column.kind, iA p_c.column.default.kind, iA p_c.column.default.num, sA p_c.column.default.text], 140, 0⟩, some ⟨.tr (eL r11), 138, 4⟩] rfl rfl ?_; refine PR.ef rfl rfl (Ef.litM (α := I_Column) [p_c.column] [_] rfl rfl (by decide) rfl rfl rfl rfl) ?_; refine PR.nm (.os 2 0 1) [some ⟨.mx [iA p_c.kind, iA p_c.at_, iA p_c.column.kind, iA p_c.column.default.kind, iA p_c.column.default.num, sA p_c.column.default.text], 140, 0⟩, some ⟨.tr (eL r11), 138, 4⟩, some ⟨.tr (eL [p_c.column]), 138, 4⟩] rfl rfl ?_; refine PR.apMX hs rfl rfl rfl rfl (SrcA.ownE rfl rfl rfl) rfl rfl rfl rfl rfl h_14 ?_; refine PR.nm (.os 3 0 xs13.length) [some ⟨.mx [iA p_c.kind, iA p_c.at_, iA p_c.column.kind, iA p_c.column.default.kind, iA p_c.column.default.num, sA p_c.column.default.text], 140, 0⟩, none, some ⟨.tr (eL [p_c.column]), 138, 4⟩, some ⟨.tr (eL xs13), 138, 4⟩] rfl rfl ?_; refine PR.apM hs rfl rfl rfl rfl (SrcA.eL rfl) rfl rfl rfl rfl rfl h_18 ?_; refine PR.nm (.os 4 0 xs17.length) [some ⟨.mx [iA p_c.kind, iA p_c.at_, iA p_c.column.kind, iA p_c.column.default.kind, iA p_c.column.default.num, sA p_c.column.default.text], 140, 0⟩, none, some ⟨.tr (eL [p_c.column]), 138, 4⟩, none, some ⟨.tr (eL xs17), 138, 4⟩] rfl rfl ?_; refine PR.op rfl (Rd.asnO rfl) ?_; refine PR.op rfl (Rd.asnT rfl) ?_; refine PR.nil ?_; refine PT.done ?_; refine PL.nn ?_; exact ⟨(), trivial, [some 4], ⟨rfl, rfl, ⟨⟨_, rfl, rfl, rfl, .tr _⟩, trivial⟩, ⟨.os rfl, .t _, trivial⟩⟩⟩
      refine PT.seg ?_; refine PR.ef rfl rfl (Ef.litM (α := I_Column) [p_c.column] [_] rfl rfl (by decide) rfl rfl rfl rfl) ?_; refine PR.nm (.os 1 0 1) [some ⟨.mx [iA p_c.kind, iA p_c.at_, iA p_c.column.kind, iA p_c.column.default.kind, iA p_c.column.default.num, sA p_c.column.default.text], 140, 0⟩, some ⟨.tr (eL [p_c.column]), 138, 4⟩] rfl rfl ?_; refine PR.callMX [2] false [] (w_S_copyColumns N xs9 r11 h_12) rfl Try.call100 rfl ⟨.t _, trivial⟩ rfl trivial (fun h => by cases h) rfl rfl rfl ?_; refine PR.nm (.os 2 0 r11.length) [some ⟨.mx [iA p_c.kind, iA p_c.at_, iA p_c.column.kind, iA p_c.column.default.kind, iA p_c.column.default.num, sA p_c.column.default.text], 140, 0⟩, some ⟨.tr (eL [p_c.column]), 138, 4⟩, some ⟨.tr (eL r11), 138, 4⟩] rfl rfl ?_; refine PR.apMX hs rfl rfl rfl rfl (SrcA.ownE rfl rfl rfl) rfl rfl rfl rfl rfl h_14 ?_; refine PR.nm (.os 3 0 xs13.length) [some ⟨.mx [iA p_c.kind, iA p_c.at_, iA p_c.column.kind, iA p_c.column.default.kind, iA p_c.column.default.num, sA p_c.column.default.text], 140, 0⟩, some ⟨.tr (eL [p_c.column]), 138, 4⟩, none, some ⟨.tr (eL xs13), 138, 4⟩] rfl rfl ?_; refine PR.apM hs rfl rfl rfl rfl (SrcA.eL rfl) rfl rfl rfl rfl rfl h_18 ?_; refine PR.nm (.os 4 0 xs17.length) [some ⟨.mx [iA p_c.kind, iA p_c.at_, iA p_c.column.kind, iA p_c.column.default.kind, iA p_c.column.default.num, sA p_c.column.default.text], 140, 0⟩, some ⟨.tr (eL [p_c.column]), 138, 4⟩, none, none, some ⟨.tr (eL xs17), 138, 4⟩] rfl rfl ?_; refine PR.op rfl (Rd.asnO rfl) ?_; refine PR.op rfl (Rd.asnT rfl) ?_; refine PR.nil ?_; refine PT.done ?_; refine PL.nn ?_; exact ⟨(), trivial, [some 4], ⟨rfl, rfl, ⟨⟨_, rfl, rfl, rfl, .tr _⟩, trivial⟩, ⟨.os rfl, .t _, trivial⟩⟩⟩
    rintro ⟨⟩ -
    refine PC.ret ?_; refine inA_r ?_; refine thA_r ?_; obtain rfl := some_in hh0; exact FinA.mk (r := .tup [.os 0 0 (((xs17, true).1).length), bA ((xs17, true).2)]) (bl := [⟨.tr (eL ((xs17, true).1)), 138, 4⟩]) [some 0] (.inl rfl) rfl (rl := [.tmp 4, .tmp 5]) (.tmp (.tmp .nil)) rfl rfl rfl (.tupL ⟨.os rfl, .t _, trivial⟩) ⟨⟨_, rfl, rfl, rfl, .tr _⟩, trivial⟩ ⟨rfl, rfl⟩
  refine PC.rg ?_; refine PL.op rfl (Rd.fieldO rfl rfl) ?_; refine PL.op rfl (Rd.loadO rfl rfl rfl) ?_; refine PL.op rfl (Rd.eql rfl rfl) ?_; refine PL.mT rfl rfl ?_; (iterate 5 refine PL.gf rfl rfl h_1 ?_); refine PL.op rfl (Rd.pick_f rfl h_1) ?_; refine PL.mT rfl rfl ?_; (iterate 3 refine PL.gf rfl rfl rfl ?_); refine PL.op rfl (Rd.pick_f rfl rfl) ?_; refine PL.mT rfl rfl ?_; (iterate 3 refine PL.gf rfl rfl rfl ?_); refine PL.op rfl (Rd.pick_f rfl rfl) ?_; refine PL.aT rfl rfl ?_; refine PL.nn ?_; refine PC.cf rfl rfl ?_; refine PC.seq ?_; rcases cond_some hh0 with ⟨h_19, hh0⟩ | ⟨h_19, hh0⟩
  · obtain ⟨n20, h_21, hh0⟩ := bind_some hh0; obtain ⟨r22, h_23, hh0⟩ := bind_some hh0; rcases cond_some hh0 with ⟨h_24, hh0⟩ | ⟨h_24, hh0⟩; rotate_left
    · refine PC.rg ?_; refine PL.op rfl (Rd.fieldO rfl rfl) ?_; refine PL.op rfl (Rd.loadO rfl rfl rfl) ?_; refine PL.op rfl (Rd.eql rfl rfl) ?_; refine PL.mT rfl rfl ?_; refine PL.gn rfl h_19 ?_; refine PL.op rfl (Rd.fieldO rfl rfl) ?_; refine PL.gn rfl h_19 ?_; refine PL.op rfl (Rd.loadO rfl rfl rfl) ?_; refine PL.gn rfl h_19 ?_; refine PL.mT rfl rfl ?_; refine PL.gn rfl h_19 ?_; refine PL.op rfl (Rd.lenT rfl) ?_; refine PL.gn rfl h_19 ?_; refine PL.op rfl (Rd.subM rfl rfl h_21) ?_; refine PL.gn rfl h_19 ?_; refine PL.callM false [] (w_S_inRange N p_c.at_ (0 : Int) n20 r22 h_23) rfl Try.call52 rfl ⟨.t _, .t _, .t _, trivial⟩ rfl trivial (fun h => by cases h) ?_; refine PL.op rfl (Rd.pick_t rfl h_19) ?_; refine PL.mT rfl rfl ?_; (iterate 3 refine PL.gf rfl rfl h_24 ?_); refine PL.op rfl (Rd.pick_f rfl h_24) ?_; refine PL.aT rfl rfl ?_; refine PL.nn ?_; refine PC.cf rfl rfl ?_; refine PC.seq ?_; refine PC.rg ?_; refine PL.op rfl (Rd.fieldO rfl rfl) ?_; refine PL.op rfl (Rd.loadO rfl rfl rfl) ?_; refine PL.op rfl (Rd.eql rfl rfl) ?_; refine PL.mT rfl rfl ?_; (iterate 6 refine PL.gf rfl rfl (ne_lit h_19 (by decide)) ?_); refine PL.op rfl (Rd.pick_f rfl (ne_lit h_19 (by decide))) ?_; refine PL.mT rfl rfl ?_; (iterate 7 refine PL.gf rfl rfl rfl ?_); refine PL.op rfl (Rd.pick_f rfl rfl) ?_; refine PL.aT rfl rfl ?_; refine PL.nn ?_; refine PC.cf rfl rfl ?_; refine PC.skip ?_; refine inA_n ?_; refine thA_n ?_; refine PC.seq ?_; refine PC.rg ?_; (iterate 2 refine PL.aT rfl rfl ?_); refine PL.nn ?_; refine PC.ret ?_; obtain rfl := some_in hh0; exact FinA.mk (r := .tup [.os 0 0 (((([] : List I_Column), false).1).length), bA ((([] : List I_Column), false).2)]) (bl := [⟨.tr (eL ((([] : List I_Column), false).1)), 138, 4⟩]) [none] (.inl rfl) rfl (rl := [.tmp 4, .tmp 5]) (.tmp (.tmp .nil)) rfl rfl rfl (.tupL ⟨.osn rfl, .t _, trivial⟩) ⟨ow_nil _, trivial⟩ ⟨rfl, rfl⟩
    refine PC.rg ?_; refine PL.op rfl (Rd.fieldO rfl rfl) ?_; refine PL.op rfl (Rd.loadO rfl rfl rfl) ?_; refine PL.op rfl (Rd.eql rfl rfl) ?_; refine PL.mT rfl rfl ?_; refine PL.gn rfl h_19 ?_; refine PL.op rfl (Rd.fieldO rfl rfl) ?_; refine PL.gn rfl h_19 ?_; refine PL.op rfl (Rd.loadO rfl rfl rfl) ?_; refine PL.gn rfl h_19 ?_; refine PL.mT rfl rfl ?_; refine PL.gn rfl h_19 ?_; refine PL.op rfl (Rd.lenT rfl) ?_; refine PL.gn rfl h_19 ?_; refine PL.op rfl (Rd.subM rfl rfl h_21) ?_; refine PL.gn rfl h_19 ?_; refine PL.callM false [] (w_S_inRange N p_c.at_ (0 : Int) n20 r22 h_23) rfl Try.call52 rfl ⟨.t _, .t _, .t _, trivial⟩ rfl trivial (fun h => by cases h) ?_; refine PL.op rfl (Rd.pick_t rfl h_19) ?_; refine PL.mT rfl rfl ?_; refine PL.gn rfl h_24 ?_; refine PL.mT rfl rfl ?_; refine PL.gn rfl h_24 ?_; refine PL.op rfl (Rd.lenT rfl) ?_; refine PL.gn rfl h_24 ?_; refine PL.op rfl (Rd.gtr rfl rfl) ?_; refine PL.op rfl (Rd.pick_t rfl h_24) ?_; refine PL.aT rfl rfl ?_; refine PL.nn ?_; rcases cond_some hh0 with ⟨h_25, hh0⟩ | ⟨h_25, hh0⟩; rotate_left
    · refine PC.cf rfl h_25 ?_; refine PC.seq ?_; refine PC.rg ?_; refine PL.op rfl (Rd.fieldO rfl rfl) ?_; refine PL.op rfl (Rd.loadO rfl rfl rfl) ?_; refine PL.op rfl (Rd.eql rfl rfl) ?_; refine PL.mT rfl rfl ?_; (iterate 6 refine PL.gf rfl rfl (ne_lit h_19 (by decide)) ?_); refine PL.op rfl (Rd.pick_f rfl (ne_lit h_19 (by decide))) ?_; refine PL.mT rfl rfl ?_; (iterate 7 refine PL.gf rfl rfl rfl ?_); refine PL.op rfl (Rd.pick_f rfl rfl) ?_; refine PL.aT rfl rfl ?_; refine PL.nn ?_; refine PC.cf rfl rfl ?_; refine PC.skip ?_; refine inA_n ?_; refine thA_n ?_; refine PC.seq ?_; refine PC.rg ?_; (iterate 2 refine PL.aT rfl rfl ?_); refine PL.nn ?_; refine PC.ret ?_; obtain rfl := some_in hh0; exact FinA.mk (r := .tup [.os 0 0 (((([] : List I_Column), false).1).length), bA ((([] : List I_Column), false).2)]) (bl := [⟨.tr (eL ((([] : List I_Column), false).1)), 138, 4⟩]) [none] (.inl rfl) rfl (rl := [.tmp 4, .tmp 5]) (.tmp (.tmp .nil)) rfl rfl rfl (.tupL ⟨.osn rfl, .t _, trivial⟩) ⟨ow_nil _, trivial⟩ ⟨rfl, rfl⟩
    refine PC.ct rfl h_25 ?_; refine PC.seq ?_; obtain ⟨xs26, h_27, hh0⟩ := bind_some hh0; obtain ⟨r28, h_29, hh0⟩ := bind_some hh0; obtain ⟨n30, h_31, hh0⟩ := bind_some hh0; obtain ⟨xs32, h_33, hh0⟩ := bind_some hh0; obtain ⟨xs34, h_35, hh0⟩ := bind_some hh0; refine PC.any (id := 4) 10 (.seg [0, 1, 2, 3, 5, 6, 7, 8, 9, 4] .done) [] rfl (by kernel_rfl) rfl ?_; refine PT.seg ?_; refine PR.op rfl (Rd.moveT rfl) ?_; refine PR.op rfl (Rd.fieldO rfl rfl) ?_; refine PR.op rfl (Rd.loadO rfl rfl rfl) ?_; refine PR.op rfl (Rd.subTMH rfl rfl h_27) ?_; refine PR.op rfl (Rd.moveT rfl) ?_; refine PR.op rfl (Rd.fieldO rfl rfl) ?_; refine PR.op rfl (Rd.loadO rfl rfl rfl) ?_; refine PR.op rfl (Rd.addM rfl rfl h_31) ?_; refine PR.op rfl (Rd.subTML rfl rfl h_33) ?_; refine PR.callMX [1] false [] (w_S_copyColumns N xs26 r28 h_29) rfl Try.call100 rfl ⟨.t _, trivial⟩ rfl trivial (fun h => by cases h) rfl rfl rfl ?_; refine PR.nm (.os 1 0 r28.length) [some ⟨.mx [iA p_c.kind, iA p_c.at_, iA p_c.column.kind, iA p_c.column.default.kind, iA p_c.column.default.num, sA p_c.column.default.text], 140, 0⟩, some ⟨.tr (eL r28), 138, 4⟩] rfl rfl ?_; refine PR.nil ?_; refine PT.done ?_; refine PL.apM hs rfl rfl rfl rfl (SrcA.eL rfl) rfl rfl rfl rfl h_35 ?_; refine PL.nm (.os 2 0 xs34.length) [some ⟨.mx [iA p_c.kind, iA p_c.at_, iA p_c.column.kind, iA p_c.column.default.kind, iA p_c.column.default.num, sA p_c.column.default.text], 140, 0⟩, none, some ⟨.tr (eL xs34), 138, 4⟩] rfl rfl ?_; refine PL.op rfl (Rd.asnO rfl) ?_; refine PL.aT rfl rfl ?_; refine PL.nn ?_; refine PC.ret ?_; refine inA_r ?_; refine thA_r ?_; obtain rfl := some_in hh0; exact FinA.mk (r := .tup [.os 0 0 (((xs34, true).1).length), bA ((xs34, true).2)]) (bl := [⟨.tr (eL ((xs34, true).1)), 138, 4⟩]) [some 2] (.inl rfl) rfl (rl := [.tmp 4, .tmp 5]) (.tmp (.tmp .nil)) rfl rfl rfl (.tupL ⟨.os rfl, .t _, trivial⟩) ⟨⟨_, rfl, rfl, rfl, .tr _⟩, trivial⟩ ⟨rfl, rfl⟩
  refine PC.rg ?_; refine PL.op rfl (Rd.fieldO rfl rfl) ?_; refine PL.op rfl (Rd.loadO rfl rfl rfl) ?_; refine PL.op rfl (Rd.eql rfl rfl) ?_; refine PL.mT rfl rfl ?_; (iterate 6 refine PL.gf rfl rfl h_19 ?_); refine PL.op rfl (Rd.pick_f rfl h_19) ?_; refine PL.mT rfl rfl ?_; (iterate 3 refine PL.gf rfl rfl rfl ?_); refine PL.op rfl (Rd.pick_f rfl rfl) ?_; refine PL.aT rfl rfl ?_; refine PL.nn ?_; refine PC.cf rfl rfl ?_; refine PC.seq ?_; rcases cond_some hh0 with ⟨h_36, hh0⟩ | ⟨h_36, hh0⟩; rotate_left
  · refine PC.rg ?_; refine PL.op rfl (Rd.fieldO rfl rfl) ?_; refine PL.op rfl (Rd.loadO rfl rfl rfl) ?_; refine PL.op rfl (Rd.eql rfl rfl) ?_; refine PL.mT rfl rfl ?_; (iterate 6 refine PL.gf rfl rfl h_36 ?_); refine PL.op rfl (Rd.pick_f rfl h_36) ?_; refine PL.mT rfl rfl ?_; (iterate 7 refine PL.gf rfl rfl rfl ?_); refine PL.op rfl (Rd.pick_f rfl rfl) ?_; refine PL.aT rfl rfl ?_; refine PL.nn ?_; refine PC.cf rfl rfl ?_; refine PC.skip ?_; refine inA_n ?_; refine thA_n ?_; refine PC.seq ?_; refine PC.rg ?_; (iterate 2 refine PL.aT rfl rfl ?_); refine PL.nn ?_; refine PC.ret ?_; obtain rfl := some_in hh0; exact FinA.mk (r := .tup [.os 0 0 (((([] : List I_Column), false).1).length), bA ((([] : List I_Column), false).2)]) (bl := [⟨.tr (eL ((([] : List I_Column), false).1)), 138, 4⟩]) [none] (.inl rfl) rfl (rl := [.tmp 4, .tmp 5]) (.tmp (.tmp .nil)) rfl rfl rfl (.tupL ⟨.osn rfl, .t _, trivial⟩) ⟨ow_nil _, trivial⟩ ⟨rfl, rfl⟩
  obtain ⟨n37, h_38, hh0⟩ := bind_some hh0; obtain ⟨r39, h_40, hh0⟩ := bind_some hh0; rcases cond_some hh0 with ⟨h_41, hh0⟩ | ⟨h_41, hh0⟩; rotate_left
  · refine PC.rg ?_; refine PL.op rfl (Rd.fieldO rfl rfl) ?_; refine PL.op rfl (Rd.loadO rfl rfl rfl) ?_; refine PL.op rfl (Rd.eql rfl rfl) ?_; refine PL.mT rfl rfl ?_; refine PL.gn rfl h_36 ?_; refine PL.op rfl (Rd.fieldO rfl rfl) ?_; refine PL.gn rfl h_36 ?_; refine PL.op rfl (Rd.loadO rfl rfl rfl) ?_; refine PL.gn rfl h_36 ?_; refine PL.mT rfl rfl ?_; refine PL.gn rfl h_36 ?_; refine PL.op rfl (Rd.lenT rfl) ?_; refine PL.gn rfl h_36 ?_; refine PL.op rfl (Rd.subM rfl rfl h_38) ?_; refine PL.gn rfl h_36 ?_; refine PL.callM false [] (w_S_inRange N p_c.at_ (0 : Int) n37 r39 h_40) rfl Try.call52 rfl ⟨.t _, .t _, .t _, trivial⟩ rfl trivial (fun h => by cases h) ?_; refine PL.op rfl (Rd.pick_t rfl h_36) ?_; refine PL.mT rfl rfl ?_; (iterate 7 refine PL.gf rfl rfl h_41 ?_); refine PL.op rfl (Rd.pick_f rfl h_41) ?_; refine PL.aT rfl rfl ?_; refine PL.nn ?_; refine PC.cf rfl rfl ?_; refine PC.skip ?_; refine inA_n ?_; refine thA_n ?_; refine PC.seq ?_; refine PC.rg ?_; (iterate 2 refine PL.aT rfl rfl ?_); refine PL.nn ?_; refine PC.ret ?_; obtain rfl := some_in hh0; exact FinA.mk (r := .tup [.os 0 0 (((([] : List I_Column), false).1).length), bA ((([] : List I_Column), false).2)]) (bl := [⟨.tr (eL ((([] : List I_Column), false).1)), 138, 4⟩]) [none] (.inl rfl) rfl (rl := [.tmp 4, .tmp 5]) (.tmp (.tmp .nil)) rfl rfl rfl (.tupL ⟨.osn rfl, .t _, trivial⟩) ⟨ow_nil _, trivial⟩ ⟨rfl, rfl⟩
  obtain ⟨x42, h_43, hh0⟩ := bind_some hh0; refine PC.rg ?_; refine PL.op rfl (Rd.fieldO rfl rfl) ?_; refine PL.op rfl (Rd.loadO rfl rfl rfl) ?_; refine PL.op rfl (Rd.eql rfl rfl) ?_; refine PL.mT rfl rfl ?_; refine PL.gn rfl h_36 ?_; refine PL.op rfl (Rd.fieldO rfl rfl) ?_; refine PL.gn rfl h_36 ?_; refine PL.op rfl (Rd.loadO rfl rfl rfl) ?_; refine PL.gn rfl h_36 ?_; refine PL.mT rfl rfl ?_; refine PL.gn rfl h_36 ?_; refine PL.op rfl (Rd.lenT rfl) ?_; refine PL.gn rfl h_36 ?_; refine PL.op rfl (Rd.subM rfl rfl h_38) ?_; refine PL.gn rfl h_36 ?_; refine PL.callM false [] (w_S_inRange N p_c.at_ (0 : Int) n37 r39 h_40) rfl Try.call52 rfl ⟨.t _, .t _, .t _, trivial⟩ rfl trivial (fun h => by cases h) ?_; refine PL.op rfl (Rd.pick_t rfl h_36) ?_; refine PL.mT rfl rfl ?_; refine PL.gn rfl h_41 ?_; refine PL.mT rfl rfl ?_; refine PL.gn rfl h_41 ?_; refine PL.op rfl (Rd.fieldO rfl rfl) ?_; refine PL.gn rfl h_41 ?_; refine PL.op rfl (Rd.loadO rfl rfl rfl) ?_; refine PL.gn rfl h_41 ?_; refine PL.op rfl (Rd.ixM rfl rfl h_43) ?_; refine PL.gn rfl h_41 ?_; refine PL.op rfl (Rd.fieldT rfl) ?_; refine PL.gn rfl h_41 ?_; refine PL.op rfl (Rd.elMF (f := 0) rfl h_43 rfl rfl) ?_; refine PL.gn rfl h_41 ?_; refine PL.op rfl (Rd.eql rfl rfl) ?_; refine PL.op rfl (Rd.pick_t rfl h_41) ?_; refine PL.aT rfl rfl ?_; refine PL.nn ?_; rcases cond_some hh0 with ⟨h_44, hh0⟩ | ⟨h_44, hh0⟩; rotate_left
  · refine PC.cf rfl h_44 ?_; refine PC.skip ?_; refine inA_n ?_; refine thA_n ?_; refine PC.seq ?_; refine PC.rg ?_; (iterate 2 refine PL.aT rfl rfl ?_); refine PL.nn ?_; refine PC.ret ?_; obtain rfl := some_in hh0; exact FinA.mk (r := .tup [.os 0 0 (((([] : List I_Column), false).1).length), bA ((([] : List I_Column), false).2)]) (bl := [⟨.tr (eL ((([] : List I_Column), false).1)), 138, 4⟩]) [none] (.inl rfl) rfl (rl := [.tmp 4, .tmp 5]) (.tmp (.tmp .nil)) rfl rfl rfl (.tupL ⟨.osn rfl, .t _, trivial⟩) ⟨ow_nil _, trivial⟩ ⟨rfl, rfl⟩
  refine PC.ct rfl h_44 ?_; refine PC.seq ?_; obtain ⟨r45, h_46, hh0⟩ := bind_some hh0; refine PC.rg ?_; refine PL.mT rfl rfl ?_; refine PL.callM false [] (w_S_copyColumns N p_f r45 h_46) rfl Try.call100 rfl ⟨.t _, trivial⟩ rfl trivial (fun h => by cases h) ?_; refine PL.nm (.os 1 0 r45.length) [some ⟨.mx [iA p_c.kind, iA p_c.at_, iA p_c.column.kind, iA p_c.column.default.kind, iA p_c.column.default.num, sA p_c.column.default.text], 140, 0⟩, some ⟨.tr (eL r45), 138, 4⟩] rfl rfl ?_; refine PL.op rfl (Rd.asnO rfl) ?_; refine PL.nn ?_; refine PC.seq ?_; obtain ⟨x47, h_48, hh0⟩ := bind_some hh0; obtain ⟨r49, h_50, hh0⟩ := bind_some hh0; obtain ⟨x51, h_52, hh0⟩ := bind_some hh0; refine PC.any (id := 7) 12 (.seg [0, 1, 2, 3, 4, 5, 6, 7, 8, 9, 10, 11] .done) [] rfl (by kernel_rfl) rfl ?_; refine PT.seg ?_; refine PR.op rfl (Rd.moveO rfl) ?_; refine PR.op rfl (Rd.fieldO rfl rfl) ?_; refine PR.op rfl (Rd.loadO rfl rfl rfl) ?_; refine PR.op rfl (Rd.moveT rfl) ?_; refine PR.op rfl (Rd.fieldO rfl rfl) ?_; refine PR.op rfl (Rd.loadO rfl rfl rfl) ?_; refine PR.op rfl (Rd.ixM rfl rfl h_48) ?_; refine PR.op rfl (Rd.fieldT rfl) ?_; refine PR.op rfl (Rd.elMFR (f := 1) rfl h_48 rfl rfl rfl) ?_; refine PR.callM false [] (w_S_widen N x47.default r49 h_50) rfl Try.call109 rfl ⟨.aggL ⟨.t _, .t _, .t _, trivial⟩, trivial⟩ rfl trivial (fun h => by cases h) rfl ?_; refine PR.op rfl (Rd.build rfl rfl rfl rfl) ?_; refine PR.ixOM rfl rfl rfl rfl (ixI_lt h_52) ?_; refine PR.nil ?_; refine PT.done ?_; refine PL.stRM (I_Column.mk (2 : Int) r49) rfl rfl rfl rfl rfl h_52 rfl ?_; refine PL.nO [some ⟨.mx [iA p_c.kind, iA p_c.at_, iA p_c.column.kind, iA p_c.column.default.kind, iA p_c.column.default.num, sA p_c.column.default.text], 140, 0⟩, some ⟨.tr (eL (r45.set p_c.at_.toNat (I_Column.mk (2 : Int) r49))), 138, 4⟩] rfl ?_; refine PL.nn ?_; refine PC.seq ?_; refine PC.rg ?_; refine PL.op rfl (Rd.moveO rfl) ?_; refine PL.op rfl (Rd.asnO rfl) ?_; refine PL.aT rfl rfl ?_; refine PL.nn ?_; refine PC.ret ?_; refine inA_r ?_; refine thA_r ?_; obtain rfl := some_in hh0; exact FinA.mk (r := .tup [.os 0 0 ((((r45.set p_c.at_.toNat (I_Column.mk (2 : Int) r49)), true).1).length), bA (((r45.set p_c.at_.toNat (I_Column.mk (2 : Int) r49)), true).2)]) (bl := [⟨.tr (eL (((r45.set p_c.at_.toNat (I_Column.mk (2 : Int) r49)), true).1)), 138, 4⟩]) [some 1] (.inl rfl) rfl (rl := [.tmp 4, .tmp 5]) (.tmp (.tmp .nil)) rfl rfl rfl (.tupL ⟨.osE rfl (by simp only [List.length_set]), .t _, trivial⟩) ⟨⟨_, rfl, rfl, rfl, .tr _⟩, trivial⟩ ⟨rfl, rfl⟩
def m_S_formats_k1 (N : Nat) (v17 : (List (List I_Column))) : Option ((List (List I_Column)) × Bool) :=
  some (v17, true)
def m_S_formats_b1 (N : Nat) (p_list : (List I_Change)) (ok3 : Int) (v4 : (List (List I_Column))) : Option ((Int × (List (List I_Column))) ⊕ ((List (List I_Column)) ⊕ ((List (List I_Column)) × Bool))) :=
  cond (decide (ok3 < (p_list.length : Int)))
    ((ixI v4 ok3).bind fun x24 =>
    (ixI p_list ok3).bind fun x26 =>
    (m_S_change N x24 x26).bind fun r28 =>
    cond r28.2
      ((appM 24 v4 [r28.1]).bind fun xs31 =>
      (chk (ok3 + (1 : Int))).bind fun n33 =>
      some (.inl (n33, xs31)))
      (some (.inr (.inr (([] : List (List I_Column)), false)))))
    (some (.inr (.inl v4)))
def m_S_formats (N : Nat) (p_f : (List I_Column)) (p_list : (List I_Change)) : Option ((List (List I_Column)) × Bool) :=
  (m_S_copyColumns N p_f).bind fun r1 =>
  (loopM (β := (List (List I_Column)) ⊕ ((List (List I_Column)) × Bool)) (fun s : Int × (List (List I_Column)) => m_S_formats_b1 N p_list s.1 s.2) N ((0 : Int), [r1])).bind fun o => match o with
  | .inl e =>
    m_S_formats_k1 N e
  | .inr v =>
    some v
theorem w_S_formats (N : Nat) (p_f : (List I_Column)) (p_list : (List I_Change)) (r : (List (List I_Column)) × Bool) (hh0 : m_S_formats N p_f p_list = some r) : FnX Try.prog 82 [] [sL p_f, sL p_list] (RE (.tup [.os 0 0 r.1.length, bA r.2]) [⟨.tr (eL r.1), 75, 1⟩]) := by
  unfold m_S_formats at hh0; refine FnX.mk Try.func82 rfl rfl ?_; intro s hs; refine PC.seq ?_; refine PC.rg ?_; (iterate 2 refine PL.aT rfl rfl ?_); refine PL.nn ?_; refine PC.seq ?_; obtain ⟨r1, h_2, hh0⟩ := bind_some hh0; refine PC.rg ?_; refine PL.mT rfl rfl ?_; refine PL.callM false [] (w_S_copyColumns N p_f r1 h_2) rfl Try.call100 rfl ⟨.t _, trivial⟩ rfl trivial (fun h => by cases h) ?_; refine PL.nm (.os 0 0 r1.length) [some ⟨.tr (eL r1), 138, 4⟩] rfl rfl ?_; refine PL.frz hs 0 1 [(11, sL r1)] [none] rfl rfl ⟨(.own rfl (by decide) rfl rfl), trivial⟩ trivial ?_; refine PL.ef rfl (Ef.litM (α := (List I_Column)) [r1] [_] rfl rfl (by decide) rfl rfl rfl rfl) ?_; refine PL.nm (.os 1 0 1) [none, some ⟨.tr (eL [r1]), 75, 1⟩] rfl rfl ?_; refine PL.op rfl (Rd.asnO rfl) ?_; refine PL.nn ?_; (iterate 2 refine PC.seq ?_); refine PC.rg ?_; refine PL.aT rfl rfl ?_; refine PL.nn ?_; obtain ⟨o18, h_19, hh0⟩ := bind_some hh0; refine PC.cutE hs (fun x : (List (List I_Column)) => [(6, .os 0 0 x.length)]) (fun x => [⟨.tr (eL x), 75, 1⟩]) (fun x => m_S_formats_k1 N x = some r) ?_ ?_
  · refine PC.block ?_; refine PC.loop hs (fun x : Nat × (Int × (List (List I_Column))) => [(1, sL p_list), (6, .os 0 0 x.2.2.length), (7, iA x.2.1)]) (fun x => [⟨.tr (eL x.2.2), 75, 1⟩]) (fun x => loopM (β := (List (List I_Column)) ⊕ ((List (List I_Column)) × Bool)) (fun s : Int × (List (List I_Column)) => m_S_formats_b1 N p_list s.1 s.2) x.1 x.2 = some o18) (fun x => x.1) (N, ((0 : Int), [r1])) [some 1] ⟨rfl, rfl, ⟨⟨_, rfl, rfl, rfl, .tr _⟩, trivial⟩, ⟨.t _, .os rfl, .t _, trivial⟩⟩ h_19 ?_
    rintro ⟨f20_, ok3, v4⟩ h_22
    obtain ⟨f20, y21, rfl, hh1, kk1⟩ := loopM_some h_22
    replace hh1 : m_S_formats_b1 N p_list ok3 v4 = some y21 := hh1
    unfold m_S_formats_b1 at hh1; (iterate 2 refine PC.seq ?_); refine PC.rg ?_; (iterate 2 refine PL.mT rfl rfl ?_); refine PL.op rfl (Rd.lenT rfl) ?_; refine PL.op rfl (Rd.lss rfl rfl) ?_; refine PL.nn ?_; rcases cond_some hh1 with ⟨h_23, hh1⟩ | ⟨h_23, hh1⟩; rotate_left
    · refine PC.cf rfl h_23 ?_; refine PC.exit ?_; (iterate 2 refine thA_e ?_); refine inA_eq rfl ?_; refine thA_n ?_; obtain rfl := some_in hh1; obtain rfl : (.inl v4 : (List (List I_Column)) ⊕ ((List (List I_Column)) × Bool)) = o18 := kk1; exact ⟨v4, hh0, [some 0], ⟨rfl, rfl, ⟨⟨_, rfl, rfl, rfl, .tr _⟩, trivial⟩, ⟨.os rfl, trivial⟩⟩⟩
    refine PC.ct rfl h_23 ?_; refine PC.skip ?_; refine thA_n ?_; refine PC.seq ?_; refine PC.block ?_; refine PC.seq ?_; obtain ⟨x24, h_25, hh1⟩ := bind_some hh1; obtain ⟨x26, h_27, hh1⟩ := bind_some hh1; obtain ⟨r28, h_29, hh1⟩ := bind_some hh1; refine PC.any (id := 5) 14 (.seg [0, 1, 2, 3, 4, 5, 6, 7, 8, 9, 10, 11, 12, 13] .done) [] rfl (by kernel_rfl) rfl ?_; refine PT.seg ?_; refine PR.op rfl (Rd.moveO rfl) ?_; refine PR.op rfl (Rd.moveT rfl) ?_; refine PR.ixOM rfl rfl rfl rfl (ixI_lt h_25) ?_; refine PR.op rfl (Rd.owM1 rfl rfl h_25 rfl rfl) ?_; (iterate 2 refine PR.op rfl (Rd.moveT rfl) ?_); refine PR.op rfl (Rd.ixM rfl rfl h_27) ?_; refine PR.op rfl (Rd.elMR rfl h_27 rfl rfl) ?_; refine PR.callM false [] (w_S_change N x24 x26 r28 h_29) rfl Try.call99 rfl ⟨.t _, .aggL ⟨.t _, .t _, .t _, .t _, .t _, .t _, trivial⟩, trivial⟩ rfl trivial (fun h => by cases h) rfl ?_; refine PR.nm (.tup [.os 1 0 r28.1.length, bA r28.2]) [some ⟨.tr (eL v4), 75, 1⟩, some ⟨.tr (eL r28.1), 138, 4⟩] rfl rfl ?_; refine PR.op rfl (Rd.moveU rfl) ?_; (iterate 2 refine PR.op rfl (Rd.extract rfl rfl) ?_); refine PR.op rfl (Rd.asnO rfl) ?_; refine PR.op rfl (Rd.asnT rfl) ?_; refine PR.nil ?_; refine PT.done ?_; refine PL.nn ?_; (iterate 2 refine PC.seq ?_); refine PC.rg ?_; refine PL.mT rfl rfl ?_; refine PL.op rfl (Rd.unnot rfl) ?_; refine PL.nn ?_; rcases cond_some hh1 with ⟨h_30, hh1⟩ | ⟨h_30, hh1⟩; rotate_left
    · refine PC.ct rfl (not_f h_30) ?_; refine PC.seq ?_; refine PC.rg ?_; (iterate 2 refine PL.aT rfl rfl ?_); refine PL.nn ?_; refine PC.ret ?_; refine thA_r ?_; refine inA_r ?_; (iterate 2 refine thA_r ?_); refine inA_r ?_; refine thA_r ?_; obtain rfl := some_in hh1; obtain rfl : (.inr (([] : List (List I_Column)), false) : (List (List I_Column)) ⊕ ((List (List I_Column)) × Bool)) = o18 := kk1; refine thA_r ?_; obtain rfl := some_in hh0; exact FinA.mk (r := .tup [.os 0 0 (((([] : List (List I_Column)), false).1).length), bA ((([] : List (List I_Column)), false).2)]) (bl := [⟨.tr (eL ((([] : List (List I_Column)), false).1)), 75, 1⟩]) [none] (.inl rfl) rfl (rl := [.tmp 4, .tmp 5]) (.tmp (.tmp .nil)) rfl rfl rfl (.tupL ⟨.osn rfl, .t _, trivial⟩) ⟨ow_nil _, trivial⟩ ⟨rfl, rfl⟩
    refine PC.cf rfl (not_t h_30) ?_; refine PC.skip ?_; refine thA_n ?_; obtain ⟨xs31, h_32, hh1⟩ := bind_some hh1; refine PC.rg ?_; (iterate 2 refine PL.op rfl (Rd.moveO rfl) ?_); refine PL.frz hs 1 2 [(28, .tup [sL r28.1, bA r28.2]), (19, .tup [sL r28.1, bA r28.2]), (29, sL r28.1), (8, sL r28.1), (34, sL r28.1)] [some ⟨.tr (eL v4), 75, 1⟩, none] rfl rfl ⟨(.tupL ⟨(.own rfl (by decide) rfl rfl), (.t _), trivial⟩), (.tupL ⟨(.own rfl (by decide) rfl rfl), (.t _), trivial⟩), (.own rfl (by decide) rfl rfl), (.own rfl (by decide) rfl rfl), (.own rfl (by decide) rfl rfl), trivial⟩ ⟨⟨rfl, .inl rfl⟩, trivial⟩ ?_; refine PL.ef rfl (Ef.litM (α := (List I_Column)) [r28.1] [_] rfl rfl (by decide) rfl rfl rfl rfl) ?_; refine PL.nm (.os 2 0 1) [some ⟨.tr (eL v4), 75, 1⟩, none, some ⟨.tr (eL [r28.1]), 75, 1⟩] rfl rfl ?_; refine PL.apM hs rfl rfl rfl rfl (SrcA.ownE rfl rfl rfl) rfl rfl rfl rfl h_32 ?_; refine PL.nm (.os 3 0 xs31.length) [none, none, some ⟨.tr (eL [r28.1]), 75, 1⟩, some ⟨.tr (eL xs31), 75, 1⟩] rfl rfl ?_; refine PL.op rfl (Rd.asnO rfl) ?_; refine PL.nil ?_; refine inA_n ?_; refine thA_n ?_; obtain ⟨n33, h_34, hh1⟩ := bind_some hh1; refine PC.rg ?_; refine PL.mT rfl rfl ?_; refine PL.op rfl (Rd.addM rfl rfl h_34) ?_; refine PL.aT rfl rfl ?_; refine PL.nil ?_; obtain rfl := some_in hh1; refine thA_n ?_; exact ⟨(f20, (n33, xs31)), Nat.lt_succ_self _, kk1, [some 3], ⟨rfl, rfl, ⟨⟨_, rfl, rfl, rfl, .tr _⟩, trivial⟩, ⟨.t _, .os rfl, .t _, trivial⟩⟩⟩
  clear hh0
  rintro v17 hh0
  replace hh0 : m_S_formats_k1 N v17 = some r := hh0
  unfold m_S_formats_k1 at hh0; refine thA_n ?_; refine PC.seq ?_; refine PC.rg ?_; refine PL.op rfl (Rd.moveO rfl) ?_; refine PL.op rfl (Rd.asnO rfl) ?_; refine PL.aT rfl rfl ?_; refine PL.nn ?_; refine PC.ret ?_; obtain rfl := some_in hh0; exact FinA.mk (r := .tup [.os 0 0 (((v17, true).1).length), bA ((v17, true).2)]) (bl := [⟨.tr (eL ((v17, true).1)), 75, 1⟩]) [some 0] (.inl rfl) rfl (rl := [.tmp 4, .tmp 5]) (.tmp (.tmp .nil)) rfl rfl rfl (.tupL ⟨.os rfl, .t _, trivial⟩) ⟨⟨_, rfl, rfl, rfl, .tr _⟩, trivial⟩ ⟨rfl, rfl⟩
def m_S_validChain (N : Nat) (p_f : (List I_Column)) (p_list : (List I_Change)) : Option (Bool) :=
  (m_S_validFormat N p_f).bind fun r1 =>
  cond r1
    (cond (decide ((8 : Int) < (p_list.length : Int)))
      (some false)
      ((m_S_formats N p_f p_list).bind fun r5 =>
      some r5.2))
    (some false)
theorem w_S_validChain (N : Nat) (p_f : (List I_Column)) (p_list : (List I_Change)) (r : Bool) (hh0 : m_S_validChain N p_f p_list = some r) : FnX Try.prog 88 [] [sL p_f, sL p_list] (RE (bA r) []) := by
  unfold m_S_validChain at hh0; refine FnX.mk Try.func88 rfl rfl ?_; intro s hs; refine PC.seq ?_; refine PC.rg ?_; refine PL.aT rfl rfl ?_; refine PL.nn ?_; (iterate 2 refine PC.seq ?_); obtain ⟨r1, h_2, hh0⟩ := bind_some hh0; rcases cond_some hh0 with ⟨h_3, hh0⟩ | ⟨h_3, hh0⟩; rotate_left
  · refine PC.rg ?_; refine PL.mT rfl rfl ?_; refine PL.callM false [] (w_S_validFormat N p_f r1 h_2) rfl Try.call103 rfl ⟨.t _, trivial⟩ rfl trivial (fun h => by cases h) ?_; refine PL.op rfl (Rd.unnot rfl) ?_; refine PL.mT rfl rfl ?_; (iterate 3 refine PL.gf rfl rfl (not_f h_3) ?_); refine PL.op rfl (Rd.pick_t rfl (not_f h_3)) ?_; refine PL.nn ?_; refine PC.ct rfl rfl ?_; refine PC.seq ?_; refine PC.rg ?_; refine PL.aT rfl rfl ?_; refine PL.nn ?_; refine PC.ret ?_; refine thA_r ?_; obtain rfl := some_in hh0; exact FinA.mk (r := bA false) (bl := []) [] (.inl rfl) rfl (rl := [.tmp 4]) (.tmp .nil) rfl rfl rfl (.t _) trivial ⟨rfl, rfl⟩
  refine PC.rg ?_; refine PL.mT rfl rfl ?_; refine PL.callM false [] (w_S_validFormat N p_f r1 h_2) rfl Try.call103 rfl ⟨.t _, trivial⟩ rfl trivial (fun h => by cases h) ?_; refine PL.op rfl (Rd.unnot rfl) ?_; refine PL.mT rfl rfl ?_; refine PL.gn rfl (not_t h_3) ?_; refine PL.mT rfl rfl ?_; refine PL.gn rfl (not_t h_3) ?_; refine PL.op rfl (Rd.lenT rfl) ?_; refine PL.gn rfl (not_t h_3) ?_; refine PL.op rfl (Rd.gtr rfl rfl) ?_; refine PL.op rfl (Rd.pick_f rfl (not_t h_3)) ?_; refine PL.nn ?_; rcases cond_some hh0 with ⟨h_4, hh0⟩ | ⟨h_4, hh0⟩
  · refine PC.ct rfl h_4 ?_; refine PC.seq ?_; refine PC.rg ?_; refine PL.aT rfl rfl ?_; refine PL.nn ?_; refine PC.ret ?_; refine thA_r ?_; obtain rfl := some_in hh0; exact FinA.mk (r := bA false) (bl := []) [] (.inl rfl) rfl (rl := [.tmp 4]) (.tmp .nil) rfl rfl rfl (.t _) trivial ⟨rfl, rfl⟩
  refine PC.cf rfl h_4 ?_; refine PC.skip ?_; refine thA_n ?_; refine PC.seq ?_; obtain ⟨r5, h_6, hh0⟩ := bind_some hh0; refine PC.rg ?_; (iterate 2 refine PL.mT rfl rfl ?_); refine PL.callM false [] (w_S_formats N p_f p_list r5 h_6) rfl Try.call82 rfl ⟨.t _, .t _, trivial⟩ rfl trivial (fun h => by cases h) ?_; refine PL.nm (.tup [.os 0 0 r5.1.length, bA r5.2]) [some ⟨.tr (eL r5.1), 75, 1⟩] rfl rfl ?_; refine PL.op rfl (Rd.moveU rfl) ?_; (iterate 2 refine PL.op rfl (Rd.extract rfl rfl) ?_); refine PL.op rfl (Rd.asnO rfl) ?_; refine PL.aT rfl rfl ?_; refine PL.nn ?_; refine PC.seq ?_; refine PC.rg ?_; refine PL.mT rfl rfl ?_; refine PL.aT rfl rfl ?_; refine PL.nn ?_; refine PC.ret ?_; obtain rfl := some_in hh0; exact FinA.mk (r := bA r5.2) (bl := []) [] (.inl rfl) rfl (rl := [.tmp 4]) (.tmp .nil) rfl rfl rfl (.t _) trivial ⟨rfl, rfl⟩
def m_S_validRow_k1 (N : Nat) (p_row : (List I_Value)) : Option (Bool) :=
  some (decide ((p_row.length : Int) ≤ (5 : Int)))
def m_S_validRow_b1 (N : Nat) (p_row : (List I_Value)) (i1 : Int) : Option (Int ⊕ (Unit ⊕ Bool)) :=
  cond (decide (i1 < (p_row.length : Int)))
    ((ixI p_row i1).bind fun x16 =>
    (m_S_validValue N x16).bind fun r18 =>
    cond r18
      ((chk (i1 + (1 : Int))).bind fun n21 =>
      some (.inl n21))
      (some (.inr (.inr false))))
    (some (.inr (.inl ())))
def m_S_validRow (N : Nat) (p_row : (List I_Value)) : Option (Bool) :=
  (loopM (β := Unit ⊕ Bool) (fun s : Int => m_S_validRow_b1 N p_row s) N (0 : Int)).bind fun o => match o with
  | .inl e =>
    m_S_validRow_k1 N p_row 
  | .inr v =>
    some v
theorem w_S_validRow (N : Nat) (p_row : (List I_Value)) (r : Bool) (hh0 : m_S_validRow N p_row = some r) : FnX Try.prog 104 [] [sL p_row] (RE (bA r) []) := by
  unfold m_S_validRow at hh0; refine FnX.mk Try.func104 rfl rfl ?_; intro s hs; refine PC.seq ?_; refine PC.rg ?_; refine PL.aT rfl rfl ?_; refine PL.nn ?_; (iterate 2 refine PC.seq ?_); refine PC.rg ?_; refine PL.aT rfl rfl ?_; refine PL.nn ?_; obtain ⟨o10, h_11, hh0⟩ := bind_some hh0; refine PC.cutE hs (fun x : Unit => [(0, sL p_row)]) (fun x => []) (fun x => m_S_validRow_k1 N p_row  = some r) ?_ ?_
  · refine PC.block ?_; refine PC.loop hs (fun x : Nat × (Int) => [(0, sL p_row), (3, iA x.2)]) (fun x => []) (fun x => loopM (β := Unit ⊕ Bool) (fun s : Int => m_S_validRow_b1 N p_row s) x.1 x.2 = some o10) (fun x => x.1) (N, (0 : Int)) [] ⟨rfl, rfl, trivial, ⟨.t _, .t _, trivial⟩⟩ h_11 ?_
    rintro ⟨f12_, i1⟩ h_14
    obtain ⟨f12, y13, rfl, hh1, kk1⟩ := loopM_some h_14
    replace hh1 : m_S_validRow_b1 N p_row i1 = some y13 := hh1
    unfold m_S_validRow_b1 at hh1; (iterate 2 refine PC.seq ?_); refine PC.rg ?_; (iterate 2 refine PL.mT rfl rfl ?_); refine PL.op rfl (Rd.lenT rfl) ?_; refine PL.op rfl (Rd.lss rfl rfl) ?_; refine PL.nn ?_; rcases cond_some hh1 with ⟨h_15, hh1⟩ | ⟨h_15, hh1⟩; rotate_left
    · refine PC.cf rfl h_15 ?_; refine PC.exit ?_; (iterate 2 refine thA_e ?_); refine inA_eq rfl ?_; refine thA_n ?_; obtain rfl := some_in hh1; obtain rfl : (.inl () : Unit ⊕ Bool) = o10 := kk1; exact ⟨(), hh0, [], ⟨rfl, rfl, trivial, ⟨.t _, trivial⟩⟩⟩
    refine PC.ct rfl h_15 ?_; refine PC.skip ?_; refine thA_n ?_; refine PC.seq ?_; refine PC.block ?_; refine PC.seq ?_; obtain ⟨x16, h_17, hh1⟩ := bind_some hh1; obtain ⟨r18, h_19, hh1⟩ := bind_some hh1; refine PC.rg ?_; (iterate 2 refine PL.mT rfl rfl ?_); refine PL.op rfl (Rd.ixM rfl rfl h_17) ?_; refine PL.op rfl (Rd.elMR rfl h_17 rfl rfl) ?_; refine PL.callM false [] (w_S_validValue N x16 r18 h_19) rfl Try.call38 rfl ⟨.aggL ⟨.t _, .t _, .t _, trivial⟩, trivial⟩ rfl trivial (fun h => by cases h) ?_; refine PL.op rfl (Rd.unnot rfl) ?_; refine PL.nn ?_; rcases cond_some hh1 with ⟨h_20, hh1⟩ | ⟨h_20, hh1⟩
    · refine PC.cf rfl (not_t h_20) ?_; refine PC.skip ?_; refine inA_n ?_; refine thA_n ?_; obtain ⟨n21, h_22, hh1⟩ := bind_some hh1; refine PC.rg ?_; refine PL.mT rfl rfl ?_; refine PL.op rfl (Rd.addM rfl rfl h_22) ?_; refine PL.aT rfl rfl ?_; refine PL.nil ?_; obtain rfl := some_in hh1; refine thA_n ?_; exact ⟨(f12, n21), Nat.lt_succ_self _, kk1, [], ⟨rfl, rfl, trivial, ⟨.t _, .t _, trivial⟩⟩⟩
    refine PC.ct rfl (not_f h_20) ?_; refine PC.seq ?_; refine PC.rg ?_; refine PL.aT rfl rfl ?_; refine PL.nn ?_; refine PC.ret ?_; refine inA_r ?_; (iterate 2 refine thA_r ?_); refine inA_r ?_; refine thA_r ?_; obtain rfl := some_in hh1; obtain rfl : (.inr false : Unit ⊕ Bool) = o10 := kk1; refine thA_r ?_; obtain rfl := some_in hh0; exact FinA.mk (r := bA false) (bl := []) [] (.inl rfl) rfl (rl := [.tmp 2]) (.tmp .nil) rfl rfl rfl (.t _) trivial ⟨rfl, rfl⟩
  clear hh0
  rintro ⟨⟩ hh0
  replace hh0 : m_S_validRow_k1 N p_row  = some r := hh0
  unfold m_S_validRow_k1 at hh0; refine thA_n ?_; refine PC.seq ?_; refine PC.rg ?_; refine PL.mT rfl rfl ?_; refine PL.op rfl (Rd.lenT rfl) ?_; refine PL.op rfl (Rd.leq rfl rfl) ?_; refine PL.aT rfl rfl ?_; refine PL.nn ?_; refine PC.ret ?_; obtain rfl := some_in hh0; exact FinA.mk (r := bA (decide ((p_row.length : Int) ≤ (5 : Int)))) (bl := []) [] (.inl rfl) rfl (rl := [.tmp 2]) (.tmp .nil) rfl rfl rfl (.t _) trivial ⟨rfl, rfl⟩
def m_S_fits_k1 (N : Nat) : Option (Bool) :=
  some true
def m_S_fits_b1 (N : Nat) (p_f : (List I_Column)) (p_row : (List I_Value)) (i5 : Int) : Option (Int ⊕ (Unit ⊕ Bool)) :=
  cond (decide (i5 < (p_row.length : Int)))
    ((ixI p_row i5).bind fun x25 =>
    cond (decide (x25.kind = (0 : Int)))
      ((chk (i5 + (1 : Int))).bind fun n32 =>
      some (.inl n32))
      ((ixI p_row i5).bind fun x28 =>
      (ixI p_f i5).bind fun x30 =>
      cond (decide (x28.kind = x30.kind))
        ((chk (i5 + (1 : Int))).bind fun n35 =>
        some (.inl n35))
        (some (.inr (.inr false)))))
    (some (.inr (.inl ())))
def m_S_fits (N : Nat) (p_f : (List I_Column)) (p_row : (List I_Value)) : Option (Bool) :=
  cond (decide ((p_row.length : Int) = (p_f.length : Int)))
    ((m_S_validRow N p_row).bind fun r2 =>
    cond r2
      ((loopM (β := Unit ⊕ Bool) (fun s : Int => m_S_fits_b1 N p_f p_row s) N (0 : Int)).bind fun o => match o with
      | .inl e =>
        m_S_fits_k1 N 
      | .inr v =>
        some v)
      (some false))
    (some false)
theorem w_S_fits (N : Nat) (p_f : (List I_Column)) (p_row : (List I_Value)) (r : Bool) (hh0 : m_S_fits N p_f p_row = some r) : FnX Try.prog 89 [] [sL p_f, sL p_row] (RE (bA r) []) := by
  unfold m_S_fits at hh0; refine FnX.mk Try.func89 rfl rfl ?_; intro s hs; refine PC.seq ?_; refine PC.rg ?_; refine PL.aT rfl rfl ?_; refine PL.nn ?_; (iterate 2 refine PC.seq ?_); rcases cond_some hh0 with ⟨h_1, hh0⟩ | ⟨h_1, hh0⟩; rotate_left
  · refine PC.rg ?_; refine PL.mT rfl rfl ?_; refine PL.op rfl (Rd.lenT rfl) ?_; refine PL.mT rfl rfl ?_; refine PL.op rfl (Rd.lenT rfl) ?_; refine PL.op rfl (Rd.neq rfl rfl) ?_; refine PL.mT rfl rfl ?_; (iterate 3 refine PL.gf rfl rfl (not_f h_1) ?_); refine PL.op rfl (Rd.pick_t rfl (not_f h_1)) ?_; refine PL.nn ?_; refine PC.ct rfl rfl ?_; refine PC.seq ?_; refine PC.rg ?_; refine PL.aT rfl rfl ?_; refine PL.nn ?_; refine PC.ret ?_; refine thA_r ?_; obtain rfl := some_in hh0; exact FinA.mk (r := bA false) (bl := []) [] (.inl rfl) rfl (rl := [.tmp 4]) (.tmp .nil) rfl rfl rfl (.t _) trivial ⟨rfl, rfl⟩
  obtain ⟨r2, h_3, hh0⟩ := bind_some hh0; refine PC.rg ?_; refine PL.mT rfl rfl ?_; refine PL.op rfl (Rd.lenT rfl) ?_; refine PL.mT rfl rfl ?_; refine PL.op rfl (Rd.lenT rfl) ?_; refine PL.op rfl (Rd.neq rfl rfl) ?_; refine PL.mT rfl rfl ?_; refine PL.gn rfl (not_t h_1) ?_; refine PL.mT rfl rfl ?_; refine PL.gn rfl (not_t h_1) ?_; refine PL.callM false [] (w_S_validRow N p_row r2 h_3) rfl Try.call104 rfl ⟨.t _, trivial⟩ rfl trivial (fun h => by cases h) ?_; refine PL.gn rfl (not_t h_1) ?_; refine PL.op rfl (Rd.unnot rfl) ?_; refine PL.op rfl (Rd.pick_f rfl (not_t h_1)) ?_; refine PL.nn ?_; rcases cond_some hh0 with ⟨h_4, hh0⟩ | ⟨h_4, hh0⟩; rotate_left
  · refine PC.ct rfl (not_f h_4) ?_; refine PC.seq ?_; refine PC.rg ?_; refine PL.aT rfl rfl ?_; refine PL.nn ?_; refine PC.ret ?_; refine thA_r ?_; obtain rfl := some_in hh0; exact FinA.mk (r := bA false) (bl := []) [] (.inl rfl) rfl (rl := [.tmp 4]) (.tmp .nil) rfl rfl rfl (.t _) trivial ⟨rfl, rfl⟩
  refine PC.cf rfl (not_t h_4) ?_; refine PC.skip ?_; refine thA_n ?_; (iterate 2 refine PC.seq ?_); refine PC.rg ?_; refine PL.aT rfl rfl ?_; refine PL.nn ?_; obtain ⟨o19, h_20, hh0⟩ := bind_some hh0; refine PC.cutE hs (fun x : Unit => []) (fun x => []) (fun x => m_S_fits_k1 N  = some r) ?_ ?_
  · refine PC.block ?_; refine PC.loop hs (fun x : Nat × (Int) => [(0, sL p_f), (1, sL p_row), (5, iA x.2)]) (fun x => []) (fun x => loopM (β := Unit ⊕ Bool) (fun s : Int => m_S_fits_b1 N p_f p_row s) x.1 x.2 = some o19) (fun x => x.1) (N, (0 : Int)) [] ⟨rfl, rfl, trivial, ⟨.t _, .t _, .t _, trivial⟩⟩ h_20 ?_
    rintro ⟨f21_, i5⟩ h_23
    obtain ⟨f21, y22, rfl, hh1, kk1⟩ := loopM_some h_23
    replace hh1 : m_S_fits_b1 N p_f p_row i5 = some y22 := hh1
    unfold m_S_fits_b1 at hh1; (iterate 2 refine PC.seq ?_); refine PC.rg ?_; (iterate 2 refine PL.mT rfl rfl ?_); refine PL.op rfl (Rd.lenT rfl) ?_; refine PL.op rfl (Rd.lss rfl rfl) ?_; refine PL.nn ?_; rcases cond_some hh1 with ⟨h_24, hh1⟩ | ⟨h_24, hh1⟩; rotate_left
    · refine PC.cf rfl h_24 ?_; refine PC.exit ?_; (iterate 2 refine thA_e ?_); refine inA_eq rfl ?_; refine thA_n ?_; obtain rfl := some_in hh1; obtain rfl : (.inl () : Unit ⊕ Bool) = o19 := kk1; exact ⟨(), hh0, [], ⟨rfl, rfl, trivial, trivial⟩⟩
    refine PC.ct rfl h_24 ?_; refine PC.skip ?_; refine thA_n ?_; refine PC.seq ?_; refine PC.block ?_; refine PC.seq ?_; obtain ⟨x25, h_26, hh1⟩ := bind_some hh1; rcases cond_some hh1 with ⟨h_27, hh1⟩ | ⟨h_27, hh1⟩
    · refine PC.any (id := 6) 19 (.seg [0, 1, 2, 3, 4, 5, 6, 7, 8, 9, 10, 11, 12, 13, 14, 15, 16, 17, 18] .done) [] rfl (by kernel_rfl) rfl ?_; refine PT.seg ?_; (iterate 2 refine PR.op rfl (Rd.moveT rfl) ?_); refine PR.op rfl (Rd.ixM rfl rfl h_26) ?_; refine PR.op rfl (Rd.fieldT rfl) ?_; refine PR.op rfl (Rd.elMF (f := 0) rfl h_26 rfl rfl) ?_; refine PR.op rfl (Rd.neq rfl rfl) ?_; refine PR.op rfl (Rd.moveT rfl) ?_; (iterate 11 refine PR.guard_off rfl rfl (not_t h_27) ?_); refine PR.op rfl (Rd.pick_f rfl (not_t h_27)) ?_; refine PR.nil ?_; refine PT.done ?_; refine PL.nn ?_; refine PC.cf rfl rfl ?_; refine PC.skip ?_; refine inA_n ?_; refine thA_n ?_; obtain ⟨n32, h_33, hh1⟩ := bind_some hh1; refine PC.rg ?_; refine PL.mT rfl rfl ?_; refine PL.op rfl (Rd.addM rfl rfl h_33) ?_; refine PL.aT rfl rfl ?_; refine PL.nil ?_; obtain rfl := some_in hh1; refine thA_n ?_; exact ⟨(f21, n32), Nat.lt_succ_self _, kk1, [], ⟨rfl, rfl, trivial, ⟨.t _, .t _, .t _, trivial⟩⟩⟩
    obtain ⟨x28, h_29, hh1⟩ := bind_some hh1; obtain ⟨x30, h_31, hh1⟩ := bind_some hh1; refine PC.any (id := 6) 19 (.seg [0, 1, 2, 3, 4, 5, 6, 7, 8, 9, 10, 11, 12, 13, 14, 15, 16, 17, 18] .done) [] rfl (by kernel_rfl) rfl ?_; refine PT.seg ?_; (iterate 2 refine PR.op rfl (Rd.moveT rfl) ?_); refine PR.op rfl (Rd.ixM rfl rfl h_26) ?_; refine PR.op rfl (Rd.fieldT rfl) ?_; refine PR.op rfl (Rd.elMF (f := 0) rfl h_26 rfl rfl) ?_; refine PR.op rfl (Rd.neq rfl rfl) ?_; refine PR.op rfl (Rd.moveT rfl) ?_; refine PR.guard_on rfl rfl (not_f h_27) ?_; refine PR.op rfl (Rd.moveT rfl) ?_; refine PR.guard_on rfl rfl (not_f h_27) ?_; refine PR.op rfl (Rd.moveT rfl) ?_; refine PR.guard_on rfl rfl (not_f h_27) ?_; refine PR.op rfl (Rd.ixM rfl rfl h_29) ?_; refine PR.guard_on rfl rfl (not_f h_27) ?_; refine PR.op rfl (Rd.fieldT rfl) ?_; refine PR.guard_on rfl rfl (not_f h_27) ?_; refine PR.op rfl (Rd.elMF (f := 0) rfl h_29 rfl rfl) ?_; refine PR.guard_on rfl rfl (not_f h_27) ?_; refine PR.op rfl (Rd.moveT rfl) ?_; refine PR.guard_on rfl rfl (not_f h_27) ?_; refine PR.op rfl (Rd.moveT rfl) ?_; refine PR.guard_on rfl rfl (not_f h_27) ?_; refine PR.op rfl (Rd.ixM rfl rfl h_31) ?_; refine PR.guard_on rfl rfl (not_f h_27) ?_; refine PR.op rfl (Rd.fieldT rfl) ?_; refine PR.guard_on rfl rfl (not_f h_27) ?_; refine PR.op rfl (Rd.elMF (f := 0) rfl h_31 rfl rfl) ?_; refine PR.guard_on rfl rfl (not_f h_27) ?_; refine PR.op rfl (Rd.neq rfl rfl) ?_; refine PR.op rfl (Rd.pick_t rfl (not_f h_27)) ?_; refine PR.nil ?_; refine PT.done ?_; refine PL.nn ?_; rcases cond_some hh1 with ⟨h_34, hh1⟩ | ⟨h_34, hh1⟩
    · refine PC.cf rfl (not_t h_34) ?_; refine PC.skip ?_; refine inA_n ?_; refine thA_n ?_; obtain ⟨n35, h_36, hh1⟩ := bind_some hh1; refine PC.rg ?_; refine PL.mT rfl rfl ?_; refine PL.op rfl (Rd.addM rfl rfl h_36) ?_; refine PL.aT rfl rfl ?_; refine PL.nil ?_; obtain rfl := some_in hh1; refine thA_n ?_; exact ⟨(f21, n35), Nat.lt_succ_self _, kk1, [], ⟨rfl, rfl, trivial, ⟨.t _, .t _, .t _, trivial⟩⟩⟩
    refine PC.ct rfl (not_f h_34) ?_; refine PC.seq ?_; refine PC.rg ?_; refine PL.aT rfl rfl ?_; refine PL.nn ?_; refine PC.ret ?_; refine inA_r ?_; (iterate 2 refine thA_r ?_); refine inA_r ?_; refine thA_r ?_; obtain rfl := some_in hh1; obtain rfl : (.inr false : Unit ⊕ Bool) = o19 := kk1; refine thA_r ?_; obtain rfl := some_in hh0; exact FinA.mk (r := bA false) (bl := []) [] (.inl rfl) rfl (rl := [.tmp 4]) (.tmp .nil) rfl rfl rfl (.t _) trivial ⟨rfl, rfl⟩
  clear hh0
  rintro ⟨⟩ hh0
  replace hh0 : m_S_fits_k1 N  = some r := hh0
  unfold m_S_fits_k1 at hh0; refine thA_n ?_; refine PC.seq ?_; refine PC.rg ?_; refine PL.aT rfl rfl ?_; refine PL.nn ?_; refine PC.ret ?_; obtain rfl := some_in hh0; exact FinA.mk (r := bA true) (bl := []) [] (.inl rfl) rfl (rl := [.tmp 4]) (.tmp .nil) rfl rfl rfl (.t _) trivial ⟨rfl, rfl⟩
def m_S_validTable_k1 (N : Nat) : Option (Bool) :=
  some true
def m_S_validTable_b1 (N : Nat) (p_t : I_Table) (r5 : ((List (List I_Column)) × Bool)) (i7 : Int) : Option (Int ⊕ (Unit ⊕ Bool)) :=
  cond (decide (i7 < (p_t.rows.length : Int)))
    ((ixI p_t.rows i7).bind fun x31 =>
    (m_S_inRange N x31.tag (0 : Int) (p_t.changes.length : Int)).bind fun r33 =>
    cond r33
      ((ixI p_t.rows i7).bind fun x36 =>
      (ixI r5.1 x36.tag).bind fun x38 =>
      (ixI p_t.rows i7).bind fun x40 =>
      (m_S_fits N x38 x40.row).bind fun r42 =>
      cond r42
        ((chk (i7 + (1 : Int))).bind fun n45 =>
        some (.inl n45))
        (some (.inr (.inr false))))
      (some (.inr (.inr false))))
    (some (.inr (.inl ())))
def m_S_validTable (N : Nat) (p_t : I_Table) : Option (Bool) :=
  (m_S_validChain N p_t.first p_t.changes).bind fun r1 =>
  cond r1
    (cond (decide ((10 : Int) < (p_t.rows.length : Int)))
      (some false)
      ((m_S_formats N p_t.first p_t.changes).bind fun r5 =>
      (loopM (β := Unit ⊕ Bool) (fun s : Int => m_S_validTable_b1 N p_t r5 s) N (0 : Int)).bind fun o => match o with
      | .inl e =>
        m_S_validTable_k1 N 
      | .inr v =>
        some v))
    (some false)
theorem w_S_validTable (N : Nat) (p_t : I_Table) (r : Bool) (hh0 : m_S_validTable N p_t = some r) : FnX Try.prog 65 [] [.agg [sL p_t.first, sL p_t.changes, sL p_t.rows]] (RE (bA r) []) := by
  unfold m_S_validTable at hh0; refine FnX.mk Try.func65 rfl rfl ?_; intro s hs; refine PC.seq ?_; refine PC.rg ?_; refine PL.ef rfl (Ef.box rfl rfl rfl) ?_; refine PL.nm (.op 0 0) [some ⟨.mx [sL p_t.first, sL p_t.changes, sL p_t.rows], 79, 0⟩] rfl rfl ?_; refine PL.aT rfl rfl ?_; refine PL.nn ?_; (iterate 2 refine PC.seq ?_); obtain ⟨r1, h_2, hh0⟩ := bind_some hh0; rcases cond_some hh0 with ⟨h_3, hh0⟩ | ⟨h_3, hh0⟩; rotate_left
  · refine PC.rg ?_; refine PL.op rfl (Rd.fieldO rfl rfl) ?_; refine PL.op rfl (Rd.loadO rfl rfl rfl) ?_; refine PL.op rfl (Rd.fieldO rfl rfl) ?_; refine PL.op rfl (Rd.loadO rfl rfl rfl) ?_; refine PL.callM false [] (w_S_validChain N p_t.first p_t.changes r1 h_2) rfl Try.call88 rfl ⟨.t _, .t _, trivial⟩ rfl trivial (fun h => by cases h) ?_; refine PL.op rfl (Rd.unnot rfl) ?_; refine PL.mT rfl rfl ?_; (iterate 4 refine PL.gf rfl rfl (not_f h_3) ?_); refine PL.op rfl (Rd.pick_t rfl (not_f h_3)) ?_; refine PL.nn ?_; refine PC.ct rfl rfl ?_; refine PC.seq ?_; refine PC.rg ?_; refine PL.aT rfl rfl ?_; refine PL.nn ?_; refine PC.ret ?_; refine thA_r ?_; obtain rfl := some_in hh0; exact FinA.mk (r := bA false) (bl := []) [] (.inl rfl) rfl (rl := [.tmp 2]) (.tmp .nil) rfl rfl rfl (.t _) trivial ⟨rfl, rfl⟩
  refine PC.rg ?_; refine PL.op rfl (Rd.fieldO rfl rfl) ?_; refine PL.op rfl (Rd.loadO rfl rfl rfl) ?_; refine PL.op rfl (Rd.fieldO rfl rfl) ?_; refine PL.op rfl (Rd.loadO rfl rfl rfl) ?_; refine PL.callM false [] (w_S_validChain N p_t.first p_t.changes r1 h_2) rfl Try.call88 rfl ⟨.t _, .t _, trivial⟩ rfl trivial (fun h => by cases h) ?_; refine PL.op rfl (Rd.unnot rfl) ?_; refine PL.mT rfl rfl ?_; refine PL.gn rfl (not_t h_3) ?_; refine PL.op rfl (Rd.fieldO rfl rfl) ?_; refine PL.gn rfl (not_t h_3) ?_; refine PL.op rfl (Rd.loadO rfl rfl rfl) ?_; refine PL.gn rfl (not_t h_3) ?_; refine PL.op rfl (Rd.lenT rfl) ?_; refine PL.gn rfl (not_t h_3) ?_; refine PL.op rfl (Rd.gtr rfl rfl) ?_; refine PL.op rfl (Rd.pick_f rfl (not_t h_3)) ?_; refine PL.nn ?_; rcases cond_some hh0 with ⟨h_4, hh0⟩ | ⟨h_4, hh0⟩
  · refine PC.ct rfl h_4 ?_; refine PC.seq ?_; refine PC.rg ?_; refine PL.aT rfl rfl ?_; refine PL.nn ?_; refine PC.ret ?_; refine thA_r ?_; obtain rfl := some_in hh0; exact FinA.mk (r := bA false) (bl := []) [] (.inl rfl) rfl (rl := [.tmp 2]) (.tmp .nil) rfl rfl rfl (.t _) trivial ⟨rfl, rfl⟩
  refine PC.cf rfl h_4 ?_; refine PC.skip ?_; refine thA_n ?_; refine PC.seq ?_; obtain ⟨r5, h_6, hh0⟩ := bind_some hh0; refine PC.rg ?_; refine PL.op rfl (Rd.fieldO rfl rfl) ?_; refine PL.op rfl (Rd.loadO rfl rfl rfl) ?_; refine PL.op rfl (Rd.fieldO rfl rfl) ?_; refine PL.op rfl (Rd.loadO rfl rfl rfl) ?_; refine PL.callM false [] (w_S_formats N p_t.first p_t.changes r5 h_6) rfl Try.call82 rfl ⟨.t _, .t _, trivial⟩ rfl trivial (fun h => by cases h) ?_; refine PL.nm (.tup [.os 1 0 r5.1.length, bA r5.2]) [some ⟨.mx [sL p_t.first, sL p_t.changes, sL p_t.rows], 79, 0⟩, some ⟨.tr (eL r5.1), 75, 1⟩] rfl rfl ?_; refine PL.op rfl (Rd.moveU rfl) ?_; (iterate 2 refine PL.op rfl (Rd.extract rfl rfl) ?_); refine PL.op rfl (Rd.asnO rfl) ?_; refine PL.aT rfl rfl ?_; refine PL.nn ?_; (iterate 2 refine PC.seq ?_); refine PC.rg ?_; refine PL.aT rfl rfl ?_; refine PL.nn ?_; obtain ⟨o25, h_26, hh0⟩ := bind_some hh0; refine PC.cutE hs (fun x : Unit => []) (fun x => []) (fun x => m_S_validTable_k1 N  = some r) ?_ ?_
  · refine PC.block ?_; refine PC.loop hs (fun x : Nat × (Int) => [(1, .op 0 0), (3, .os 1 0 r5.1.length), (5, iA x.2)]) (fun x => [⟨.mx [sL p_t.first, sL p_t.changes, sL p_t.rows], 79, 0⟩, ⟨.tr (eL r5.1), 75, 1⟩]) (fun x => loopM (β := Unit ⊕ Bool) (fun s : Int => m_S_validTable_b1 N p_t r5 s) x.1 x.2 = some o25) (fun x => x.1) (N, (0 : Int)) [some 0, some 1] ⟨rfl, rfl, ⟨⟨_, rfl, rfl, rfl, .mx ⟨.t _, .t _, .t _, trivial⟩⟩, ⟨_, rfl, rfl, rfl, .tr _⟩, trivial⟩, ⟨.op rfl, .os rfl, .t _, trivial⟩⟩ h_26 ?_
    rintro ⟨f27_, i7⟩ h_29
    obtain ⟨f27, y28, rfl, hh1, kk1⟩ := loopM_some h_29
    replace hh1 : m_S_validTable_b1 N p_t r5 i7 = some y28 := hh1
    unfold m_S_validTable_b1 at hh1; (iterate 2 refine PC.seq ?_); refine PC.rg ?_; refine PL.mT rfl rfl ?_; refine PL.op rfl (Rd.fieldO rfl rfl) ?_; refine PL.op rfl (Rd.loadO rfl rfl rfl) ?_; refine PL.op rfl (Rd.lenT rfl) ?_; refine PL.op rfl (Rd.lss rfl rfl) ?_; refine PL.nn ?_; rcases cond_some hh1 with ⟨h_30, hh1⟩ | ⟨h_30, hh1⟩; rotate_left
    · refine PC.cf rfl h_30 ?_; refine PC.exit ?_; (iterate 2 refine thA_e ?_); refine inA_eq rfl ?_; refine thA_n ?_; obtain rfl := some_in hh1; obtain rfl : (.inl () : Unit ⊕ Bool) = o25 := kk1; exact ⟨(), hh0, [], ⟨rfl, rfl, trivial, trivial⟩⟩
    refine PC.ct rfl h_30 ?_; refine PC.skip ?_; refine thA_n ?_; refine PC.seq ?_; refine PC.block ?_; refine PC.seq ?_; obtain ⟨x31, h_32, hh1⟩ := bind_some hh1; obtain ⟨r33, h_34, hh1⟩ := bind_some hh1; rcases cond_some hh1 with ⟨h_35, hh1⟩ | ⟨h_35, hh1⟩; rotate_left
    · refine PC.any (id := 7) 30 (.seg [0, 1, 2, 3, 4, 5, 6, 7, 8, 9, 10, 11, 12, 13, 14, 15, 16, 17, 18, 19, 20, 21, 22, 23, 24, 25, 26, 27, 28, 29] .done) [] rfl (by kernel_rfl) rfl ?_; refine PT.seg ?_; refine PR.op rfl (Rd.fieldO rfl rfl) ?_; refine PR.op rfl (Rd.loadO rfl rfl rfl) ?_; refine PR.op rfl (Rd.moveT rfl) ?_; refine PR.op rfl (Rd.ixM rfl rfl h_32) ?_; refine PR.op rfl (Rd.fieldT rfl) ?_; refine PR.op rfl (Rd.elMF (f := 0) rfl h_32 rfl rfl) ?_; refine PR.op rfl (Rd.fieldO rfl rfl) ?_; refine PR.op rfl (Rd.loadO rfl rfl rfl) ?_; refine PR.op rfl (Rd.lenT rfl) ?_; refine PR.callM false [] (w_S_inRange N x31.tag (0 : Int) (p_t.changes.length : Int) r33 h_34) rfl Try.call52 rfl ⟨.t _, .t _, .t _, trivial⟩ rfl trivial (fun h => by cases h) rfl ?_; refine PR.op rfl (Rd.unnot rfl) ?_; refine PR.op rfl (Rd.moveT rfl) ?_; (iterate 17 refine PR.guard_off rfl rfl (not_f h_35) ?_); refine PR.op rfl (Rd.pick_t rfl (not_f h_35)) ?_; refine PR.nil ?_; refine PT.done ?_; refine PL.nn ?_; refine PC.ct rfl rfl ?_; refine PC.seq ?_; refine PC.rg ?_; refine PL.aT rfl rfl ?_; refine PL.nn ?_; refine PC.ret ?_; refine inA_r ?_; (iterate 2 refine thA_r ?_); refine inA_r ?_; refine thA_r ?_; obtain rfl := some_in hh1; obtain rfl : (.inr false : Unit ⊕ Bool) = o25 := kk1; refine thA_r ?_; obtain rfl := some_in hh0; exact FinA.mk (r := bA false) (bl := []) [] (.inl rfl) rfl (rl := [.tmp 2]) (.tmp .nil) rfl rfl rfl (.t _) trivial ⟨rfl, rfl⟩
    obtain ⟨x36, h_37, hh1⟩ := bind_some hh1; obtain ⟨x38, h_39, hh1⟩ := bind_some hh1; obtain ⟨x40, h_41, hh1⟩ := bind_some hh1; obtain ⟨r42, h_43, hh1⟩ := bind_some hh1; refine PC.any (id := 7) 30 (.seg [0, 1, 2, 3, 4, 5, 6, 7, 8, 9, 10, 11, 12, 13, 14, 15, 16, 17, 18, 19, 20, 21, 22, 23, 24, 25, 26, 27, 28, 29] .done) [] rfl (by kernel_rfl) rfl ?_; refine PT.seg ?_; refine PR.op rfl (Rd.fieldO rfl rfl) ?_; refine PR.op rfl (Rd.loadO rfl rfl rfl) ?_; refine PR.op rfl (Rd.moveT rfl) ?_; refine PR.op rfl (Rd.ixM rfl rfl h_32) ?_; refine PR.op rfl (Rd.fieldT rfl) ?_; refine PR.op rfl (Rd.elMF (f := 0) rfl h_32 rfl rfl) ?_; refine PR.op rfl (Rd.fieldO rfl rfl) ?_; refine PR.op rfl (Rd.loadO rfl rfl rfl) ?_; refine PR.op rfl (Rd.lenT rfl) ?_; refine PR.callM false [] (w_S_inRange N x31.tag (0 : Int) (p_t.changes.length : Int) r33 h_34) rfl Try.call52 rfl ⟨.t _, .t _, .t _, trivial⟩ rfl trivial (fun h => by cases h) rfl ?_; refine PR.op rfl (Rd.unnot rfl) ?_; refine PR.op rfl (Rd.moveT rfl) ?_; refine PR.guard_on rfl rfl (not_t h_35) ?_; refine PR.op rfl (Rd.moveO rfl) ?_; refine PR.guard_on rfl rfl (not_t h_35) ?_; refine PR.op rfl (Rd.fieldO rfl rfl) ?_; refine PR.guard_on rfl rfl (not_t h_35) ?_; refine PR.op rfl (Rd.loadO rfl rfl rfl) ?_; refine PR.guard_on rfl rfl (not_t h_35) ?_; refine PR.op rfl (Rd.moveT rfl) ?_; refine PR.guard_on rfl rfl (not_t h_35) ?_; refine PR.op rfl (Rd.ixM rfl rfl h_37) ?_; refine PR.guard_on rfl rfl (not_t h_35) ?_; refine PR.op rfl (Rd.fieldT rfl) ?_; refine PR.guard_on rfl rfl (not_t h_35) ?_; refine PR.op rfl (Rd.elMF (f := 0) rfl h_37 rfl rfl) ?_; refine PR.guard_on rfl rfl (not_t h_35) ?_; refine PR.ixOM rfl rfl rfl rfl (ixI_lt h_39) ?_; refine PR.guard_on rfl rfl (not_t h_35) ?_; refine PR.op rfl (Rd.owM1 rfl rfl h_39 rfl rfl) ?_; refine PR.guard_on rfl rfl (not_t h_35) ?_; refine PR.op rfl (Rd.fieldO rfl rfl) ?_; refine PR.guard_on rfl rfl (not_t h_35) ?_; refine PR.op rfl (Rd.loadO rfl rfl rfl) ?_; refine PR.guard_on rfl rfl (not_t h_35) ?_; refine PR.op rfl (Rd.moveT rfl) ?_; refine PR.guard_on rfl rfl (not_t h_35) ?_; refine PR.op rfl (Rd.ixM rfl rfl h_41) ?_; refine PR.guard_on rfl rfl (not_t h_35) ?_; refine PR.op rfl (Rd.fieldT rfl) ?_; refine PR.guard_on rfl rfl (not_t h_35) ?_; refine PR.op rfl (Rd.elMF (f := 1) rfl h_41 rfl rfl) ?_; refine PR.guard_on rfl rfl (not_t h_35) ?_; refine PR.callM false [] (w_S_fits N x38 x40.row r42 h_43) rfl Try.call89 rfl ⟨.t _, .t _, trivial⟩ rfl trivial (fun h => by cases h) rfl ?_; refine PR.guard_on rfl rfl (not_t h_35) ?_; refine PR.op rfl (Rd.unnot rfl) ?_; refine PR.op rfl (Rd.pick_f rfl (not_t h_35)) ?_; refine PR.nil ?_; refine PT.done ?_; refine PL.nn ?_; rcases cond_some hh1 with ⟨h_44, hh1⟩ | ⟨h_44, hh1⟩; rotate_left
    · refine PC.ct rfl (not_f h_44) ?_; refine PC.seq ?_; refine PC.rg ?_; refine PL.aT rfl rfl ?_; refine PL.nn ?_; refine PC.ret ?_; refine inA_r ?_; (iterate 2 refine thA_r ?_); refine inA_r ?_; refine thA_r ?_; obtain rfl := some_in hh1; obtain rfl : (.inr false : Unit ⊕ Bool) = o25 := kk1; refine thA_r ?_; obtain rfl := some_in hh0; exact FinA.mk (r := bA false) (bl := []) [] (.inl rfl) rfl (rl := [.tmp 2]) (.tmp .nil) rfl rfl rfl (.t _) trivial ⟨rfl, rfl⟩
    refine PC.cf rfl (not_t h_44) ?_; refine PC.skip ?_; refine inA_n ?_; refine thA_n ?_; obtain ⟨n45, h_46, hh1⟩ := bind_some hh1; refine PC.rg ?_; refine PL.mT rfl rfl ?_; refine PL.op rfl (Rd.addM rfl rfl h_46) ?_; refine PL.aT rfl rfl ?_; refine PL.nil ?_; obtain rfl := some_in hh1; refine thA_n ?_; exact ⟨(f27, n45), Nat.lt_succ_self _, kk1, [some 0, some 1], ⟨rfl, rfl, ⟨⟨_, rfl, rfl, rfl, .mx ⟨.t _, .t _, .t _, trivial⟩⟩, ⟨_, rfl, rfl, rfl, .tr _⟩, trivial⟩, ⟨.op rfl, .os rfl, .t _, trivial⟩⟩⟩
  clear hh0
  rintro ⟨⟩ hh0
  replace hh0 : m_S_validTable_k1 N  = some r := hh0
  unfold m_S_validTable_k1 at hh0; refine thA_n ?_; refine PC.seq ?_; refine PC.rg ?_; refine PL.aT rfl rfl ?_; refine PL.nn ?_; refine PC.ret ?_; obtain rfl := some_in hh0; exact FinA.mk (r := bA true) (bl := []) [] (.inl rfl) rfl (rl := [.tmp 2]) (.tmp .nil) rfl rfl rfl (.t _) trivial ⟨rfl, rfl⟩
end V
end Go.Proofs.Ytlpbgmahegoidaa
namespace Go.Proofs.Ytlpbgmahegoidaa
namespace V
set_option maxHeartbeats 1000000
theorem inRange_eq (N : Nat) (a l h : Int) : m_S_inRange N a l h = some (decide (l ≤ a ∧ a ≤ h)) := inRange_of a l h
def vTx (u : ByteArray) : Prop := u.size ≤ 12 ∧ inR 32 126 u
noncomputable instance (u : ByteArray) : Decidable (vTx u) := Classical.propDecidable _
def vV (v : I_Value) : Prop := (v.kind = 0 ∧ v.num = 0 ∧ v.text = ByteArray.empty) ∨ (v.kind = 1 ∧ -999999 ≤ v.num ∧ v.num ≤ 999999 ∧ v.text = ByteArray.empty) ∨ (v.kind = 2 ∧ v.num = 0 ∧ vTx v.text)
noncomputable instance (v : I_Value) : Decidable (vV v) := Classical.propDecidable _
section
variable {N : Nat} (hN : 100000000 ≤ N)
include hN
theorem vTxI {u : ByteArray} (h : u.size ≤ 5000000) : m_I_validText N u = some (decide (vTx u)) := by
  refine bool_eq ?_
  unfold m_I_validText
  refine ok.ite (fun hc => ok.some ⟨fun e => (by cases e), fun e => (by have := e.1; omega)⟩) fun h2 => ?_
  refine ok.call (text_ok (u := u) 32 126 (by omega) (by omega) (fun i hi => ?_) ?_) ?_
  · show m_I_validText_b1 N u (i : Int) = _
    unfold m_I_validText_b1
    rw [decide_eq_true (by omega), cond_true, ixS_nat hi]
    simp only [Option.bind_some]
    have e1 : ((32 : UInt8).toNat : Int) = 32 := rfl
    have e2 : ((126 : UInt8).toNat : Int) = 126 := rfl
    rw [e1, e2]
    by_cases c1 : (u[i].toNat : Int) < 32
    · rw [decide_eq_true c1, cond_true, if_neg (by omega)]
    · rw [decide_eq_false c1, cond_false]
      by_cases c2 : (126 : Int) < (u[i].toNat : Int)
      · rw [decide_eq_true c2, cond_true, if_neg (by omega)]
      · rw [decide_eq_false c2, cond_false, if_pos (by omega), chk_eq (by omega)]; rfl
  · show m_I_validText_b1 N u _ = _
    unfold m_I_validText_b1
    rw [decide_eq_false (by omega)]; rfl
  · rintro _ (⟨rfl, h⟩ | ⟨rfl, h⟩)
    · exact ok.some ⟨fun _ => ⟨by omega, h⟩, fun _ => rfl⟩
    · exact ok.some ⟨fun e => (by cases e), fun e => (h e.2).elim⟩
theorem vTxS {u : ByteArray} (h : u.size ≤ 5000000) : m_S_validText N u = some (decide (vTx u)) := by
  refine bool_eq ?_
  unfold m_S_validText
  refine ok.call (text_ok (u := u) 32 126 (by omega) (by omega) (fun i hi => ?_) ?_) ?_
  · show m_S_validText_b1 N u (i : Int) = _
    unfold m_S_validText_b1
    rw [decide_eq_true (by omega), cond_true, ixS_nat hi]
    simp only [Option.bind_some]
    rw [inRange_eq]
    simp only [Option.bind_some]
    by_cases c1 : 32 ≤ (u[i].toNat : Int) ∧ (u[i].toNat : Int) ≤ 126
    · rw [decide_eq_true c1, cond_true, if_pos c1, chk_eq (by omega)]; rfl
    · rw [decide_eq_false c1, cond_false, if_neg c1]
  · show m_S_validText_b1 N u _ = _
    unfold m_S_validText_b1
    rw [decide_eq_false (by omega)]; rfl
  · rintro _ (⟨rfl, h⟩ | ⟨rfl, h⟩)
    · unfold m_S_validText_k1
      refine ok.some ?_
      rw [decide_eq_true_eq]
      exact ⟨fun e => ⟨by omega, h⟩, fun e => by have := e.1; omega⟩
    · exact ok.some ⟨fun e => (by cases e), fun e => (h e.2).elim⟩
theorem vVI {v : I_Value} (h : v.text.size ≤ 5000000) : m_I_ValidValue N v = some (decide (vV v)) := by
  refine bool_eq ?_
  unfold m_I_ValidValue vV
  refine ok.ite (fun k0 => ok.ite (fun n0 => ok.some ?_) fun n0 => ok.some ?_) fun k0 => ok.ite (fun k1 => ok.ite (fun n0 => ok.ite (fun n1 => ok.some ?_) fun n1 => ok.some ?_) fun n0 => ok.some ?_) fun k1 => ok.ite (fun k2 => ok.ite (fun n0 => ok.eq (vTxI hN h) (ok.some ?_)) fun n0 => ok.some ?_) fun k2 => ok.some ?_
  · rw [textEq, decide_eq_true_eq]; exact ⟨fun e => .inl ⟨k0, n0, e⟩, fun e => by rcases e with e | e | e; exact e.2.2; omega; omega⟩
  · exact ⟨fun e => (by cases e), fun e => by omega⟩
  · rw [textEq, decide_eq_true_eq]; exact ⟨fun e => .inr (.inl ⟨k1, n0, n1, e⟩), fun e => by rcases e with e | e | e; omega; exact e.2.2.2; omega⟩
  · exact ⟨fun e => (by cases e), fun e => by omega⟩
  · exact ⟨fun e => (by cases e), fun e => by omega⟩
  · rw [decide_eq_true_eq]; exact ⟨fun e => .inr (.inr ⟨k2, n0, e⟩), fun e => by rcases e with e | e | e; omega; omega; exact e.2.2⟩
  · exact ⟨fun e => (by cases e), fun e => by omega⟩
  · exact ⟨fun e => (by cases e), fun e => by omega⟩
theorem vVS {v : I_Value} (h : v.text.size ≤ 5000000) : m_S_validValue N v = some (decide (vV v)) := by
  refine bool_eq ?_
  unfold m_S_validValue vV
  refine ok.ite (fun k0 => ok.ite (fun n0 => ok.some ?_) fun n0 => ok.some ?_) fun k0 => ok.ite (fun k1 => ok.eq (inRange_eq N _ _ _) (ok.ite (fun n0 => ok.some ?_) fun n0 => ok.some ?_)) fun k1 => ok.ite (fun k2 => ok.ite (fun n0 => ok.eq (vTxS hN h) (ok.some ?_)) fun n0 => ok.some ?_) fun k2 => ok.some ?_
  · rw [textEq, decide_eq_true_eq]; exact ⟨fun e => .inl ⟨k0, n0, e⟩, fun e => by rcases e with e | e | e; exact e.2.2; omega; omega⟩
  · exact ⟨fun e => (by cases e), fun e => by omega⟩
  · rw [textEq, decide_eq_true_eq]; exact ⟨fun e => .inr (.inl ⟨k1, n0.1, n0.2, e⟩), fun e => by rcases e with e | e | e; omega; exact e.2.2.2; omega⟩
  · exact ⟨fun e => (by cases e), fun e => by omega⟩
  · rw [decide_eq_true_eq]; exact ⟨fun e => .inr (.inr ⟨k2, n0, e⟩), fun e => by rcases e with e | e | e; omega; omega; exact e.2.2⟩
  · exact ⟨fun e => (by cases e), fun e => by omega⟩
  · exact ⟨fun e => (by cases e), fun e => by omega⟩
end
theorem b2s_data (xs : List UInt8) : (b2s xs).size = xs.length := rfl
theorem b2s_app2 (xs ys : List UInt8) : b2s xs ++ b2s ys = b2s (xs ++ ys) := by
  apply ByteArray.ext
  rw [ByteArray.data_append]
  unfold b2s
  simp
theorem nd_le : ∀ (k u : Nat), u < 10 ^ (k + 1) → Lib.nDigits u ≤ k + 1
  | 0, u, h => by rw [Lib.nDigits_small (by simpa using h)]; omega
  | k + 1, u, h => by
    by_cases a : u < 10
    · rw [Lib.nDigits_small a]; omega
    · rw [Lib.nDigits_big a]
      have := nd_le k (u / 10) (by rw [Nat.pow_succ] at h; omega)
      omega
theorem decimal_nat : ∀ (k N : Nat) (u : Nat), k < N → u < 10 ^ (k + 1) → u ≤ 1000000000 → m_S_decimal N (u : Int) = some (b2s (Lib.decDigits u))
  | k, 0, u, h, _, _ => by omega
  | k, N + 1, u, h, hu, hb => by
    refine ok.val ?_
    unfold m_S_decimal
    refine ok.iff (by omega) (ok.ite (fun h1 => ?_) fun h1 => ?_)
    · refine ok.chk (by omega) (ok.some ?_)
      rw [Lib.decDigits, dif_pos (by omega)]
      congr 2
      unfold i2b
      congr 1; omega
    · refine ok.eq (quoM_eq (by omega)) ?_
      obtain ⟨k, rfl⟩ : ∃ j, k = j + 1 := by
        rcases k with _ | j
        · simp at hu; omega
        · exact ⟨j, rfl⟩
      have e : (u : Int) / 10 = ((u / 10 : Nat) : Int) := by omega
      rw [e]
      refine ok.eq (decimal_nat k N (u / 10) (by omega) (by rw [Nat.pow_succ] at hu; omega) (by omega)) ?_
      refine ok.eq (remM_eq (by omega)) (ok.chk (by omega) (ok.eq (addS_eq ?_) (ok.some ?_)))
      · have := nd_le 9 (u / 10) (by omega)
        rw [b2s_data, b2s_data, Lib.decDigits_length]; simp; omega
      · rw [b2s_app2]
        conv => rhs; rw [Lib.decDigits, dif_neg (by omega)]
        congr 3
        unfold i2b
        congr 1; omega
theorem decimal_ok {N : Nat} (hN : 100 ≤ N) {n : Int} (h : -1000000000 ≤ n ∧ n ≤ 1000000000) : m_S_decimal N n = some (itoaB n) := by
  by_cases h0 : n < 0
  · obtain ⟨u, rfl⟩ : ∃ u : Nat, n = -(u : Int) := ⟨n.natAbs, by omega⟩
    obtain ⟨M, rfl⟩ : ∃ M, N = M + 1 := ⟨N - 1, by omega⟩
    refine ok.val ?_
    unfold m_S_decimal itoaB
    refine ok.ift h0 (ok.chk (by omega) (ok.iff (by omega) (ok.chk (by omega) ?_)))
    rw [Int.neg_neg]
    refine ok.eq (decimal_nat 9 M u (by omega) (by omega) (by omega)) (ok.eq (addS_eq ?_) (ok.some ?_))
    · have := nd_le 9 u (by omega)
      rw [b2s_data, Lib.decDigits_length]
      have : (ByteArray.mk #[45]).size = 1 := rfl
      omega
    · rw [Lib.itoa_neg u (by omega)]
      exact b2s_app2 [45] (Lib.decDigits u)
  · obtain ⟨u, rfl⟩ : ∃ u : Nat, n = (u : Int) := ⟨n.toNat, by omega⟩
    rw [decimal_nat 9 N u (by omega) (by omega) (by omega)]
    unfold itoaB
    rw [Lib.itoa_nonneg]; rfl
theorem itoaB_ok {n : Int} (h : -999999 ≤ n ∧ n ≤ 999999) : vTx (itoaB n) := by
  have hd : ∀ u : Nat, u ≤ 999999 → (Lib.decDigits u).length ≤ 6 ∧ ∀ x ∈ Lib.decDigits u, 48 ≤ x.toNat ∧ x.toNat ≤ 57 := by
    intro u hu
    constructor
    · rw [Lib.decDigits_length]
      exact nd_le 5 u (by omega)
    · intro x hx
      rw [Lib.decDigits_eq, List.mem_map] at hx
      obtain ⟨j, _, rfl⟩ := hx
      unfold Lib.dg
      have : u / 10 ^ (Lib.nDigits u - 1 - j) % 10 < 10 := Nat.mod_lt _ (by decide)
      generalize u / 10 ^ (Lib.nDigits u - 1 - j) % 10 = v at this
      have : (UInt8.ofNat (48 + v)).toNat = 48 + v := by rw [UInt8.toNat_ofNat']; omega
      omega
  have hall : (Lib.itoa n).length ≤ 12 ∧ ∀ x ∈ Lib.itoa n, 32 ≤ x.toNat ∧ x.toNat ≤ 126 := by
    by_cases h0 : n < 0
    · obtain ⟨u, rfl⟩ : ∃ u : Nat, n = -(u : Int) := ⟨n.natAbs, by omega⟩
      have := hd u (by omega)
      rw [Lib.itoa_neg u (by omega)]
      refine ⟨by rw [List.length_cons]; omega, fun x hx => ?_⟩
      rcases List.mem_cons.1 hx with rfl | hx
      · decide
      · have := this.2 x hx; omega
    · obtain ⟨u, rfl⟩ : ∃ u : Nat, n = (u : Int) := ⟨n.toNat, by omega⟩
      have := hd u (by omega)
      rw [Lib.itoa_nonneg]
      exact ⟨by omega, fun x hx => by have := this.2 x hx; omega⟩
  unfold vTx itoaB
  refine ⟨by show (Lib.itoa n).toArray.size ≤ 12; rw [List.size_toArray]; exact hall.1, fun i hi => ?_⟩
  have : (ByteArray.mk (Lib.itoa n).toArray)[i] ∈ Lib.itoa n := by
    show (Lib.itoa n).toArray[i] ∈ _
    rw [List.getElem_toArray]; exact List.getElem_mem _
  have := hall.2 _ this
  omega
end V
end Go.Proofs.Ytlpbgmahegoidaa
namespace Go.Proofs.Ytlpbgmahegoidaa
namespace V
open Enc (enc)
set_option maxHeartbeats 4000000
set_option maxRecDepth 100000
open Go.RowKit
attribute [local irreducible] thA inA FinA eL
def m_S_move (N : Nat) (p_row : (List I_Value)) (p_c : I_Change) : Option ((List I_Value)) :=
  (V.subM p_row (0 : Int) p_c.at_).bind fun xs1 =>
  (appM 32 ([] : List I_Value) xs1).bind fun xs3 =>
  cond (decide (p_c.kind = (1 : Int)))
    ((appM 32 xs3 [p_c.column.default]).bind fun xs6 =>
    (V.subM p_row p_c.at_ (p_row.length : Int)).bind fun xs8 =>
    (appM 32 xs6 xs8).bind fun xs10 =>
    some xs10)
    (cond (decide (p_c.kind = (3 : Int)))
      ((ixI p_row p_c.at_).bind fun x13 =>
      (m_S_widen N x13).bind fun r15 =>
      (appM 32 xs3 [r15]).bind fun xs17 =>
      (chk (p_c.at_ + (1 : Int))).bind fun n19 =>
      (V.subM p_row n19 (p_row.length : Int)).bind fun xs21 =>
      (appM 32 xs17 xs21).bind fun xs23 =>
      some xs23)
      ((chk (p_c.at_ + (1 : Int))).bind fun n25 =>
      (V.subM p_row n25 (p_row.length : Int)).bind fun xs27 =>
      (appM 32 xs3 xs27).bind fun xs29 =>
      some xs29))
theorem w_S_move (N : Nat) (p_row : (List I_Value)) (p_c : I_Change) (r : (List I_Value)) (hh0 : m_S_move N p_row p_c = some r) : FnX Try.prog 110 [] [sL p_row, .agg [iA p_c.kind, iA p_c.at_, iA p_c.column.kind, iA p_c.column.default.kind, iA p_c.column.default.num, sA p_c.column.default.text]] (RE (.os 0 0 r.length) [⟨.tr (eL r), 42, 3⟩]) := by
  unfold m_S_move at hh0; refine FnX.mk Try.func110 rfl rfl ?_; intro s hs; refine PC.seq ?_; refine PC.rg ?_; refine PL.ef rfl (Ef.box rfl rfl rfl) ?_; refine PL.nm (.op 0 0) [some ⟨.mx [iA p_c.kind, iA p_c.at_, iA p_c.column.kind, iA p_c.column.default.kind, iA p_c.column.default.num, sA p_c.column.default.text], 140, 0⟩] rfl rfl ?_; refine PL.aT rfl rfl ?_; refine PL.nn ?_; refine PC.seq ?_; obtain ⟨xs1, h_2, hh0⟩ := bind_some hh0; obtain ⟨xs3, h_4, hh0⟩ := bind_some hh0; refine PC.rg ?_; refine PL.ef rfl (Ef.lit0M I_Value) ?_; refine PL.nm (.os 1 0 0) [some ⟨.mx [iA p_c.kind, iA p_c.at_, iA p_c.column.kind, iA p_c.column.default.kind, iA p_c.column.default.num, sA p_c.column.default.text], 140, 0⟩, some ⟨.tr (eL ([] : List I_Value)), 42, 3⟩] rfl rfl ?_; refine PL.mT rfl rfl ?_; refine PL.op rfl (Rd.fieldO rfl rfl) ?_; refine PL.op rfl (Rd.loadO rfl rfl rfl) ?_; refine PL.op rfl (Rd.subTMH rfl rfl h_2) ?_; refine PL.apM hs rfl rfl rfl rfl (SrcA.eL rfl) rfl rfl rfl rfl h_4 ?_; refine PL.nm (.os 2 0 xs3.length) [some ⟨.mx [iA p_c.kind, iA p_c.at_, iA p_c.column.kind, iA p_c.column.default.kind, iA p_c.column.default.num, sA p_c.column.default.text], 140, 0⟩, none, some ⟨.tr (eL xs3), 42, 3⟩] rfl rfl ?_; refine PL.op rfl (Rd.asnO rfl) ?_; refine PL.nn ?_; (iterate 2 refine PC.seq ?_); refine PC.rg ?_; refine PL.op rfl (Rd.fieldO rfl rfl) ?_; refine PL.op rfl (Rd.loadO rfl rfl rfl) ?_; refine PL.nn ?_; refine PC.block ?_; refine PC.seq ?_; refine PC.rg ?_; refine PL.op rfl (Rd.eql rfl rfl) ?_; refine PL.aT rfl rfl ?_; refine PL.nn ?_; rcases cond_some hh0 with ⟨h_5, hh0⟩ | ⟨h_5, hh0⟩
  · refine PC.ct rfl h_5 ?_; refine PC.seq ?_; obtain ⟨xs6, h_7, hh0⟩ := bind_some hh0; obtain ⟨xs8, h_9, hh0⟩ := bind_some hh0; obtain ⟨xs10, h_11, hh0⟩ := bind_some hh0; refine PC.any (id := 4) 12 (.seg [0, 1, 2, 3, 6, 7, 8, 9, 4, 5, 10, 11] .done) [2] rfl (by kernel_rfl) rfl ?_; refine PT.seg ?_; refine PR.op rfl (Rd.moveO rfl) ?_; (iterate 2 refine PR.op rfl (Rd.fieldO rfl rfl) ?_); refine PR.op rfl (Rd.loadSub rfl rfl rfl rfl) ?_; refine PR.op rfl (Rd.moveT rfl) ?_; refine PR.op rfl (Rd.fieldO rfl rfl) ?_; refine PR.op rfl (Rd.loadO rfl rfl rfl) ?_; refine PR.op rfl (Rd.subTML rfl rfl h_9) ?_; refine PR.ef rfl rfl (Ef.litM (α := I_Value) [p_c.column.default] [_] rfl rfl (by decide) rfl rfl rfl rfl) ?_; refine PR.nm (.os 3 0 1) [some ⟨.mx [iA p_c.kind, iA p_c.at_, iA p_c.column.kind, iA p_c.column.default.kind, iA p_c.column.default.num, sA p_c.column.default.text], 140, 0⟩, none, some ⟨.tr (eL xs3), 42, 3⟩, some ⟨.tr (eL [p_c.column.default]), 42, 3⟩] rfl rfl ?_; refine PR.apMX hs rfl rfl rfl rfl (SrcA.ownE rfl rfl rfl) rfl rfl rfl rfl rfl h_7 ?_; refine PR.nm (.os 4 0 xs6.length) [some ⟨.mx [iA p_c.kind, iA p_c.at_, iA p_c.column.kind, iA p_c.column.default.kind, iA p_c.column.default.num, sA p_c.column.default.text], 140, 0⟩, none, none, some ⟨.tr (eL [p_c.column.default]), 42, 3⟩, some ⟨.tr (eL xs6), 42, 3⟩] rfl rfl ?_; refine PR.apM hs rfl rfl rfl rfl (SrcA.eL rfl) rfl rfl rfl rfl rfl h_11 ?_; refine PR.nm (.os 5 0 xs10.length) [some ⟨.mx [iA p_c.kind, iA p_c.at_, iA p_c.column.kind, iA p_c.column.default.kind, iA p_c.column.default.num, sA p_c.column.default.text], 140, 0⟩, none, none, some ⟨.tr (eL [p_c.column.default]), 42, 3⟩, none, some ⟨.tr (eL xs10), 42, 3⟩] rfl rfl ?_; refine PR.op rfl (Rd.asnO rfl) ?_; refine PR.nil ?_; refine PT.done ?_; refine PL.nn ?_; refine PC.ret ?_; refine inA_r ?_; refine thA_r ?_; obtain rfl := some_in hh0; exact FinA.mk (r := .os 0 0 xs10.length) (bl := [⟨.tr (eL xs10), 42, 3⟩]) [some 5] (.inl rfl) rfl (rl := [.tmp 4]) (.tmp .nil) rfl rfl rfl (.os rfl) ⟨⟨_, rfl, rfl, rfl, .tr _⟩, trivial⟩ ⟨rfl, rfl⟩
  refine PC.cf rfl h_5 ?_; refine PC.seq ?_; refine PC.rg ?_; refine PL.op rfl (Rd.eql rfl rfl) ?_; refine PL.aT rfl rfl ?_; refine PL.nn ?_; rcases cond_some hh0 with ⟨h_12, hh0⟩ | ⟨h_12, hh0⟩; rotate_left
  · refine PC.cf rfl h_12 ?_; refine PC.skip ?_; refine inA_n ?_; refine thA_n ?_; refine PC.seq ?_; obtain ⟨n25, h_26, hh0⟩ := bind_some hh0; obtain ⟨xs27, h_28, hh0⟩ := bind_some hh0; obtain ⟨xs29, h_30, hh0⟩ := bind_some hh0; refine PC.rg ?_; refine PL.op rfl (Rd.moveO rfl) ?_; refine PL.mT rfl rfl ?_; refine PL.op rfl (Rd.fieldO rfl rfl) ?_; refine PL.op rfl (Rd.loadO rfl rfl rfl) ?_; refine PL.op rfl (Rd.addM rfl rfl h_26) ?_; refine PL.op rfl (Rd.subTML rfl rfl h_28) ?_; refine PL.apM hs rfl rfl rfl rfl (SrcA.eL rfl) rfl rfl rfl rfl h_30 ?_; refine PL.nm (.os 3 0 xs29.length) [some ⟨.mx [iA p_c.kind, iA p_c.at_, iA p_c.column.kind, iA p_c.column.default.kind, iA p_c.column.default.num, sA p_c.column.default.text], 140, 0⟩, none, none, some ⟨.tr (eL xs29), 42, 3⟩] rfl rfl ?_; refine PL.op rfl (Rd.asnO rfl) ?_; refine PL.nn ?_; refine PC.ret ?_; obtain rfl := some_in hh0; exact FinA.mk (r := .os 0 0 xs29.length) (bl := [⟨.tr (eL xs29), 42, 3⟩]) [some 3] (.inl rfl) rfl (rl := [.tmp 4]) (.tmp .nil) rfl rfl rfl (.os rfl) ⟨⟨_, rfl, rfl, rfl, .tr _⟩, trivial⟩ ⟨rfl, rfl⟩
  refine PC.ct rfl h_12 ?_; refine PC.seq ?_; obtain ⟨x13, h_14, hh0⟩ := bind_some hh0; obtain ⟨r15, h_16, hh0⟩ := bind_some hh0; obtain ⟨xs17, h_18, hh0⟩ := bind_some hh0; obtain ⟨n19, h_20, hh0⟩ := bind_some hh0; obtain ⟨xs21, h_22, hh0⟩ := bind_some hh0; obtain ⟨xs23, h_24, hh0⟩ := bind_some hh0; refine PC.any (id := 6) 16 (.seg [0, 1, 2, 3, 4, 5, 9, 10, 11, 12, 13, 6, 7, 8, 14, 15] .done) [2] rfl (by kernel_rfl) rfl ?_; refine PT.seg ?_; refine PR.op rfl (Rd.moveO rfl) ?_; refine PR.op rfl (Rd.moveT rfl) ?_; refine PR.op rfl (Rd.fieldO rfl rfl) ?_; refine PR.op rfl (Rd.loadO rfl rfl rfl) ?_; refine PR.op rfl (Rd.ixM rfl rfl h_14) ?_; refine PR.op rfl (Rd.elMR rfl h_14 rfl rfl) ?_; refine PR.op rfl (Rd.moveT rfl) ?_; refine PR.op rfl (Rd.fieldO rfl rfl) ?_; refine PR.op rfl (Rd.loadO rfl rfl rfl) ?_; refine PR.op rfl (Rd.addM rfl rfl h_20) ?_; refine PR.op rfl (Rd.subTML rfl rfl h_22) ?_; refine PR.callM false [] (w_S_widen N x13 r15 h_16) rfl Try.call109 rfl ⟨.aggL ⟨.t _, .t _, .t _, trivial⟩, trivial⟩ rfl trivial (fun h => by cases h) rfl ?_; refine PR.ef rfl rfl (Ef.litM (α := I_Value) [r15] [_] rfl rfl (by decide) rfl rfl rfl rfl) ?_; refine PR.nm (.os 3 0 1) [some ⟨.mx [iA p_c.kind, iA p_c.at_, iA p_c.column.kind, iA p_c.column.default.kind, iA p_c.column.default.num, sA p_c.column.default.text], 140, 0⟩, none, some ⟨.tr (eL xs3), 42, 3⟩, some ⟨.tr (eL [r15]), 42, 3⟩] rfl rfl ?_; refine PR.apMX hs rfl rfl rfl rfl (SrcA.ownE rfl rfl rfl) rfl rfl rfl rfl rfl h_18 ?_; refine PR.nm (.os 4 0 xs17.length) [some ⟨.mx [iA p_c.kind, iA p_c.at_, iA p_c.column.kind, iA p_c.column.default.kind, iA p_c.column.default.num, sA p_c.column.default.text], 140, 0⟩, none, none, some ⟨.tr (eL [r15]), 42, 3⟩, some ⟨.tr (eL xs17), 42, 3⟩] rfl rfl ?_; refine PR.apM hs rfl rfl rfl rfl (SrcA.eL rfl) rfl rfl rfl rfl rfl h_24 ?_; refine PR.nm (.os 5 0 xs23.length) [some ⟨.mx [iA p_c.kind, iA p_c.at_, iA p_c.column.kind, iA p_c.column.default.kind, iA p_c.column.default.num, sA p_c.column.default.text], 140, 0⟩, none, none, some ⟨.tr (eL [r15]), 42, 3⟩, none, some ⟨.tr (eL xs23), 42, 3⟩] rfl rfl ?_; refine PR.op rfl (Rd.asnO rfl) ?_; refine PR.nil ?_; refine PT.done ?_; refine PL.nn ?_; refine PC.ret ?_; refine inA_r ?_; refine thA_r ?_; obtain rfl := some_in hh0; exact FinA.mk (r := .os 0 0 xs23.length) (bl := [⟨.tr (eL xs23), 42, 3⟩]) [some 5] (.inl rfl) rfl (rl := [.tmp 4]) (.tmp .nil) rfl rfl rfl (.os rfl) ⟨⟨_, rfl, rfl, rfl, .tr _⟩, trivial⟩ ⟨rfl, rfl⟩
def m_S_advance_k1 (N : Nat) (v12 : (List I_Value)) : Option ((List I_Value)) :=
  some v12
def m_S_advance_b1 (N : Nat) (p_list : (List I_Change)) (i3 : Int) (v4 : (List I_Value)) : Option ((Int × (List I_Value)) ⊕ (List I_Value)) :=
  cond (decide (i3 < (p_list.length : Int)))
    ((ixI p_list i3).bind fun x19 =>
    (m_S_move N v4 x19).bind fun r21 =>
    (chk (i3 + (1 : Int))).bind fun n23 =>
    some (.inl (n23, r21)))
    (some (.inr v4))
def m_S_advance (N : Nat) (p_row : (List I_Value)) (p_list : (List I_Change)) : Option ((List I_Value)) :=
  (appM 32 ([] : List I_Value) p_row).bind fun xs1 =>
  (loopM (β := (List I_Value)) (fun s : Int × (List I_Value) => m_S_advance_b1 N p_list s.1 s.2) N ((0 : Int), xs1)).bind fun e =>
  m_S_advance_k1 N e
theorem w_S_advance (N : Nat) (p_row : (List I_Value)) (p_list : (List I_Change)) (r : (List I_Value)) (hh0 : m_S_advance N p_row p_list = some r) : FnX Try.prog 105 [] [sL p_row, sL p_list] (RE (.os 0 0 r.length) [⟨.tr (eL r), 42, 3⟩]) := by
  unfold m_S_advance at hh0; refine FnX.mk Try.func105 rfl rfl ?_; intro s hs; refine PC.seq ?_; refine PC.rg ?_; refine PL.aT rfl rfl ?_; refine PL.nn ?_; refine PC.seq ?_; obtain ⟨xs1, h_2, hh0⟩ := bind_some hh0; refine PC.rg ?_; refine PL.ef rfl (Ef.lit0M I_Value) ?_; refine PL.nm (.os 0 0 0) [some ⟨.tr (eL ([] : List I_Value)), 42, 3⟩] rfl rfl ?_; refine PL.mT rfl rfl ?_; refine PL.apM hs rfl rfl rfl rfl (SrcA.eL rfl) rfl rfl rfl rfl h_2 ?_; refine PL.nm (.os 1 0 xs1.length) [none, some ⟨.tr (eL xs1), 42, 3⟩] rfl rfl ?_; refine PL.op rfl (Rd.asnO rfl) ?_; refine PL.nn ?_; (iterate 2 refine PC.seq ?_); refine PC.rg ?_; refine PL.aT rfl rfl ?_; refine PL.nn ?_; obtain ⟨o13, h_14, hh0⟩ := bind_some hh0; refine PC.cutE hs (fun x : (List I_Value) => [(5, .os 0 0 x.length)]) (fun x => [⟨.tr (eL x), 42, 3⟩]) (fun x => m_S_advance_k1 N x = some r) ?_ ?_
  · refine PC.block ?_; refine PC.loop hs (fun x : Nat × (Int × (List I_Value)) => [(1, sL p_list), (5, .os 0 0 x.2.2.length), (6, iA x.2.1)]) (fun x => [⟨.tr (eL x.2.2), 42, 3⟩]) (fun x => loopM (β := (List I_Value)) (fun s : Int × (List I_Value) => m_S_advance_b1 N p_list s.1 s.2) x.1 x.2 = some o13) (fun x => x.1) (N, ((0 : Int), xs1)) [some 1] ⟨rfl, rfl, ⟨⟨_, rfl, rfl, rfl, .tr _⟩, trivial⟩, ⟨.t _, .os rfl, .t _, trivial⟩⟩ h_14 ?_
    rintro ⟨f15_, i3, v4⟩ h_17
    obtain ⟨f15, y16, rfl, hh1, kk1⟩ := loopM_some h_17
    replace hh1 : m_S_advance_b1 N p_list i3 v4 = some y16 := hh1
    unfold m_S_advance_b1 at hh1; (iterate 2 refine PC.seq ?_); refine PC.rg ?_; (iterate 2 refine PL.mT rfl rfl ?_); refine PL.op rfl (Rd.lenT rfl) ?_; refine PL.op rfl (Rd.lss rfl rfl) ?_; refine PL.nn ?_; rcases cond_some hh1 with ⟨h_18, hh1⟩ | ⟨h_18, hh1⟩; rotate_left
    · refine PC.cf rfl h_18 ?_; refine PC.exit ?_; (iterate 2 refine thA_e ?_); refine inA_eq rfl ?_; refine thA_n ?_; obtain rfl := some_in hh1; obtain rfl : (v4 : (List I_Value)) = o13 := kk1; exact ⟨v4, hh0, [some 0], ⟨rfl, rfl, ⟨⟨_, rfl, rfl, rfl, .tr _⟩, trivial⟩, ⟨.os rfl, trivial⟩⟩⟩
    refine PC.ct rfl h_18 ?_; refine PC.skip ?_; refine thA_n ?_; refine PC.seq ?_; refine PC.block ?_; obtain ⟨x19, h_20, hh1⟩ := bind_some hh1; obtain ⟨r21, h_22, hh1⟩ := bind_some hh1; refine PC.rg ?_; refine PL.op rfl (Rd.moveO rfl) ?_; (iterate 2 refine PL.mT rfl rfl ?_); refine PL.op rfl (Rd.ixM rfl rfl h_20) ?_; refine PL.op rfl (Rd.elMR rfl h_20 rfl rfl) ?_; refine PL.callM true [] (w_S_move N v4 x19 r21 h_22) rfl Try.call110 rfl ⟨.own rfl (by first | decide | exact List.not_mem_nil) rfl rfl, .aggL ⟨.t _, .t _, .t _, .t _, .t _, .t _, trivial⟩, trivial⟩ rfl trivial (fun _ => ⟨trivial, (flat_cons flat_ow flat_nil)⟩) ?_; refine PL.nm (.os 1 0 r21.length) [some ⟨.tr (eL v4), 42, 3⟩, some ⟨.tr (eL r21), 42, 3⟩] rfl rfl ?_; refine PL.op rfl (Rd.asnO rfl) ?_; refine PL.nil ?_; refine inA_n ?_; refine thA_n ?_; obtain ⟨n23, h_24, hh1⟩ := bind_some hh1; refine PC.rg ?_; refine PL.mT rfl rfl ?_; refine PL.op rfl (Rd.addM rfl rfl h_24) ?_; refine PL.aT rfl rfl ?_; refine PL.nil ?_; obtain rfl := some_in hh1; refine thA_n ?_; exact ⟨(f15, (n23, r21)), Nat.lt_succ_self _, kk1, [some 1], ⟨rfl, rfl, ⟨⟨_, rfl, rfl, rfl, .tr _⟩, trivial⟩, ⟨.t _, .os rfl, .t _, trivial⟩⟩⟩
  clear hh0
  rintro v12 hh0
  replace hh0 : m_S_advance_k1 N v12 = some r := hh0
  unfold m_S_advance_k1 at hh0; refine thA_n ?_; refine PC.seq ?_; refine PC.rg ?_; refine PL.op rfl (Rd.moveO rfl) ?_; refine PL.op rfl (Rd.asnO rfl) ?_; refine PL.nn ?_; refine PC.ret ?_; obtain rfl := some_in hh0; exact FinA.mk (r := .os 0 0 v12.length) (bl := [⟨.tr (eL v12), 42, 3⟩]) [some 0] (.inl rfl) rfl (rl := [.tmp 4]) (.tmp .nil) rfl rfl rfl (.os rfl) ⟨⟨_, rfl, rfl, rfl, .tr _⟩, trivial⟩ ⟨rfl, rfl⟩
def m_S_latest_k1 (N : Nat) (v16 : (List (List I_Value))) : Option ((List (List I_Value))) :=
  some v16
def m_S_latest_b1 (N : Nat) (p_t : I_Table) (i1 : Int) (v2 : (List (List I_Value))) : Option ((Int × (List (List I_Value))) ⊕ (List (List I_Value))) :=
  cond (decide (i1 < (p_t.rows.length : Int)))
    ((ixI p_t.rows i1).bind fun x23 =>
    (ixI p_t.rows i1).bind fun x25 =>
    (V.subM p_t.changes x25.tag (p_t.changes.length : Int)).bind fun xs27 =>
    (m_S_advance N x23.row xs27).bind fun r29 =>
    (appM 24 v2 [r29]).bind fun xs31 =>
    (chk (i1 + (1 : Int))).bind fun n33 =>
    some (.inl (n33, xs31)))
    (some (.inr v2))
def m_S_latest (N : Nat) (p_t : I_Table) : Option ((List (List I_Value))) :=
  (loopM (β := (List (List I_Value))) (fun s : Int × (List (List I_Value)) => m_S_latest_b1 N p_t s.1 s.2) N ((0 : Int), ([] : List (List I_Value)))).bind fun e =>
  m_S_latest_k1 N e
theorem w_S_latest (N : Nat) (p_t : I_Table) (r : (List (List I_Value))) (hh0 : m_S_latest N p_t = some r) : FnX Try.prog 90 [] [.agg [sL p_t.first, sL p_t.changes, sL p_t.rows]] (RE (.os 0 0 r.length) [⟨.tr (eL r), 53, 1⟩]) := by
  unfold m_S_latest at hh0; refine FnX.mk Try.func90 rfl rfl ?_; intro s hs; refine PC.seq ?_; refine PC.rg ?_; refine PL.ef rfl (Ef.box rfl rfl rfl) ?_; refine PL.nm (.op 0 0) [some ⟨.mx [sL p_t.first, sL p_t.changes, sL p_t.rows], 79, 0⟩] rfl rfl ?_; refine PL.aT rfl rfl ?_; refine PL.nn ?_; refine PC.seq ?_; refine PC.rg ?_; refine PL.ef rfl (Ef.lit0M (List I_Value)) ?_; refine PL.nm (.os 1 0 0) [some ⟨.mx [sL p_t.first, sL p_t.changes, sL p_t.rows], 79, 0⟩, some ⟨.tr (eL ([] : List (List I_Value))), 53, 1⟩] rfl rfl ?_; refine PL.op rfl (Rd.asnO rfl) ?_; refine PL.nn ?_; (iterate 2 refine PC.seq ?_); refine PC.rg ?_; refine PL.aT rfl rfl ?_; refine PL.nn ?_; obtain ⟨o17, h_18, hh0⟩ := bind_some hh0; refine PC.cutE hs (fun x : (List (List I_Value)) => [(3, .os 0 0 x.length)]) (fun x => [⟨.tr (eL x), 53, 1⟩]) (fun x => m_S_latest_k1 N x = some r) ?_ ?_
  · refine PC.block ?_; refine PC.loop hs (fun x : Nat × (Int × (List (List I_Value))) => [(1, .op 0 0), (3, .os 1 0 x.2.2.length), (4, iA x.2.1)]) (fun x => [⟨.mx [sL p_t.first, sL p_t.changes, sL p_t.rows], 79, 0⟩, ⟨.tr (eL x.2.2), 53, 1⟩]) (fun x => loopM (β := (List (List I_Value))) (fun s : Int × (List (List I_Value)) => m_S_latest_b1 N p_t s.1 s.2) x.1 x.2 = some o17) (fun x => x.1) (N, ((0 : Int), ([] : List (List I_Value)))) [some 0, some 1] ⟨rfl, rfl, ⟨⟨_, rfl, rfl, rfl, .mx ⟨.t _, .t _, .t _, trivial⟩⟩, ⟨_, rfl, rfl, rfl, .tr _⟩, trivial⟩, ⟨.op rfl, .os rfl, .t _, trivial⟩⟩ h_18 ?_
    rintro ⟨f19_, i1, v2⟩ h_21
    obtain ⟨f19, y20, rfl, hh1, kk1⟩ := loopM_some h_21
    replace hh1 : m_S_latest_b1 N p_t i1 v2 = some y20 := hh1
    unfold m_S_latest_b1 at hh1; (iterate 2 refine PC.seq ?_); refine PC.rg ?_; refine PL.mT rfl rfl ?_; refine PL.op rfl (Rd.fieldO rfl rfl) ?_; refine PL.op rfl (Rd.loadO rfl rfl rfl) ?_; refine PL.op rfl (Rd.lenT rfl) ?_; refine PL.op rfl (Rd.lss rfl rfl) ?_; refine PL.nn ?_; rcases cond_some hh1 with ⟨h_22, hh1⟩ | ⟨h_22, hh1⟩; rotate_left
    · refine PC.cf rfl h_22 ?_; refine PC.exit ?_; (iterate 2 refine thA_e ?_); refine inA_eq rfl ?_; refine thA_n ?_; obtain rfl := some_in hh1; obtain rfl : (v2 : (List (List I_Value))) = o17 := kk1; exact ⟨v2, hh0, [some 1], ⟨rfl, rfl, ⟨⟨_, rfl, rfl, rfl, .tr _⟩, trivial⟩, ⟨.os rfl, trivial⟩⟩⟩
    refine PC.ct rfl h_22 ?_; refine PC.skip ?_; refine thA_n ?_; refine PC.seq ?_; refine PC.block ?_; obtain ⟨x23, h_24, hh1⟩ := bind_some hh1; obtain ⟨x25, h_26, hh1⟩ := bind_some hh1; obtain ⟨xs27, h_28, hh1⟩ := bind_some hh1; obtain ⟨r29, h_30, hh1⟩ := bind_some hh1; obtain ⟨xs31, h_32, hh1⟩ := bind_some hh1; refine PC.any (id := 5) 18 (.seg [0, 1, 2, 3, 4, 5, 6, 7, 8, 9, 10, 11, 12, 13, 14, 15, 16, 17] .done) [] rfl (by kernel_rfl) rfl ?_; refine PT.seg ?_; refine PR.op rfl (Rd.moveO rfl) ?_; refine PR.op rfl (Rd.fieldO rfl rfl) ?_; refine PR.op rfl (Rd.loadO rfl rfl rfl) ?_; refine PR.op rfl (Rd.moveT rfl) ?_; refine PR.op rfl (Rd.ixM rfl rfl h_24) ?_; refine PR.op rfl (Rd.fieldT rfl) ?_; refine PR.op rfl (Rd.elMF (f := 1) rfl h_24 rfl rfl) ?_; refine PR.op rfl (Rd.fieldO rfl rfl) ?_; refine PR.op rfl (Rd.loadO rfl rfl rfl) ?_; refine PR.op rfl (Rd.fieldO rfl rfl) ?_; refine PR.op rfl (Rd.loadO rfl rfl rfl) ?_; refine PR.op rfl (Rd.moveT rfl) ?_; refine PR.op rfl (Rd.ixM rfl rfl h_26) ?_; refine PR.op rfl (Rd.fieldT rfl) ?_; refine PR.op rfl (Rd.elMF (f := 0) rfl h_26 rfl rfl) ?_; refine PR.op rfl (Rd.subTML rfl rfl h_28) ?_; refine PR.callM false [] (w_S_advance N x23.row xs27 r29 h_30) rfl Try.call105 rfl ⟨.t _, .t _, trivial⟩ rfl trivial (fun h => by cases h) rfl ?_; refine PR.nm (.os 2 0 r29.length) [some ⟨.mx [sL p_t.first, sL p_t.changes, sL p_t.rows], 79, 0⟩, some ⟨.tr (eL v2), 53, 1⟩, some ⟨.tr (eL r29), 42, 3⟩] rfl rfl ?_; refine PR.frz hs 2 3 [(29, sL r29)] [some ⟨.mx [sL p_t.first, sL p_t.changes, sL p_t.rows], 79, 0⟩, some ⟨.tr (eL v2), 53, 1⟩, none] rfl rfl rfl ⟨(.own rfl (by decide) rfl rfl), trivial⟩ ⟨⟨rfl, .inl rfl⟩, ⟨rfl, .inl rfl⟩, trivial⟩ ?_; refine PR.ef rfl rfl (Ef.litM (α := (List I_Value)) [r29] [_] rfl rfl (by decide) rfl rfl rfl rfl) ?_; refine PR.nm (.os 3 0 1) [some ⟨.mx [sL p_t.first, sL p_t.changes, sL p_t.rows], 79, 0⟩, some ⟨.tr (eL v2), 53, 1⟩, none, some ⟨.tr (eL [r29]), 53, 1⟩] rfl rfl ?_; refine PR.nil ?_; refine PT.done ?_; refine PL.apM hs rfl rfl rfl rfl (SrcA.ownE rfl rfl rfl) rfl rfl rfl rfl h_32 ?_; refine PL.nm (.os 4 0 xs31.length) [some ⟨.mx [sL p_t.first, sL p_t.changes, sL p_t.rows], 79, 0⟩, none, none, some ⟨.tr (eL [r29]), 53, 1⟩, some ⟨.tr (eL xs31), 53, 1⟩] rfl rfl ?_; refine PL.op rfl (Rd.asnO rfl) ?_; refine PL.nil ?_; refine inA_n ?_; refine thA_n ?_; obtain ⟨n33, h_34, hh1⟩ := bind_some hh1; refine PC.rg ?_; refine PL.mT rfl rfl ?_; refine PL.op rfl (Rd.addM rfl rfl h_34) ?_; refine PL.aT rfl rfl ?_; refine PL.nil ?_; obtain rfl := some_in hh1; refine thA_n ?_; exact ⟨(f19, (n33, xs31)), Nat.lt_succ_self _, kk1, [some 0, some 4], ⟨rfl, rfl, ⟨⟨_, rfl, rfl, rfl, .mx ⟨.t _, .t _, .t _, trivial⟩⟩, ⟨_, rfl, rfl, rfl, .tr _⟩, trivial⟩, ⟨.op rfl, .os rfl, .t _, trivial⟩⟩⟩
  clear hh0
  rintro v16 hh0
  replace hh0 : m_S_latest_k1 N v16 = some r := hh0
  unfold m_S_latest_k1 at hh0; refine thA_n ?_; refine PC.seq ?_; refine PC.rg ?_; refine PL.op rfl (Rd.moveO rfl) ?_; refine PL.op rfl (Rd.asnO rfl) ?_; refine PL.nn ?_; refine PC.ret ?_; obtain rfl := some_in hh0; exact FinA.mk (r := .os 0 0 v16.length) (bl := [⟨.tr (eL v16), 53, 1⟩]) [some 0] (.inl rfl) rfl (rl := [.tmp 2]) (.tmp .nil) rfl rfl rfl (.os rfl) ⟨⟨_, rfl, rfl, rfl, .tr _⟩, trivial⟩ ⟨rfl, rfl⟩
end V
end Go.Proofs.Ytlpbgmahegoidaa
namespace Go.Proofs
open Go.Shelf
def Try.lays189_ren : Go.Shelf.Ren := ⟨fun | 189 => 43 | 125 => 61 | 257 => 60 | 128 => 79 | 129 => 80 | 294 => 70 | 295 => 71 | 296 => 72 | 297 => 73 | 298 => 74 | 299 => 75 | 216 => 76 | 300 => 77 | 301 => 78 | 328 => 91 | 329 => 92 | 330 => 93 | 331 => 94 | 332 => 95 | 215 => 96 | 343 => 106 | n => n, fun | 28 => 38 | 3 => 3 | 46 => 91 | 0 => 0 | 51 => 111 | 53 => 113 | 4 => 4 | 183 => 103 | 182 => 102 | 131 => 108 | 5 => 5 | 9 => 9 | 218 => 129 | 222 => 133 | 228 => 147 | 229 => 148 | n => n, fun | n => n⟩
theorem Try.lays189 : Go.Proofs.Lays.n189 Try.prog Try.lays189_ren := {
  mixed := by kernel_rfl
  f125 := Try.func61.trans (congrArg some (by kernel_rfl))
  f128 := Try.func79.trans (congrArg some (by kernel_rfl))
  f129 := Try.func80.trans (congrArg some (by kernel_rfl))
  f189 := Try.func43.trans (congrArg some (by kernel_rfl))
  f215 := Try.func96.trans (congrArg some (by kernel_rfl))
  f216 := Try.func76.trans (congrArg some (by kernel_rfl))
  f257 := Try.func60.trans (congrArg some (by kernel_rfl))
  f294 := Try.func70.trans (congrArg some (by kernel_rfl))
  f295 := Try.func71.trans (congrArg some (by kernel_rfl))
  f296 := Try.func72.trans (congrArg some (by kernel_rfl))
  f297 := Try.func73.trans (congrArg some (by kernel_rfl))
  f298 := Try.func74.trans (congrArg some (by kernel_rfl))
  f299 := Try.func75.trans (congrArg some (by kernel_rfl))
  f300 := Try.func77.trans (congrArg some (by kernel_rfl))
  f301 := Try.func78.trans (congrArg some (by kernel_rfl))
  f328 := Try.func91.trans (congrArg some (by kernel_rfl))
  f329 := Try.func92.trans (congrArg some (by kernel_rfl))
  f330 := Try.func93.trans (congrArg some (by kernel_rfl))
  f331 := Try.func94.trans (congrArg some (by kernel_rfl))
  f332 := Try.func95.trans (congrArg some (by kernel_rfl))
  f343 := Try.func106.trans (congrArg some (by kernel_rfl))
  t0 := Try.underlying0
  a0 := Try.isAgg0
  z0 := Try.sizeOf0
  v0 := Try.zeroValue0
  t3 := Try.underlying3
  a3 := Try.isAgg3
  z3 := Try.sizeOf3
  v3 := Try.zeroValue3
  t4 := Try.underlying4
  a4 := Try.isAgg4
  z4 := Try.sizeOf4
  v4 := Try.zeroValue4
  t5 := Try.underlying5
  a5 := Try.isAgg5
  z5 := Try.sizeOf5
  v5 := Try.zeroValue5
  t9 := Try.underlying9
  a9 := Try.isAgg9
  z9 := Try.sizeOf9
  v9 := Try.zeroValue9
  t28 := Try.underlying38
  a28 := Try.isAgg38
  z28 := Try.sizeOf38
  v28 := Try.zeroValue38
  t46 := Try.underlying91
  a46 := Try.isAgg91
  z46 := Try.sizeOf91
  v46 := Try.zeroValue91
  t51 := Try.underlying111
  a51 := Try.isAgg111
  z51 := Try.sizeOf111
  v51 := Try.zeroValue111
  t53 := Try.underlying113
  a53 := Try.isAgg113
  z53 := Try.sizeOf113
  v53 := Try.zeroValue113
  t131 := Try.underlying108
  a131 := Try.isAgg108
  z131 := Try.sizeOf108
  v131 := Try.zeroValue108
  t182 := Try.underlying102
  a182 := Try.isAgg102
  z182 := Try.sizeOf102
  v182 := Try.zeroValue102
  t183 := Try.underlying103
  a183 := Try.isAgg103
  z183 := Try.sizeOf103
  v183 := Try.zeroValue103
  t218 := Try.underlying129
  a218 := Try.isAgg129
  z218 := Try.sizeOf129
  v218 := Try.zeroValue129
  t222 := Try.underlying133
  a222 := Try.isAgg133
  z222 := Try.sizeOf133
  v222 := Try.zeroValue133
  t228 := Try.underlying147
  a228 := Try.isAgg147
  z228 := Try.sizeOf147
  v228 := Try.zeroValue147
  t229 := Try.underlying148
  a229 := Try.isAgg148
  z229 := Try.sizeOf148
  v229 := Try.zeroValue148 }
end Go.Proofs
namespace Go.Proofs.Ytlpbgmahegoidaa
namespace V
def sortP (l : List Int) : List Int := l.mergeSort (fun a b => decide (a ≤ b))
theorem sortP_perm (l : List Int) : (sortP l).Perm l := List.mergeSort_perm l _
theorem sortP_pw (l : List Int) : (sortP l).Pairwise (· ≤ ·) := by
  have h := List.pairwise_mergeSort (le := fun a b : Int => decide (a ≤ b)) (fun a b c h1 h2 => by simp at *; omega) (fun a b => by simp; omega) l
  exact h.imp fun h => by simpa using h
theorem sortP_of {l v : List Int} (h1 : v.Perm l) (h2 : v.Pairwise (· ≤ ·)) : v = sortP l :=
  List.Perm.eq_of_pairwise (fun a b _ _ h3 h4 => by omega) h2 (sortP_pw l) (h1.trans (sortP_perm l).symm)
theorem sortP_len (l : List Int) : (sortP l).length = l.length := (sortP_perm l).length_eq
end V
end Go.Proofs.Ytlpbgmahegoidaa
namespace Go.Proofs.Ytlpbgmahegoidaa
namespace V
open Go.Sort
theorem eL_int : ∀ xs : List Int, eL xs = xs.map fun i => Tr.v (.int .i64 i)
  | [] => rfl
  | x :: xs => by
    have := eL_int xs
    show _ :: eL xs = _
    rw [this]; rfl
theorem sortP_nil : sortP [] = [] := List.eq_nil_of_length_eq_zero (sortP_len [])
def m_slices_Sort_int (N : Nat) (p_x : List Int) : Option (List Int) := if p_x.length < 4611686018427387904 then some (sortP p_x) else none
theorem len_slices_Sort_int (N : Nat) (p_x r : List Int) (h : m_slices_Sort_int N p_x = some r) : r.length = p_x.length := by
  unfold m_slices_Sort_int at h
  split at h
  · cases h; exact sortP_len _
  · cases h
theorem putCells_get (off : Nat) (d : Array Int) (c : Array Value) {j : Nat} (h : j < d.size) (hc : off + j < c.size) : (putCells (Value.int .i64) off d c)[off + j]? = some (.int .i64 d[j]) := by
  simp only [putCells, Array.getElem?_mapIdx, Array.getElem?_eq_getElem hc, Option.map_some]
  rw [if_pos ⟨by omega, by omega⟩, show off + j - off = j by omega, getElem!_pos d j h]
theorem w_slices_Sort_int (N : Nat) (p_x r : List Int) (hh0 : m_slices_Sort_int N p_x = some r) : FnX Try.prog 43 [⟨.tr (eL p_x), 3, 1⟩] [.os 0 0 p_x.length] (RE (.tup []) [⟨.tr (eL r), 3, 1⟩]) := by
  have hlen := len_slices_Sort_int N p_x r hh0
  unfold m_slices_Sort_int at hh0
  split at hh0
  case isFalse => cases hh0
  rename_i hbig
  obtain rfl := (Option.some.inj hh0).symm
  intro s U av S hV ha
  obtain ⟨hal, har⟩ := ha
  obtain ⟨y, rfl⟩ : ∃ y, av = [y] := List.length_eq_one_iff.1 hal
  have hy := har 0 _ y rfl rfl
  have hsl : s.L.length = 1 := by rw [S.len]; rfl
  obtain ⟨x, hx⟩ : ∃ x, s.L[0]? = some x := ⟨s.L[0], List.getElem?_eq_getElem (by omega)⟩
  have hown := S.own 0 _ x rfl hx
  have cells : ((⟨.tr (eL p_x), 3, 1⟩ : Ob).cells) = p_x.map fun i => AV.t (.v (.int .i64 i)) := by
    simp [Ob.cells, Cs.list, eL_int]
  by_cases h0 : p_x.length = 0
  · obtain rfl := List.eq_nil_of_length_eq_zero h0
    have hz : ∃ p cap, y = .slice p 0 cap := by
      cases hy with
      | os _ _ _ cap L _ _ _ _ => exact ⟨_, _, rfl⟩
      | osn => exact ⟨_, _, rfl⟩
      | osz => exact ⟨_, _, rfl⟩
      | osd _ _ _ _ _ hM => rw [hx] at hM; cases hM; exact hown.elim
    obtain ⟨p, cap, rfl⟩ := hz
    refine (Any.slices_Sort_int_none Try.lays189 p cap s.w).mono ?_
    rintro e w' ⟨rfl, rfl⟩
    rw [sortP_nil]
    exact ⟨_, _, _, s.L, U, rfl, ⟨rfl, rfl⟩, .tup [] [] rfl (fun j c y h => by simp at h), S⟩
  · generalize hn0 : p_x.length = n0 at hy
    cases hy with
    | osn => exact (h0 hn0).elim
    | osz => exact (h0 hn0).elim
    | osd _ _ _ _ _ hM => rw [hx] at hM; cases hM; exact hown.elim
    | os _ _ _ cap L hM hcap hn hcm =>
      rw [hx] at hM; cases hM
      subst hn0
      obtain ⟨hk, hle, cur, hcur, hsz, hr⟩ := hown
      rw [cells] at hle hr
      simp only [List.length_map] at hle
      have hget : ∀ j (h : j < p_x.length), cur[L.off + j]? = some (.int .i64 p_x[j]) := fun j h => by
        obtain ⟨z, hz, _, hR⟩ := hr j (.t (.v (.int .i64 p_x[j]))) (by rw [List.getElem?_map, List.getElem?_eq_getElem h]; rfl)
        rw [hz, Rel.int hR]
      have hlt := S.lt _ (.ad hx)
      have H : Holds (Value.int .i64) s.w L.blk L.off p_x.toArray := by
        intro j hj
        simp only [List.size_toArray] at hj
        refine ⟨?_, ?_⟩
        · rw [cell_of_row s.w _ _ cur _ _ hcur, hget j hj]
          rw [getElem!_pos p_x.toArray j (by simpa using hj)]; simp
        · simp [World.frozen?, hcur]
      have main := Any.slices_Sort_int Try.lays189 L.blk L.off cap p_x s.w H hlt hbig
      refine main.mono ?_
      rintro e w' ⟨rfl, n, os, rfl⟩
      have hs : (sortP p_x).length = p_x.length := sortP_len p_x
      have hheap : (putRow (Value.int .i64) (Go.Sort.ahead s.w n) L.blk L.off (sortP p_x).toArray).heap[L.blk]? = some (.cells (putCells (Value.int .i64) L.off (sortP p_x).toArray cur) 3 (0, 0)) := by
        show (s.w.heap.modify L.blk (onCells _))[L.blk]? = _
        rw [Array.getElem?_modify, if_pos rfl, hcur]; rfl
      have hb : BelowX [L.blk] s.w (grow (putRow (Value.int .i64) (Go.Sort.ahead s.w n) L.blk L.off (sortP p_x).toArray) os) := by
        refine ⟨rfl, rfl, rfl, by simp, fun k hk hkx => ?_⟩
        rw [heap_grow_old _ _ (by simpa using hk)]
        show (s.w.heap.modify L.blk (onCells _))[k]? = _
        rw [Array.getElem?_modify, if_neg (fun e => hkx (by simp [e]))]
      obtain ⟨S', _⟩ := S.turn (b := 0) (L := L) (ob' := ⟨.tr (eL (sortP p_x)), 3, 1⟩) hx hb (by simp) (by
        have cells' : ((⟨.tr (eL (sortP p_x)), 3, 1⟩ : Ob).cells) = (sortP p_x).map fun i => AV.t (.v (.int .i64 i)) := by
          simp [Ob.cells, Cs.list, eL_int]
        refine ⟨hk, by rw [cells', List.length_map]; omega, putCells (Value.int .i64) L.off (sortP p_x).toArray cur, ?_, ?_, fun j c hc => ?_⟩
        · rw [heap_grow_old _ _ (by simpa using hlt)]; exact hheap
        · simp [putCells, hsz]
        · rw [cells', List.getElem?_map] at hc
          have hj : j < (sortP p_x).length := by
            rcases Nat.lt_or_ge j (sortP p_x).length with h | h
            · exact h
            · rw [List.getElem?_eq_none h] at hc; cases hc
          rw [List.getElem?_eq_getElem hj] at hc
          cases hc
          refine ⟨_, putCells_get L.off (sortP p_x).toArray cur (by simpa using hj) (by omega), rfl, ?_⟩
          exact .t _ _ (.v _ rfl))
      exact ⟨_, _, _, s.L, U, rfl, ⟨rfl, rfl⟩, .tup [] [] rfl (fun j c y h => by simp at h), S'⟩
end V
end Go.Proofs.Ytlpbgmahegoidaa
