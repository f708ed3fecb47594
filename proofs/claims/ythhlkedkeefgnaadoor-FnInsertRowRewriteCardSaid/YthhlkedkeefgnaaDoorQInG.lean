/- What the rows need, part 7. No condition. -/
import Derived.Test.YthhlkedkeefgnaaDoorQInF
namespace Go.Proofs.YthhlkedkeefgnaaDoor
namespace V
open Enc (enc)
set_option linter.unusedVariables false
set_option linter.unusedSimpArgs false
set_option maxHeartbeats 4000000
set_option maxRecDepth 100000
open Go.RowKit
attribute [local irreducible] thA inA FinA eL
def m_L_equalRow_k1 (N : Nat) : Option (Bool) :=
  some true
def m_L_equalRow_b1 (N : Nat) (p_a : (List I_Value)) (p_b : (List I_Value)) (i2 : Int) : Option (Int ⊕ (Unit ⊕ Bool)) :=
  cond (decide (i2 < (p_a.length : Int)))
    ((ixI p_a i2).bind fun x17 =>
    (ixI p_b i2).bind fun x19 =>
    cond (decide (x17 = x19))
      ((chk (i2 + (1 : Int))).bind fun n22 =>
      some (.inl n22))
      (some (.inr (.inr false))))
    (some (.inr (.inl ())))
def m_L_equalRow (N : Nat) (p_a : (List I_Value)) (p_b : (List I_Value)) : Option (Bool) :=
  cond (decide ((p_a.length : Int) = (p_b.length : Int)))
    ((loopM (β := Unit ⊕ Bool) (fun s : Int => m_L_equalRow_b1 N p_a p_b s) N (0 : Int)).bind fun o => match o with
    | .inl e =>
      m_L_equalRow_k1 N 
    | .inr v =>
      some v)
    (some false)
theorem w_L_equalRow (N : Nat) (p_a : (List I_Value)) (p_b : (List I_Value)) (r : Bool) (hh0 : m_L_equalRow N p_a p_b = some r) : FnX Tryd.prog 31 [] [sL p_a, sL p_b] (RE (bA r) []) := by
  unfold m_L_equalRow at hh0; refine FnX.mk Tryd.func31 rfl rfl ?_; intro s hs; refine PC.seq ?_; refine PC.region ?_; refine PL.op rfl (Rd.asnT rfl) ?_; refine PL.nil ?_; refine thA_n ?_; (iterate 2 refine PC.seq ?_); refine PC.region ?_; refine PL.op rfl (Rd.moveT rfl) ?_; refine PL.op rfl (Rd.lenT rfl) ?_; refine PL.op rfl (Rd.moveT rfl) ?_; refine PL.op rfl (Rd.lenT rfl) ?_; refine PL.op rfl (Rd.neq rfl rfl) ?_; refine PL.nil ?_; refine thA_n ?_; rcases cond_some hh0 with ⟨h_1, hh0⟩ | ⟨h_1, hh0⟩; rotate_left
  · refine PC.cond_true rfl (not_f h_1) ?_; refine PC.seq ?_; refine PC.region ?_; refine PL.op rfl (Rd.asnT rfl) ?_; refine PL.nil ?_; refine thA_n ?_; refine PC.ret ?_; refine thA_r ?_; obtain rfl := some_in hh0; exact FinA.mk (r := bA false) (bl := []) [] (.inl rfl) rfl (rl := [.tmp 4]) (.tmp .nil) rfl rfl rfl (.t _) trivial ⟨rfl, rfl⟩
  refine PC.cond_false rfl (not_t h_1) ?_; refine PC.skip ?_; refine thA_n ?_; (iterate 2 refine PC.seq ?_); refine PC.region ?_; refine PL.op rfl (Rd.asnT rfl) ?_; refine PL.nil ?_; refine thA_n ?_; obtain ⟨o11, h_12, hh0⟩ := bind_some hh0; refine PC.cutE hs (fun x : Unit => []) (fun x => []) (fun x => m_L_equalRow_k1 N  = some r) ?_ ?_
  · refine PC.block ?_; refine PC.loop hs (fun x : Nat × (Int) => [(0, sL p_a), (1, sL p_b), (5, iA x.2)]) (fun x => []) (fun x => loopM (β := Unit ⊕ Bool) (fun s : Int => m_L_equalRow_b1 N p_a p_b s) x.1 x.2 = some o11) (fun x => x.1) (N, (0 : Int)) [] ⟨rfl, rfl, trivial, ⟨.t _, .t _, .t _, trivial⟩⟩ h_12 ?_
    rintro ⟨f13_, i2⟩ h_15
    obtain ⟨f13, y14, rfl, hh1, kk1⟩ := loopM_some h_15
    replace hh1 : m_L_equalRow_b1 N p_a p_b i2 = some y14 := hh1
    unfold m_L_equalRow_b1 at hh1; (iterate 2 refine PC.seq ?_); refine PC.region ?_; (iterate 2 refine PL.op rfl (Rd.moveT rfl) ?_); refine PL.op rfl (Rd.lenT rfl) ?_; refine PL.op rfl (Rd.lss rfl rfl) ?_; refine PL.nil ?_; refine thA_n ?_; rcases cond_some hh1 with ⟨h_16, hh1⟩ | ⟨h_16, hh1⟩; rotate_left
    · refine PC.cond_false rfl h_16 ?_; refine PC.exit ?_; (iterate 2 refine thA_e ?_); refine inA_eq rfl ?_; refine thA_n ?_; obtain rfl := some_in hh1; obtain rfl : (.inl () : Unit ⊕ Bool) = o11 := kk1; exact ⟨(), hh0, [], ⟨rfl, rfl, trivial, trivial⟩⟩
    refine PC.cond_true rfl h_16 ?_; refine PC.skip ?_; refine thA_n ?_; refine PC.seq ?_; refine PC.block ?_; refine PC.seq ?_; obtain ⟨x17, h_18, hh1⟩ := bind_some hh1; obtain ⟨x19, h_20, hh1⟩ := bind_some hh1; refine PC.any (id := 6) 9 (.seg [0, 1, 2, 3, 4, 5, 6, 7, 8] .done) [] rfl (by kernel_rfl) rfl ?_; refine PT.seg ?_; (iterate 2 refine PR.op rfl (Rd.moveT rfl) ?_); refine PR.op rfl (Rd.ixM rfl rfl h_18) ?_; refine PR.op rfl (Rd.elMR rfl h_18 rfl rfl) ?_; (iterate 2 refine PR.op rfl (Rd.moveT rfl) ?_); refine PR.op rfl (Rd.ixM rfl rfl h_20) ?_; refine PR.op rfl (Rd.elMR rfl h_20 rfl rfl) ?_; refine PR.op rfl (Rd.neqE (a := x17) (b := x19) rfl rfl rfl rfl) ?_; refine PR.nil ?_; refine PT.done ?_; refine PL.nil ?_; refine thA_n ?_; rcases cond_some hh1 with ⟨h_21, hh1⟩ | ⟨h_21, hh1⟩
    · refine PC.cond_false rfl (not_t h_21) ?_; refine PC.skip ?_; refine inA_n ?_; refine thA_n ?_; obtain ⟨n22, h_23, hh1⟩ := bind_some hh1; refine PC.region ?_; refine PL.op rfl (Rd.moveT rfl) ?_; refine PL.op rfl (Rd.addM rfl rfl h_23) ?_; refine PL.op rfl (Rd.asnT rfl) ?_; refine PL.nil ?_; obtain rfl := some_in hh1; refine thA_n ?_; exact ⟨(f13, n22), Nat.lt_succ_self _, kk1, [], ⟨rfl, rfl, trivial, ⟨.t _, .t _, .t _, trivial⟩⟩⟩
    refine PC.cond_true rfl (not_f h_21) ?_; refine PC.seq ?_; refine PC.region ?_; refine PL.op rfl (Rd.asnT rfl) ?_; refine PL.nil ?_; refine thA_n ?_; refine PC.ret ?_; refine inA_r ?_; (iterate 2 refine thA_r ?_); refine inA_r ?_; refine thA_r ?_; obtain rfl := some_in hh1; obtain rfl : (.inr false : Unit ⊕ Bool) = o11 := kk1; refine thA_r ?_; obtain rfl := some_in hh0; exact FinA.mk (r := bA false) (bl := []) [] (.inl rfl) rfl (rl := [.tmp 4]) (.tmp .nil) rfl rfl rfl (.t _) trivial ⟨rfl, rfl⟩
  clear hh0
  rintro ⟨⟩ hh0
  replace hh0 : m_L_equalRow_k1 N  = some r := hh0
  unfold m_L_equalRow_k1 at hh0; refine thA_n ?_; refine PC.seq ?_; refine PC.region ?_; refine PL.op rfl (Rd.asnT rfl) ?_; refine PL.nil ?_; refine thA_n ?_; refine PC.ret ?_; obtain rfl := some_in hh0; exact FinA.mk (r := bA true) (bl := []) [] (.inl rfl) rfl (rl := [.tmp 4]) (.tmp .nil) rfl rfl rfl (.t _) trivial ⟨rfl, rfl⟩
def m_L_equalRows_k1 (N : Nat) : Option (Bool) :=
  some true
def m_L_equalRows_b1 (N : Nat) (p_a : (List (List I_Value))) (p_b : (List (List I_Value))) (i2 : Int) : Option (Int ⊕ (Unit ⊕ Bool)) :=
  cond (decide (i2 < (p_a.length : Int)))
    ((ixI p_a i2).bind fun x19 =>
    (ixI p_b i2).bind fun x21 =>
    (m_L_equalRow N x19 x21).bind fun r23 =>
    cond r23
      ((chk (i2 + (1 : Int))).bind fun n26 =>
      some (.inl n26))
      (some (.inr (.inr false))))
    (some (.inr (.inl ())))
def m_L_equalRows (N : Nat) (p_a : (List (List I_Value))) (p_b : (List (List I_Value))) : Option (Bool) :=
  cond (decide ((p_a.length : Int) = (p_b.length : Int)))
    ((loopM (β := Unit ⊕ Bool) (fun s : Int => m_L_equalRows_b1 N p_a p_b s) N (0 : Int)).bind fun o => match o with
    | .inl e =>
      m_L_equalRows_k1 N 
    | .inr v =>
      some v)
    (some false)
theorem w_L_equalRows (N : Nat) (p_a : (List (List I_Value))) (p_b : (List (List I_Value))) (r : Bool) (hh0 : m_L_equalRows N p_a p_b = some r) : FnX Tryd.prog 27 [] [sL p_a, sL p_b] (RE (bA r) []) := by
  unfold m_L_equalRows at hh0; refine FnX.mk Tryd.func27 rfl rfl ?_; intro s hs; refine PC.seq ?_; refine PC.region ?_; refine PL.op rfl (Rd.asnT rfl) ?_; refine PL.nil ?_; refine thA_n ?_; (iterate 2 refine PC.seq ?_); refine PC.region ?_; refine PL.op rfl (Rd.moveT rfl) ?_; refine PL.op rfl (Rd.lenT rfl) ?_; refine PL.op rfl (Rd.moveT rfl) ?_; refine PL.op rfl (Rd.lenT rfl) ?_; refine PL.op rfl (Rd.neq rfl rfl) ?_; refine PL.nil ?_; refine thA_n ?_; rcases cond_some hh0 with ⟨h_1, hh0⟩ | ⟨h_1, hh0⟩; rotate_left
  · refine PC.cond_true rfl (not_f h_1) ?_; refine PC.seq ?_; refine PC.region ?_; refine PL.op rfl (Rd.asnT rfl) ?_; refine PL.nil ?_; refine thA_n ?_; refine PC.ret ?_; refine thA_r ?_; obtain rfl := some_in hh0; exact FinA.mk (r := bA false) (bl := []) [] (.inl rfl) rfl (rl := [.tmp 4]) (.tmp .nil) rfl rfl rfl (.t _) trivial ⟨rfl, rfl⟩
  refine PC.cond_false rfl (not_t h_1) ?_; refine PC.skip ?_; refine thA_n ?_; (iterate 2 refine PC.seq ?_); refine PC.region ?_; refine PL.op rfl (Rd.asnT rfl) ?_; refine PL.nil ?_; refine thA_n ?_; obtain ⟨o13, h_14, hh0⟩ := bind_some hh0; refine PC.cutE hs (fun x : Unit => []) (fun x => []) (fun x => m_L_equalRows_k1 N  = some r) ?_ ?_
  · refine PC.block ?_; refine PC.loop hs (fun x : Nat × (Int) => [(0, sL p_a), (1, sL p_b), (5, iA x.2)]) (fun x => []) (fun x => loopM (β := Unit ⊕ Bool) (fun s : Int => m_L_equalRows_b1 N p_a p_b s) x.1 x.2 = some o13) (fun x => x.1) (N, (0 : Int)) [] ⟨rfl, rfl, trivial, ⟨.t _, .t _, .t _, trivial⟩⟩ h_14 ?_
    rintro ⟨f15_, i2⟩ h_17
    obtain ⟨f15, y16, rfl, hh1, kk1⟩ := loopM_some h_17
    replace hh1 : m_L_equalRows_b1 N p_a p_b i2 = some y16 := hh1
    unfold m_L_equalRows_b1 at hh1; (iterate 2 refine PC.seq ?_); refine PC.region ?_; (iterate 2 refine PL.op rfl (Rd.moveT rfl) ?_); refine PL.op rfl (Rd.lenT rfl) ?_; refine PL.op rfl (Rd.lss rfl rfl) ?_; refine PL.nil ?_; refine thA_n ?_; rcases cond_some hh1 with ⟨h_18, hh1⟩ | ⟨h_18, hh1⟩; rotate_left
    · refine PC.cond_false rfl h_18 ?_; refine PC.exit ?_; (iterate 2 refine thA_e ?_); refine inA_eq rfl ?_; refine thA_n ?_; obtain rfl := some_in hh1; obtain rfl : (.inl () : Unit ⊕ Bool) = o13 := kk1; exact ⟨(), hh0, [], ⟨rfl, rfl, trivial, trivial⟩⟩
    refine PC.cond_true rfl h_18 ?_; refine PC.skip ?_; refine thA_n ?_; refine PC.seq ?_; refine PC.block ?_; refine PC.seq ?_; obtain ⟨x19, h_20, hh1⟩ := bind_some hh1; obtain ⟨x21, h_22, hh1⟩ := bind_some hh1; obtain ⟨r23, h_24, hh1⟩ := bind_some hh1; refine PC.any (id := 6) 10 (.seg [0, 1, 2, 3, 4, 5, 6, 7, 8, 9] .done) [] rfl (by kernel_rfl) rfl ?_; refine PT.seg ?_; (iterate 2 refine PR.op rfl (Rd.moveT rfl) ?_); refine PR.op rfl (Rd.ixM rfl rfl h_20) ?_; refine PR.op rfl (Rd.elM1 rfl h_20 rfl rfl) ?_; (iterate 2 refine PR.op rfl (Rd.moveT rfl) ?_); refine PR.op rfl (Rd.ixM rfl rfl h_22) ?_; refine PR.op rfl (Rd.elM1 rfl h_22 rfl rfl) ?_; refine PR.callM false [] (w_L_equalRow N x19 x21 r23 h_24) rfl Tryd.call31 rfl ⟨.t _, .t _, trivial⟩ rfl trivial (fun h => by cases h) rfl ?_; refine PR.op rfl (Rd.unnot rfl) ?_; refine PR.nil ?_; refine PT.done ?_; refine PL.nil ?_; refine thA_n ?_; rcases cond_some hh1 with ⟨h_25, hh1⟩ | ⟨h_25, hh1⟩
    · refine PC.cond_false rfl (not_t h_25) ?_; refine PC.skip ?_; refine inA_n ?_; refine thA_n ?_; obtain ⟨n26, h_27, hh1⟩ := bind_some hh1; refine PC.region ?_; refine PL.op rfl (Rd.moveT rfl) ?_; refine PL.op rfl (Rd.addM rfl rfl h_27) ?_; refine PL.op rfl (Rd.asnT rfl) ?_; refine PL.nil ?_; obtain rfl := some_in hh1; refine thA_n ?_; exact ⟨(f15, n26), Nat.lt_succ_self _, kk1, [], ⟨rfl, rfl, trivial, ⟨.t _, .t _, .t _, trivial⟩⟩⟩
    refine PC.cond_true rfl (not_f h_25) ?_; refine PC.seq ?_; refine PC.region ?_; refine PL.op rfl (Rd.asnT rfl) ?_; refine PL.nil ?_; refine thA_n ?_; refine PC.ret ?_; refine inA_r ?_; (iterate 2 refine thA_r ?_); refine inA_r ?_; refine thA_r ?_; obtain rfl := some_in hh1; obtain rfl : (.inr false : Unit ⊕ Bool) = o13 := kk1; refine thA_r ?_; obtain rfl := some_in hh0; exact FinA.mk (r := bA false) (bl := []) [] (.inl rfl) rfl (rl := [.tmp 4]) (.tmp .nil) rfl rfl rfl (.t _) trivial ⟨rfl, rfl⟩
  clear hh0
  rintro ⟨⟩ hh0
  replace hh0 : m_L_equalRows_k1 N  = some r := hh0
  unfold m_L_equalRows_k1 at hh0; refine thA_n ?_; refine PC.seq ?_; refine PC.region ?_; refine PL.op rfl (Rd.asnT rfl) ?_; refine PL.nil ?_; refine thA_n ?_; refine PC.ret ?_; obtain rfl := some_in hh0; exact FinA.mk (r := bA true) (bl := []) [] (.inl rfl) rfl (rl := [.tmp 4]) (.tmp .nil) rfl rfl rfl (.t _) trivial ⟨rfl, rfl⟩
def m_L_equalFormat_k1 (N : Nat) : Option (Bool) :=
  some true
def m_L_equalFormat_b1 (N : Nat) (p_a : (List I_Column)) (p_b : (List I_Column)) (i2 : Int) : Option (Int ⊕ (Unit ⊕ Bool)) :=
  cond (decide (i2 < (p_a.length : Int)))
    ((ixI p_a i2).bind fun x17 =>
    (ixI p_b i2).bind fun x19 =>
    cond (decide (x17 = x19))
      ((chk (i2 + (1 : Int))).bind fun n22 =>
      some (.inl n22))
      (some (.inr (.inr false))))
    (some (.inr (.inl ())))
def m_L_equalFormat (N : Nat) (p_a : (List I_Column)) (p_b : (List I_Column)) : Option (Bool) :=
  cond (decide ((p_a.length : Int) = (p_b.length : Int)))
    ((loopM (β := Unit ⊕ Bool) (fun s : Int => m_L_equalFormat_b1 N p_a p_b s) N (0 : Int)).bind fun o => match o with
    | .inl e =>
      m_L_equalFormat_k1 N 
    | .inr v =>
      some v)
    (some false)
theorem w_L_equalFormat (N : Nat) (p_a : (List I_Column)) (p_b : (List I_Column)) (r : Bool) (hh0 : m_L_equalFormat N p_a p_b = some r) : FnX Tryd.prog 76 [] [sL p_a, sL p_b] (RE (bA r) []) := by
  unfold m_L_equalFormat at hh0; refine FnX.mk Tryd.func76 rfl rfl ?_; intro s hs; refine PC.seq ?_; refine PC.region ?_; refine PL.op rfl (Rd.asnT rfl) ?_; refine PL.nil ?_; refine thA_n ?_; (iterate 2 refine PC.seq ?_); refine PC.region ?_; refine PL.op rfl (Rd.moveT rfl) ?_; refine PL.op rfl (Rd.lenT rfl) ?_; refine PL.op rfl (Rd.moveT rfl) ?_; refine PL.op rfl (Rd.lenT rfl) ?_; refine PL.op rfl (Rd.neq rfl rfl) ?_; refine PL.nil ?_; refine thA_n ?_; rcases cond_some hh0 with ⟨h_1, hh0⟩ | ⟨h_1, hh0⟩; rotate_left
  · refine PC.cond_true rfl (not_f h_1) ?_; refine PC.seq ?_; refine PC.region ?_; refine PL.op rfl (Rd.asnT rfl) ?_; refine PL.nil ?_; refine thA_n ?_; refine PC.ret ?_; refine thA_r ?_; obtain rfl := some_in hh0; exact FinA.mk (r := bA false) (bl := []) [] (.inl rfl) rfl (rl := [.tmp 4]) (.tmp .nil) rfl rfl rfl (.t _) trivial ⟨rfl, rfl⟩
  refine PC.cond_false rfl (not_t h_1) ?_; refine PC.skip ?_; refine thA_n ?_; (iterate 2 refine PC.seq ?_); refine PC.region ?_; refine PL.op rfl (Rd.asnT rfl) ?_; refine PL.nil ?_; refine thA_n ?_; obtain ⟨o11, h_12, hh0⟩ := bind_some hh0; refine PC.cutE hs (fun x : Unit => []) (fun x => []) (fun x => m_L_equalFormat_k1 N  = some r) ?_ ?_
  · refine PC.block ?_; refine PC.loop hs (fun x : Nat × (Int) => [(0, sL p_a), (1, sL p_b), (5, iA x.2)]) (fun x => []) (fun x => loopM (β := Unit ⊕ Bool) (fun s : Int => m_L_equalFormat_b1 N p_a p_b s) x.1 x.2 = some o11) (fun x => x.1) (N, (0 : Int)) [] ⟨rfl, rfl, trivial, ⟨.t _, .t _, .t _, trivial⟩⟩ h_12 ?_
    rintro ⟨f13_, i2⟩ h_15
    obtain ⟨f13, y14, rfl, hh1, kk1⟩ := loopM_some h_15
    replace hh1 : m_L_equalFormat_b1 N p_a p_b i2 = some y14 := hh1
    unfold m_L_equalFormat_b1 at hh1; (iterate 2 refine PC.seq ?_); refine PC.region ?_; (iterate 2 refine PL.op rfl (Rd.moveT rfl) ?_); refine PL.op rfl (Rd.lenT rfl) ?_; refine PL.op rfl (Rd.lss rfl rfl) ?_; refine PL.nil ?_; refine thA_n ?_; rcases cond_some hh1 with ⟨h_16, hh1⟩ | ⟨h_16, hh1⟩; rotate_left
    · refine PC.cond_false rfl h_16 ?_; refine PC.exit ?_; (iterate 2 refine thA_e ?_); refine inA_eq rfl ?_; refine thA_n ?_; obtain rfl := some_in hh1; obtain rfl : (.inl () : Unit ⊕ Bool) = o11 := kk1; exact ⟨(), hh0, [], ⟨rfl, rfl, trivial, trivial⟩⟩
    refine PC.cond_true rfl h_16 ?_; refine PC.skip ?_; refine thA_n ?_; refine PC.seq ?_; refine PC.block ?_; refine PC.seq ?_; obtain ⟨x17, h_18, hh1⟩ := bind_some hh1; obtain ⟨x19, h_20, hh1⟩ := bind_some hh1; refine PC.any (id := 6) 9 (.seg [0, 1, 2, 3, 4, 5, 6, 7, 8] .done) [] rfl (by kernel_rfl) rfl ?_; refine PT.seg ?_; (iterate 2 refine PR.op rfl (Rd.moveT rfl) ?_); refine PR.op rfl (Rd.ixM rfl rfl h_18) ?_; refine PR.op rfl (Rd.elMR rfl h_18 rfl rfl) ?_; (iterate 2 refine PR.op rfl (Rd.moveT rfl) ?_); refine PR.op rfl (Rd.ixM rfl rfl h_20) ?_; refine PR.op rfl (Rd.elMR rfl h_20 rfl rfl) ?_; refine PR.op rfl (Rd.neqE (a := x17) (b := x19) rfl rfl rfl rfl) ?_; refine PR.nil ?_; refine PT.done ?_; refine PL.nil ?_; refine thA_n ?_; rcases cond_some hh1 with ⟨h_21, hh1⟩ | ⟨h_21, hh1⟩
    · refine PC.cond_false rfl (not_t h_21) ?_; refine PC.skip ?_; refine inA_n ?_; refine thA_n ?_; obtain ⟨n22, h_23, hh1⟩ := bind_some hh1; refine PC.region ?_; refine PL.op rfl (Rd.moveT rfl) ?_; refine PL.op rfl (Rd.addM rfl rfl h_23) ?_; refine PL.op rfl (Rd.asnT rfl) ?_; refine PL.nil ?_; obtain rfl := some_in hh1; refine thA_n ?_; exact ⟨(f13, n22), Nat.lt_succ_self _, kk1, [], ⟨rfl, rfl, trivial, ⟨.t _, .t _, .t _, trivial⟩⟩⟩
    refine PC.cond_true rfl (not_f h_21) ?_; refine PC.seq ?_; refine PC.region ?_; refine PL.op rfl (Rd.asnT rfl) ?_; refine PL.nil ?_; refine thA_n ?_; refine PC.ret ?_; refine inA_r ?_; (iterate 2 refine thA_r ?_); refine inA_r ?_; refine thA_r ?_; obtain rfl := some_in hh1; obtain rfl : (.inr false : Unit ⊕ Bool) = o11 := kk1; refine thA_r ?_; obtain rfl := some_in hh0; exact FinA.mk (r := bA false) (bl := []) [] (.inl rfl) rfl (rl := [.tmp 4]) (.tmp .nil) rfl rfl rfl (.t _) trivial ⟨rfl, rfl⟩
  clear hh0
  rintro ⟨⟩ hh0
  replace hh0 : m_L_equalFormat_k1 N  = some r := hh0
  unfold m_L_equalFormat_k1 at hh0; refine thA_n ?_; refine PC.seq ?_; refine PC.region ?_; refine PL.op rfl (Rd.asnT rfl) ?_; refine PL.nil ?_; refine thA_n ?_; refine PC.ret ?_; obtain rfl := some_in hh0; exact FinA.mk (r := bA true) (bl := []) [] (.inl rfl) rfl (rl := [.tmp 4]) (.tmp .nil) rfl rfl rfl (.t _) trivial ⟨rfl, rfl⟩
def m_L_equalChanges_k1 (N : Nat) : Option (Bool) :=
  some true
def m_L_equalChanges_b1 (N : Nat) (p_a : (List I_Change)) (p_b : (List I_Change)) (i2 : Int) : Option (Int ⊕ (Unit ⊕ Bool)) :=
  cond (decide (i2 < (p_a.length : Int)))
    ((ixI p_a i2).bind fun x17 =>
    (ixI p_b i2).bind fun x19 =>
    cond (decide (x17 = x19))
      ((chk (i2 + (1 : Int))).bind fun n22 =>
      some (.inl n22))
      (some (.inr (.inr false))))
    (some (.inr (.inl ())))
def m_L_equalChanges (N : Nat) (p_a : (List I_Change)) (p_b : (List I_Change)) : Option (Bool) :=
  cond (decide ((p_a.length : Int) = (p_b.length : Int)))
    ((loopM (β := Unit ⊕ Bool) (fun s : Int => m_L_equalChanges_b1 N p_a p_b s) N (0 : Int)).bind fun o => match o with
    | .inl e =>
      m_L_equalChanges_k1 N 
    | .inr v =>
      some v)
    (some false)
theorem w_L_equalChanges (N : Nat) (p_a : (List I_Change)) (p_b : (List I_Change)) (r : Bool) (hh0 : m_L_equalChanges N p_a p_b = some r) : FnX Tryd.prog 77 [] [sL p_a, sL p_b] (RE (bA r) []) := by
  unfold m_L_equalChanges at hh0; refine FnX.mk Tryd.func77 rfl rfl ?_; intro s hs; refine PC.seq ?_; refine PC.region ?_; refine PL.op rfl (Rd.asnT rfl) ?_; refine PL.nil ?_; refine thA_n ?_; (iterate 2 refine PC.seq ?_); refine PC.region ?_; refine PL.op rfl (Rd.moveT rfl) ?_; refine PL.op rfl (Rd.lenT rfl) ?_; refine PL.op rfl (Rd.moveT rfl) ?_; refine PL.op rfl (Rd.lenT rfl) ?_; refine PL.op rfl (Rd.neq rfl rfl) ?_; refine PL.nil ?_; refine thA_n ?_; rcases cond_some hh0 with ⟨h_1, hh0⟩ | ⟨h_1, hh0⟩; rotate_left
  · refine PC.cond_true rfl (not_f h_1) ?_; refine PC.seq ?_; refine PC.region ?_; refine PL.op rfl (Rd.asnT rfl) ?_; refine PL.nil ?_; refine thA_n ?_; refine PC.ret ?_; refine thA_r ?_; obtain rfl := some_in hh0; exact FinA.mk (r := bA false) (bl := []) [] (.inl rfl) rfl (rl := [.tmp 4]) (.tmp .nil) rfl rfl rfl (.t _) trivial ⟨rfl, rfl⟩
  refine PC.cond_false rfl (not_t h_1) ?_; refine PC.skip ?_; refine thA_n ?_; (iterate 2 refine PC.seq ?_); refine PC.region ?_; refine PL.op rfl (Rd.asnT rfl) ?_; refine PL.nil ?_; refine thA_n ?_; obtain ⟨o11, h_12, hh0⟩ := bind_some hh0; refine PC.cutE hs (fun x : Unit => []) (fun x => []) (fun x => m_L_equalChanges_k1 N  = some r) ?_ ?_
  · refine PC.block ?_; refine PC.loop hs (fun x : Nat × (Int) => [(0, sL p_a), (1, sL p_b), (5, iA x.2)]) (fun x => []) (fun x => loopM (β := Unit ⊕ Bool) (fun s : Int => m_L_equalChanges_b1 N p_a p_b s) x.1 x.2 = some o11) (fun x => x.1) (N, (0 : Int)) [] ⟨rfl, rfl, trivial, ⟨.t _, .t _, .t _, trivial⟩⟩ h_12 ?_
    rintro ⟨f13_, i2⟩ h_15
    obtain ⟨f13, y14, rfl, hh1, kk1⟩ := loopM_some h_15
    replace hh1 : m_L_equalChanges_b1 N p_a p_b i2 = some y14 := hh1
    unfold m_L_equalChanges_b1 at hh1; (iterate 2 refine PC.seq ?_); refine PC.region ?_; (iterate 2 refine PL.op rfl (Rd.moveT rfl) ?_); refine PL.op rfl (Rd.lenT rfl) ?_; refine PL.op rfl (Rd.lss rfl rfl) ?_; refine PL.nil ?_; refine thA_n ?_; rcases cond_some hh1 with ⟨h_16, hh1⟩ | ⟨h_16, hh1⟩; rotate_left
    · refine PC.cond_false rfl h_16 ?_; refine PC.exit ?_; (iterate 2 refine thA_e ?_); refine inA_eq rfl ?_; refine thA_n ?_; obtain rfl := some_in hh1; obtain rfl : (.inl () : Unit ⊕ Bool) = o11 := kk1; exact ⟨(), hh0, [], ⟨rfl, rfl, trivial, trivial⟩⟩
    refine PC.cond_true rfl h_16 ?_; refine PC.skip ?_; refine thA_n ?_; refine PC.seq ?_; refine PC.block ?_; refine PC.seq ?_; obtain ⟨x17, h_18, hh1⟩ := bind_some hh1; obtain ⟨x19, h_20, hh1⟩ := bind_some hh1; refine PC.any (id := 6) 9 (.seg [0, 1, 2, 3, 4, 5, 6, 7, 8] .done) [] rfl (by kernel_rfl) rfl ?_; refine PT.seg ?_; (iterate 2 refine PR.op rfl (Rd.moveT rfl) ?_); refine PR.op rfl (Rd.ixM rfl rfl h_18) ?_; refine PR.op rfl (Rd.elMR rfl h_18 rfl rfl) ?_; (iterate 2 refine PR.op rfl (Rd.moveT rfl) ?_); refine PR.op rfl (Rd.ixM rfl rfl h_20) ?_; refine PR.op rfl (Rd.elMR rfl h_20 rfl rfl) ?_; refine PR.op rfl (Rd.neqE (a := x17) (b := x19) rfl rfl rfl rfl) ?_; refine PR.nil ?_; refine PT.done ?_; refine PL.nil ?_; refine thA_n ?_; rcases cond_some hh1 with ⟨h_21, hh1⟩ | ⟨h_21, hh1⟩
    · refine PC.cond_false rfl (not_t h_21) ?_; refine PC.skip ?_; refine inA_n ?_; refine thA_n ?_; obtain ⟨n22, h_23, hh1⟩ := bind_some hh1; refine PC.region ?_; refine PL.op rfl (Rd.moveT rfl) ?_; refine PL.op rfl (Rd.addM rfl rfl h_23) ?_; refine PL.op rfl (Rd.asnT rfl) ?_; refine PL.nil ?_; obtain rfl := some_in hh1; refine thA_n ?_; exact ⟨(f13, n22), Nat.lt_succ_self _, kk1, [], ⟨rfl, rfl, trivial, ⟨.t _, .t _, .t _, trivial⟩⟩⟩
    refine PC.cond_true rfl (not_f h_21) ?_; refine PC.seq ?_; refine PC.region ?_; refine PL.op rfl (Rd.asnT rfl) ?_; refine PL.nil ?_; refine thA_n ?_; refine PC.ret ?_; refine inA_r ?_; (iterate 2 refine thA_r ?_); refine inA_r ?_; refine thA_r ?_; obtain rfl := some_in hh1; obtain rfl : (.inr false : Unit ⊕ Bool) = o11 := kk1; refine thA_r ?_; obtain rfl := some_in hh0; exact FinA.mk (r := bA false) (bl := []) [] (.inl rfl) rfl (rl := [.tmp 4]) (.tmp .nil) rfl rfl rfl (.t _) trivial ⟨rfl, rfl⟩
  clear hh0
  rintro ⟨⟩ hh0
  replace hh0 : m_L_equalChanges_k1 N  = some r := hh0
  unfold m_L_equalChanges_k1 at hh0; refine thA_n ?_; refine PC.seq ?_; refine PC.region ?_; refine PL.op rfl (Rd.asnT rfl) ?_; refine PL.nil ?_; refine thA_n ?_; refine PC.ret ?_; obtain rfl := some_in hh0; exact FinA.mk (r := bA true) (bl := []) [] (.inl rfl) rfl (rl := [.tmp 4]) (.tmp .nil) rfl rfl rfl (.t _) trivial ⟨rfl, rfl⟩
def m_L_equalTagged_k1 (N : Nat) : Option (Bool) :=
  some true
def m_L_equalTagged_b1 (N : Nat) (p_a : (List I_Tagged)) (p_b : (List I_Tagged)) (i2 : Int) : Option (Int ⊕ (Unit ⊕ Bool)) :=
  cond (decide (i2 < (p_a.length : Int)))
    ((ixI p_a i2).bind fun x24 =>
    (ixI p_b i2).bind fun x26 =>
    cond (decide (x24.tag = x26.tag))
      ((ixI p_a i2).bind fun x29 =>
      (ixI p_b i2).bind fun x31 =>
      (m_L_equalRow N x29.row x31.row).bind fun r33 =>
      cond r33
        ((chk (i2 + (1 : Int))).bind fun n36 =>
        some (.inl n36))
        (some (.inr (.inr false))))
      (some (.inr (.inr false))))
    (some (.inr (.inl ())))
def m_L_equalTagged (N : Nat) (p_a : (List I_Tagged)) (p_b : (List I_Tagged)) : Option (Bool) :=
  cond (decide ((p_a.length : Int) = (p_b.length : Int)))
    ((loopM (β := Unit ⊕ Bool) (fun s : Int => m_L_equalTagged_b1 N p_a p_b s) N (0 : Int)).bind fun o => match o with
    | .inl e =>
      m_L_equalTagged_k1 N 
    | .inr v =>
      some v)
    (some false)
theorem w_L_equalTagged (N : Nat) (p_a : (List I_Tagged)) (p_b : (List I_Tagged)) (r : Bool) (hh0 : m_L_equalTagged N p_a p_b = some r) : FnX Tryd.prog 43 [] [sL p_a, sL p_b] (RE (bA r) []) := by
  unfold m_L_equalTagged at hh0; refine FnX.mk Tryd.func43 rfl rfl ?_; intro s hs; refine PC.seq ?_; refine PC.region ?_; refine PL.op rfl (Rd.asnT rfl) ?_; refine PL.nil ?_; refine thA_n ?_; (iterate 2 refine PC.seq ?_); refine PC.region ?_; refine PL.op rfl (Rd.moveT rfl) ?_; refine PL.op rfl (Rd.lenT rfl) ?_; refine PL.op rfl (Rd.moveT rfl) ?_; refine PL.op rfl (Rd.lenT rfl) ?_; refine PL.op rfl (Rd.neq rfl rfl) ?_; refine PL.nil ?_; refine thA_n ?_; rcases cond_some hh0 with ⟨h_1, hh0⟩ | ⟨h_1, hh0⟩; rotate_left
  · refine PC.cond_true rfl (not_f h_1) ?_; refine PC.seq ?_; refine PC.region ?_; refine PL.op rfl (Rd.asnT rfl) ?_; refine PL.nil ?_; refine thA_n ?_; refine PC.ret ?_; refine thA_r ?_; obtain rfl := some_in hh0; exact FinA.mk (r := bA false) (bl := []) [] (.inl rfl) rfl (rl := [.tmp 4]) (.tmp .nil) rfl rfl rfl (.t _) trivial ⟨rfl, rfl⟩
  refine PC.cond_false rfl (not_t h_1) ?_; refine PC.skip ?_; refine thA_n ?_; (iterate 2 refine PC.seq ?_); refine PC.region ?_; refine PL.op rfl (Rd.asnT rfl) ?_; refine PL.nil ?_; refine thA_n ?_; obtain ⟨o18, h_19, hh0⟩ := bind_some hh0; refine PC.cutE hs (fun x : Unit => []) (fun x => []) (fun x => m_L_equalTagged_k1 N  = some r) ?_ ?_
  · refine PC.block ?_; refine PC.loop hs (fun x : Nat × (Int) => [(0, sL p_a), (1, sL p_b), (5, iA x.2)]) (fun x => []) (fun x => loopM (β := Unit ⊕ Bool) (fun s : Int => m_L_equalTagged_b1 N p_a p_b s) x.1 x.2 = some o18) (fun x => x.1) (N, (0 : Int)) [] ⟨rfl, rfl, trivial, ⟨.t _, .t _, .t _, trivial⟩⟩ h_19 ?_
    rintro ⟨f20_, i2⟩ h_22
    obtain ⟨f20, y21, rfl, hh1, kk1⟩ := loopM_some h_22
    replace hh1 : m_L_equalTagged_b1 N p_a p_b i2 = some y21 := hh1
    unfold m_L_equalTagged_b1 at hh1; (iterate 2 refine PC.seq ?_); refine PC.region ?_; (iterate 2 refine PL.op rfl (Rd.moveT rfl) ?_); refine PL.op rfl (Rd.lenT rfl) ?_; refine PL.op rfl (Rd.lss rfl rfl) ?_; refine PL.nil ?_; refine thA_n ?_; rcases cond_some hh1 with ⟨h_23, hh1⟩ | ⟨h_23, hh1⟩; rotate_left
    · refine PC.cond_false rfl h_23 ?_; refine PC.exit ?_; (iterate 2 refine thA_e ?_); refine inA_eq rfl ?_; refine thA_n ?_; obtain rfl := some_in hh1; obtain rfl : (.inl () : Unit ⊕ Bool) = o18 := kk1; exact ⟨(), hh0, [], ⟨rfl, rfl, trivial, trivial⟩⟩
    refine PC.cond_true rfl h_23 ?_; refine PC.skip ?_; refine thA_n ?_; refine PC.seq ?_; refine PC.block ?_; refine PC.seq ?_; obtain ⟨x24, h_25, hh1⟩ := bind_some hh1; obtain ⟨x26, h_27, hh1⟩ := bind_some hh1; rcases cond_some hh1 with ⟨h_28, hh1⟩ | ⟨h_28, hh1⟩; rotate_left
    · refine PC.any (id := 6) 25 (.seg [0, 1, 2, 3, 4, 5, 6, 7, 8, 9, 10, 11, 12, 13, 14, 15, 16, 17, 18, 19, 20, 21, 22, 23, 24] .done) [] rfl (by kernel_rfl) rfl ?_; refine PT.seg ?_; (iterate 2 refine PR.op rfl (Rd.moveT rfl) ?_); refine PR.op rfl (Rd.ixM rfl rfl h_25) ?_; refine PR.op rfl (Rd.fieldT rfl) ?_; refine PR.op rfl (Rd.elMF (f := 0) rfl h_25 rfl rfl) ?_; (iterate 2 refine PR.op rfl (Rd.moveT rfl) ?_); refine PR.op rfl (Rd.ixM rfl rfl h_27) ?_; refine PR.op rfl (Rd.fieldT rfl) ?_; refine PR.op rfl (Rd.elMF (f := 0) rfl h_27 rfl rfl) ?_; refine PR.op rfl (Rd.neq rfl rfl) ?_; refine PR.op rfl (Rd.moveT rfl) ?_; (iterate 12 refine PR.guard_off rfl rfl (not_f h_28) ?_); refine PR.op rfl (Rd.pick_t rfl (not_f h_28)) ?_; refine PR.nil ?_; refine PT.done ?_; refine PL.nil ?_; refine thA_n ?_; refine PC.cond_true rfl rfl ?_; refine PC.seq ?_; refine PC.region ?_; refine PL.op rfl (Rd.asnT rfl) ?_; refine PL.nil ?_; refine thA_n ?_; refine PC.ret ?_; refine inA_r ?_; (iterate 2 refine thA_r ?_); refine inA_r ?_; refine thA_r ?_; obtain rfl := some_in hh1; obtain rfl : (.inr false : Unit ⊕ Bool) = o18 := kk1; refine thA_r ?_; obtain rfl := some_in hh0; exact FinA.mk (r := bA false) (bl := []) [] (.inl rfl) rfl (rl := [.tmp 4]) (.tmp .nil) rfl rfl rfl (.t _) trivial ⟨rfl, rfl⟩
    obtain ⟨x29, h_30, hh1⟩ := bind_some hh1; obtain ⟨x31, h_32, hh1⟩ := bind_some hh1; obtain ⟨r33, h_34, hh1⟩ := bind_some hh1; refine PC.any (id := 6) 25 (.seg [0, 1, 2, 3, 4, 5, 6, 7, 8, 9, 10, 11, 12, 13, 14, 15, 16, 17, 18, 19, 20, 21, 22, 23, 24] .done) [] rfl (by kernel_rfl) rfl ?_; refine PT.seg ?_; (iterate 2 refine PR.op rfl (Rd.moveT rfl) ?_); refine PR.op rfl (Rd.ixM rfl rfl h_25) ?_; refine PR.op rfl (Rd.fieldT rfl) ?_; refine PR.op rfl (Rd.elMF (f := 0) rfl h_25 rfl rfl) ?_; (iterate 2 refine PR.op rfl (Rd.moveT rfl) ?_); refine PR.op rfl (Rd.ixM rfl rfl h_27) ?_; refine PR.op rfl (Rd.fieldT rfl) ?_; refine PR.op rfl (Rd.elMF (f := 0) rfl h_27 rfl rfl) ?_; refine PR.op rfl (Rd.neq rfl rfl) ?_; refine PR.op rfl (Rd.moveT rfl) ?_; refine PR.guard_on rfl rfl (not_t h_28) ?_; refine PR.op rfl (Rd.moveT rfl) ?_; refine PR.guard_on rfl rfl (not_t h_28) ?_; refine PR.op rfl (Rd.moveT rfl) ?_; refine PR.guard_on rfl rfl (not_t h_28) ?_; refine PR.op rfl (Rd.ixM rfl rfl h_30) ?_; refine PR.guard_on rfl rfl (not_t h_28) ?_; refine PR.op rfl (Rd.fieldT rfl) ?_; refine PR.guard_on rfl rfl (not_t h_28) ?_; refine PR.op rfl (Rd.elMF (f := 1) rfl h_30 rfl rfl) ?_; refine PR.guard_on rfl rfl (not_t h_28) ?_; refine PR.op rfl (Rd.moveT rfl) ?_; refine PR.guard_on rfl rfl (not_t h_28) ?_; refine PR.op rfl (Rd.moveT rfl) ?_; refine PR.guard_on rfl rfl (not_t h_28) ?_; refine PR.op rfl (Rd.ixM rfl rfl h_32) ?_; refine PR.guard_on rfl rfl (not_t h_28) ?_; refine PR.op rfl (Rd.fieldT rfl) ?_; refine PR.guard_on rfl rfl (not_t h_28) ?_; refine PR.op rfl (Rd.elMF (f := 1) rfl h_32 rfl rfl) ?_; refine PR.guard_on rfl rfl (not_t h_28) ?_; refine PR.callM false [] (w_L_equalRow N x29.row x31.row r33 h_34) rfl Tryd.call31 rfl ⟨.t _, .t _, trivial⟩ rfl trivial (fun h => by cases h) rfl ?_; refine PR.guard_on rfl rfl (not_t h_28) ?_; refine PR.op rfl (Rd.unnot rfl) ?_; refine PR.op rfl (Rd.pick_f rfl (not_t h_28)) ?_; refine PR.nil ?_; refine PT.done ?_; refine PL.nil ?_; refine thA_n ?_; rcases cond_some hh1 with ⟨h_35, hh1⟩ | ⟨h_35, hh1⟩
    · refine PC.cond_false rfl (not_t h_35) ?_; refine PC.skip ?_; refine inA_n ?_; refine thA_n ?_; obtain ⟨n36, h_37, hh1⟩ := bind_some hh1; refine PC.region ?_; refine PL.op rfl (Rd.moveT rfl) ?_; refine PL.op rfl (Rd.addM rfl rfl h_37) ?_; refine PL.op rfl (Rd.asnT rfl) ?_; refine PL.nil ?_; obtain rfl := some_in hh1; refine thA_n ?_; exact ⟨(f20, n36), Nat.lt_succ_self _, kk1, [], ⟨rfl, rfl, trivial, ⟨.t _, .t _, .t _, trivial⟩⟩⟩
    refine PC.cond_true rfl (not_f h_35) ?_; refine PC.seq ?_; refine PC.region ?_; refine PL.op rfl (Rd.asnT rfl) ?_; refine PL.nil ?_; refine thA_n ?_; refine PC.ret ?_; refine inA_r ?_; (iterate 2 refine thA_r ?_); refine inA_r ?_; refine thA_r ?_; obtain rfl := some_in hh1; obtain rfl : (.inr false : Unit ⊕ Bool) = o18 := kk1; refine thA_r ?_; obtain rfl := some_in hh0; exact FinA.mk (r := bA false) (bl := []) [] (.inl rfl) rfl (rl := [.tmp 4]) (.tmp .nil) rfl rfl rfl (.t _) trivial ⟨rfl, rfl⟩
  clear hh0
  rintro ⟨⟩ hh0
  replace hh0 : m_L_equalTagged_k1 N  = some r := hh0
  unfold m_L_equalTagged_k1 at hh0; refine thA_n ?_; refine PC.seq ?_; refine PC.region ?_; refine PL.op rfl (Rd.asnT rfl) ?_; refine PL.nil ?_; refine thA_n ?_; refine PC.ret ?_; obtain rfl := some_in hh0; exact FinA.mk (r := bA true) (bl := []) [] (.inl rfl) rfl (rl := [.tmp 4]) (.tmp .nil) rfl rfl rfl (.t _) trivial ⟨rfl, rfl⟩
def m_L_equalTable (N : Nat) (p_a : I_Table) (p_b : I_Table) : Option (Bool) :=
  (m_L_equalFormat N p_a.first p_b.first).bind fun r1 =>
  cond r1
    ((m_L_equalChanges N p_a.changes p_b.changes).bind fun r4 =>
    cond r4
      ((m_L_equalTagged N p_a.rows p_b.rows).bind fun r7 =>
      some r7)
      (some false))
    (some false)
theorem w_L_equalTable (N : Nat) (p_a : I_Table) (p_b : I_Table) (r : Bool) (hh0 : m_L_equalTable N p_a p_b = some r) : FnX Tryd.prog 34 [] [.agg [sL p_a.first, sL p_a.changes, sL p_a.rows], .agg [sL p_b.first, sL p_b.changes, sL p_b.rows]] (RE (bA r) []) := by
  unfold m_L_equalTable at hh0; refine FnX.mk Tryd.func34 rfl rfl ?_; intro s hs; refine PC.seq ?_; refine PC.region ?_; refine PL.ef rfl (Ef.box rfl rfl rfl) ?_; refine PL.nm (.op 0 0) [some ⟨.mx [sL p_a.first, sL p_a.changes, sL p_a.rows], 27, 0⟩] rfl rfl ?_; refine PL.ef rfl (Ef.box rfl rfl rfl) ?_; refine PL.nm (.op 1 0) [some ⟨.mx [sL p_a.first, sL p_a.changes, sL p_a.rows], 27, 0⟩, some ⟨.mx [sL p_b.first, sL p_b.changes, sL p_b.rows], 27, 0⟩] rfl rfl ?_; refine PL.op rfl (Rd.asnT rfl) ?_; refine PL.nil ?_; refine thA_n ?_; refine PC.seq ?_; obtain ⟨r1, h_2, hh0⟩ := bind_some hh0; rcases cond_some hh0 with ⟨h_3, hh0⟩ | ⟨h_3, hh0⟩; rotate_left
  · refine PC.region ?_; refine PL.op rfl (Rd.fieldO rfl rfl) ?_; refine PL.op rfl (Rd.loadO rfl rfl rfl) ?_; refine PL.op rfl (Rd.fieldO rfl rfl) ?_; refine PL.op rfl (Rd.loadO rfl rfl rfl) ?_; refine PL.callM false [] (w_L_equalFormat N p_a.first p_b.first r1 h_2) rfl Tryd.call76 rfl ⟨.t _, .t _, trivial⟩ rfl trivial (fun h => by cases h) ?_; refine PL.op rfl (Rd.moveT rfl) ?_; (iterate 5 refine PL.guard_off rfl rfl h_3 ?_); refine PL.op rfl (Rd.pick_f rfl h_3) ?_; refine PL.op rfl (Rd.moveT rfl) ?_; (iterate 5 refine PL.guard_off rfl rfl rfl ?_); refine PL.op rfl (Rd.pick_f rfl rfl) ?_; refine PL.op rfl (Rd.asnT rfl) ?_; refine PL.nil ?_; refine thA_n ?_; refine PC.ret ?_; obtain rfl := some_in hh0; exact FinA.mk (r := bA false) (bl := []) [] (.inl rfl) rfl (rl := [.tmp 4]) (.tmp .nil) rfl rfl rfl (.t _) trivial ⟨rfl, rfl⟩
  obtain ⟨r4, h_5, hh0⟩ := bind_some hh0; rcases cond_some hh0 with ⟨h_6, hh0⟩ | ⟨h_6, hh0⟩; rotate_left
  · refine PC.region ?_; refine PL.op rfl (Rd.fieldO rfl rfl) ?_; refine PL.op rfl (Rd.loadO rfl rfl rfl) ?_; refine PL.op rfl (Rd.fieldO rfl rfl) ?_; refine PL.op rfl (Rd.loadO rfl rfl rfl) ?_; refine PL.callM false [] (w_L_equalFormat N p_a.first p_b.first r1 h_2) rfl Tryd.call76 rfl ⟨.t _, .t _, trivial⟩ rfl trivial (fun h => by cases h) ?_; refine PL.op rfl (Rd.moveT rfl) ?_; refine PL.guard_on rfl h_3 ?_; refine PL.op rfl (Rd.fieldO rfl rfl) ?_; refine PL.guard_on rfl h_3 ?_; refine PL.op rfl (Rd.loadO rfl rfl rfl) ?_; refine PL.guard_on rfl h_3 ?_; refine PL.op rfl (Rd.fieldO rfl rfl) ?_; refine PL.guard_on rfl h_3 ?_; refine PL.op rfl (Rd.loadO rfl rfl rfl) ?_; refine PL.guard_on rfl h_3 ?_; refine PL.callM false [] (w_L_equalChanges N p_a.changes p_b.changes r4 h_5) rfl Tryd.call77 rfl ⟨.t _, .t _, trivial⟩ rfl trivial (fun h => by cases h) ?_; refine PL.op rfl (Rd.pick_t rfl h_3) ?_; refine PL.op rfl (Rd.moveT rfl) ?_; (iterate 5 refine PL.guard_off rfl rfl h_6 ?_); refine PL.op rfl (Rd.pick_f rfl h_6) ?_; refine PL.op rfl (Rd.asnT rfl) ?_; refine PL.nil ?_; refine thA_n ?_; refine PC.ret ?_; obtain rfl := some_in hh0; exact FinA.mk (r := bA false) (bl := []) [] (.inl rfl) rfl (rl := [.tmp 4]) (.tmp .nil) rfl rfl rfl (.t _) trivial ⟨rfl, rfl⟩
  obtain ⟨r7, h_8, hh0⟩ := bind_some hh0; refine PC.region ?_; refine PL.op rfl (Rd.fieldO rfl rfl) ?_; refine PL.op rfl (Rd.loadO rfl rfl rfl) ?_; refine PL.op rfl (Rd.fieldO rfl rfl) ?_; refine PL.op rfl (Rd.loadO rfl rfl rfl) ?_; refine PL.callM false [] (w_L_equalFormat N p_a.first p_b.first r1 h_2) rfl Tryd.call76 rfl ⟨.t _, .t _, trivial⟩ rfl trivial (fun h => by cases h) ?_; refine PL.op rfl (Rd.moveT rfl) ?_; refine PL.guard_on rfl h_3 ?_; refine PL.op rfl (Rd.fieldO rfl rfl) ?_; refine PL.guard_on rfl h_3 ?_; refine PL.op rfl (Rd.loadO rfl rfl rfl) ?_; refine PL.guard_on rfl h_3 ?_; refine PL.op rfl (Rd.fieldO rfl rfl) ?_; refine PL.guard_on rfl h_3 ?_; refine PL.op rfl (Rd.loadO rfl rfl rfl) ?_; refine PL.guard_on rfl h_3 ?_; refine PL.callM false [] (w_L_equalChanges N p_a.changes p_b.changes r4 h_5) rfl Tryd.call77 rfl ⟨.t _, .t _, trivial⟩ rfl trivial (fun h => by cases h) ?_; refine PL.op rfl (Rd.pick_t rfl h_3) ?_; refine PL.op rfl (Rd.moveT rfl) ?_; refine PL.guard_on rfl h_6 ?_; refine PL.op rfl (Rd.fieldO rfl rfl) ?_; refine PL.guard_on rfl h_6 ?_; refine PL.op rfl (Rd.loadO rfl rfl rfl) ?_; refine PL.guard_on rfl h_6 ?_; refine PL.op rfl (Rd.fieldO rfl rfl) ?_; refine PL.guard_on rfl h_6 ?_; refine PL.op rfl (Rd.loadO rfl rfl rfl) ?_; refine PL.guard_on rfl h_6 ?_; refine PL.callM false [] (w_L_equalTagged N p_a.rows p_b.rows r7 h_8) rfl Tryd.call43 rfl ⟨.t _, .t _, trivial⟩ rfl trivial (fun h => by cases h) ?_; refine PL.op rfl (Rd.pick_t rfl h_6) ?_; refine PL.op rfl (Rd.asnT rfl) ?_; refine PL.nil ?_; refine thA_n ?_; refine PC.ret ?_; obtain rfl := some_in hh0; exact FinA.mk (r := bA r7) (bl := []) [] (.inl rfl) rfl (rl := [.tmp 4]) (.tmp .nil) rfl rfl rfl (.t _) trivial ⟨rfl, rfl⟩
end V
end Go.Proofs.YthhlkedkeefgnaaDoor
namespace Go.Proofs.YthhlkedkeefgnaaDoor
namespace V
open Enc (enc)
set_option linter.unusedVariables false
set_option linter.unusedSimpArgs false
set_option maxHeartbeats 4000000
set_option maxRecDepth 100000
open Go.RowKit
attribute [local irreducible] thA inA FinA eL
end V
end Go.Proofs.YthhlkedkeefgnaaDoor
namespace Go.Proofs.YthhlkedkeefgnaaDoor
namespace V
open Enc (enc)
set_option linter.unusedVariables false
set_option linter.unusedSimpArgs false
set_option maxHeartbeats 4000000
set_option maxRecDepth 100000
open Go.RowKit
attribute [local irreducible] thA inA FinA eL
def m_L_FnInsertRowRewrite (N : Nat) (p_code : (List UInt8)) : Option (Bool) :=
  cond (decide ((1048576 : Int) < (p_code.length : Int)))
    (some true)
    ((m_S_DrawInsertRow N p_code).bind fun r2 =>
    (m_I_InsertRow N r2.1 r2.2).bind fun r4 =>
    (m_S_InsertRow N r2.1 r2.2).bind fun r6 =>
    (m_L_equalTable N r4.1 r6.1).bind fun r8 =>
    cond r8
      (cond (r4.2 == r6.2)
        (cond r4.2
          ((remM (p_code.length : Int) (4 : Int)).bind fun n13 =>
          (m_I_RewriteRows N r2.1 n13).bind fun r15 =>
          (m_I_InsertRow N r15 r2.2).bind fun r17 =>
          cond r17.2
            ((m_I_RewriteRows N r4.1 n13).bind fun r20 =>
            (m_L_equalTable N r20 r17.1).bind fun r22 =>
            some r22)
            (some false))
          ((m_L_equalTable N r4.1 r6.1).bind fun r24 =>
          cond r24
            (some (r4.2 == r6.2))
            (some false)))
        ((m_L_equalTable N r4.1 r6.1).bind fun r27 =>
        cond r27
          (some (r4.2 == r6.2))
          (some false)))
      ((m_L_equalTable N r4.1 r6.1).bind fun r30 =>
      cond r30
        (some (r4.2 == r6.2))
        (some false)))
theorem w_L_FnInsertRowRewrite (N : Nat) (p_code : (List UInt8)) (r : Bool) (hh0 : m_L_FnInsertRowRewrite N p_code = some r) : FnX Tryd.prog 9 [] [sL p_code] (RE (bA r) []) := by
  unfold m_L_FnInsertRowRewrite at hh0; refine FnX.mk Tryd.func9 rfl rfl ?_; intro s hs; refine PC.seq ?_; refine PC.region ?_; refine PL.op rfl (Rd.asnT rfl) ?_; refine PL.nil ?_; refine thA_n ?_; (iterate 2 refine PC.seq ?_); refine PC.region ?_; refine PL.op rfl (Rd.moveT rfl) ?_; refine PL.op rfl (Rd.lenT rfl) ?_; refine PL.op rfl (Rd.gtr rfl rfl) ?_; refine PL.nil ?_; refine thA_n ?_; rcases cond_some hh0 with ⟨h_1, hh0⟩ | ⟨h_1, hh0⟩
  · refine PC.cond_true rfl h_1 ?_; refine PC.seq ?_; refine PC.region ?_; refine PL.op rfl (Rd.asnT rfl) ?_; refine PL.nil ?_; refine thA_n ?_; refine PC.ret ?_; refine thA_r ?_; obtain rfl := some_in hh0; exact FinA.mk (r := bA true) (bl := []) [] (.inl rfl) rfl (rl := [.tmp 2]) (.tmp .nil) rfl rfl rfl (.t _) trivial ⟨rfl, rfl⟩
  refine PC.cond_false rfl h_1 ?_; refine PC.skip ?_; refine thA_n ?_; refine PC.seq ?_; obtain ⟨r2, h_3, hh0⟩ := bind_some hh0; refine PC.region ?_; refine PL.op rfl (Rd.moveT rfl) ?_; refine PL.callM false [] (w_S_DrawInsertRow N p_code r2 h_3) rfl Tryd.call36 rfl ⟨.t _, trivial⟩ rfl trivial (fun h => by cases h) ?_; refine PL.nm (.tup [.agg [sL r2.1.first, sL r2.1.changes, sL r2.1.rows], .os 0 0 r2.2.length]) [some ⟨.tr (eL r2.2), 62, 3⟩] rfl rfl ?_; refine PL.frz hs 0 1 [(17, .tup [.agg [sL r2.1.first, sL r2.1.changes, sL r2.1.rows], sL r2.2])] [none] rfl rfl ⟨(.tupL ⟨(.aggL ⟨(.t _), (.t _), (.t _), trivial⟩), (.own rfl (by decide) rfl rfl), trivial⟩), trivial⟩ trivial ?_; refine PL.nm (.tup [.agg [sL r2.1.first, sL r2.1.changes, sL r2.1.rows], sL r2.2]) [none] rfl rfl ?_; refine PL.op rfl (Rd.moveU rfl) ?_; (iterate 2 refine PL.op rfl (Rd.extract rfl rfl) ?_); refine PL.ef rfl (Ef.alloc rfl rfl) ?_; refine PL.nm (.op 1 0) [none, some ⟨.mx [.t (.v (.slice none 0 0)), .t (.v (.slice none 0 0)), .t (.v (.slice none 0 0))], 27, 0⟩] rfl rfl ?_; refine PL.store rfl rfl rfl rfl rfl rfl rfl ?_; refine PL.nO [none, some ⟨.mx [sL r2.1.first, sL r2.1.changes, sL r2.1.rows], 27, 0⟩] rfl ?_; refine PL.op rfl (Rd.asnT rfl) ?_; refine PL.nil ?_; refine thA_n ?_; refine PC.seq ?_; obtain ⟨r4, h_5, hh0⟩ := bind_some hh0; refine PC.region ?_; refine PL.op rfl (Rd.loadBox rfl rfl rfl) ?_; refine PL.op rfl (Rd.moveT rfl) ?_; refine PL.callM false [] (w_I_InsertRow N r2.1 r2.2 r4 h_5) rfl Tryd.call37 rfl ⟨.aggL ⟨.t _, .t _, .t _, trivial⟩, .t _, trivial⟩ rfl trivial (fun h => by cases h) ?_; refine PL.nm (.tup [.agg [.os 2 0 r4.1.first.length, .os 3 0 r4.1.changes.length, .os 4 0 r4.1.rows.length], bA r4.2]) [none, some ⟨.mx [sL r2.1.first, sL r2.1.changes, sL r2.1.rows], 27, 0⟩, some ⟨.tr (eL r4.1.first), 64, 4⟩, some ⟨.tr (eL r4.1.changes), 66, 6⟩, some ⟨.tr (eL r4.1.rows), 52, 2⟩] rfl rfl ?_; refine PL.frz hs 2 5 [(23, .tup [.agg [sL r4.1.first, .os 3 0 r4.1.changes.length, .os 4 0 r4.1.rows.length], bA r4.2])] [none, some ⟨.mx [sL r2.1.first, sL r2.1.changes, sL r2.1.rows], 27, 0⟩, none, some ⟨.tr (eL r4.1.changes), 66, 6⟩, some ⟨.tr (eL r4.1.rows), 52, 2⟩] rfl rfl ⟨(.tupL ⟨(.aggL ⟨(.own rfl (by decide) rfl rfl), (.os rfl), (.os rfl), trivial⟩), (.t _), trivial⟩), trivial⟩ ⟨⟨rfl, .inl rfl⟩, ⟨rfl, .inl rfl⟩, ⟨rfl, .inl rfl⟩, trivial⟩ ?_; refine PL.frz hs 3 5 [(23, .tup [.agg [sL r4.1.first, sL r4.1.changes, .os 4 0 r4.1.rows.length], bA r4.2])] [none, some ⟨.mx [sL r2.1.first, sL r2.1.changes, sL r2.1.rows], 27, 0⟩, none, none, some ⟨.tr (eL r4.1.rows), 52, 2⟩] rfl rfl ⟨(.tupL ⟨(.aggL ⟨(.t _), (.own rfl (by decide) rfl rfl), (.os rfl), trivial⟩), (.t _), trivial⟩), trivial⟩ ⟨⟨rfl, .inl rfl⟩, ⟨rfl, .inl rfl⟩, trivial⟩ ?_; refine PL.frz hs 4 5 [(23, .tup [.agg [sL r4.1.first, sL r4.1.changes, sL r4.1.rows], bA r4.2])] [none, some ⟨.mx [sL r2.1.first, sL r2.1.changes, sL r2.1.rows], 27, 0⟩, none, none, none] rfl rfl ⟨(.tupL ⟨(.aggL ⟨(.t _), (.t _), (.own rfl (by decide) rfl rfl), trivial⟩), (.t _), trivial⟩), trivial⟩ ⟨⟨rfl, .inl rfl⟩, trivial⟩ ?_; refine PL.nm (.tup [.agg [sL r4.1.first, sL r4.1.changes, sL r4.1.rows], bA r4.2]) [none, some ⟨.mx [sL r2.1.first, sL r2.1.changes, sL r2.1.rows], 27, 0⟩, none, none, none] rfl rfl ?_; refine PL.op rfl (Rd.moveU rfl) ?_; (iterate 2 refine PL.op rfl (Rd.extract rfl rfl) ?_); refine PL.ef rfl (Ef.alloc rfl rfl) ?_; refine PL.nm (.op 5 0) [none, some ⟨.mx [sL r2.1.first, sL r2.1.changes, sL r2.1.rows], 27, 0⟩, none, none, none, some ⟨.mx [.t (.v (.slice none 0 0)), .t (.v (.slice none 0 0)), .t (.v (.slice none 0 0))], 27, 0⟩] rfl rfl ?_; refine PL.store rfl rfl rfl rfl rfl rfl rfl ?_; refine PL.nO [none, some ⟨.mx [sL r2.1.first, sL r2.1.changes, sL r2.1.rows], 27, 0⟩, none, none, none, some ⟨.mx [sL r4.1.first, sL r4.1.changes, sL r4.1.rows], 27, 0⟩] rfl ?_; refine PL.op rfl (Rd.asnT rfl) ?_; refine PL.nil ?_; refine thA_n ?_; refine PC.seq ?_; obtain ⟨r6, h_7, hh0⟩ := bind_some hh0; refine PC.region ?_; refine PL.op rfl (Rd.loadBox rfl rfl rfl) ?_; refine PL.op rfl (Rd.moveT rfl) ?_; refine PL.callM false [] (w_S_InsertRow N r2.1 r2.2 r6 h_7) rfl Tryd.call38 rfl ⟨.aggL ⟨.t _, .t _, .t _, trivial⟩, .t _, trivial⟩ rfl trivial (fun h => by cases h) ?_; refine PL.nm (.tup [.agg [.os 6 0 r6.1.first.length, .os 7 0 r6.1.changes.length, .os 8 0 r6.1.rows.length], bA r6.2]) [none, some ⟨.mx [sL r2.1.first, sL r2.1.changes, sL r2.1.rows], 27, 0⟩, none, none, none, some ⟨.mx [sL r4.1.first, sL r4.1.changes, sL r4.1.rows], 27, 0⟩, some ⟨.tr (eL r6.1.first), 64, 4⟩, some ⟨.tr (eL r6.1.changes), 66, 6⟩, some ⟨.tr (eL r6.1.rows), 52, 2⟩] rfl rfl ?_; refine PL.frz hs 6 9 [(29, .tup [.agg [sL r6.1.first, .os 7 0 r6.1.changes.length, .os 8 0 r6.1.rows.length], bA r6.2])] [none, some ⟨.mx [sL r2.1.first, sL r2.1.changes, sL r2.1.rows], 27, 0⟩, none, none, none, some ⟨.mx [sL r4.1.first, sL r4.1.changes, sL r4.1.rows], 27, 0⟩, none, some ⟨.tr (eL r6.1.changes), 66, 6⟩, some ⟨.tr (eL r6.1.rows), 52, 2⟩] rfl rfl ⟨(.tupL ⟨(.aggL ⟨(.own rfl (by decide) rfl rfl), (.os rfl), (.os rfl), trivial⟩), (.t _), trivial⟩), trivial⟩ ⟨⟨rfl, .inl rfl⟩, ⟨rfl, .inl rfl⟩, ⟨rfl, .inl rfl⟩, ⟨rfl, .inl rfl⟩, trivial⟩ ?_; refine PL.frz hs 7 9 [(29, .tup [.agg [sL r6.1.first, sL r6.1.changes, .os 8 0 r6.1.rows.length], bA r6.2])] [none, some ⟨.mx [sL r2.1.first, sL r2.1.changes, sL r2.1.rows], 27, 0⟩, none, none, none, some ⟨.mx [sL r4.1.first, sL r4.1.changes, sL r4.1.rows], 27, 0⟩, none, none, some ⟨.tr (eL r6.1.rows), 52, 2⟩] rfl rfl ⟨(.tupL ⟨(.aggL ⟨(.t _), (.own rfl (by decide) rfl rfl), (.os rfl), trivial⟩), (.t _), trivial⟩), trivial⟩ ⟨⟨rfl, .inl rfl⟩, ⟨rfl, .inl rfl⟩, ⟨rfl, .inl rfl⟩, trivial⟩ ?_; refine PL.frz hs 8 9 [(29, .tup [.agg [sL r6.1.first, sL r6.1.changes, sL r6.1.rows], bA r6.2])] [none, some ⟨.mx [sL r2.1.first, sL r2.1.changes, sL r2.1.rows], 27, 0⟩, none, none, none, some ⟨.mx [sL r4.1.first, sL r4.1.changes, sL r4.1.rows], 27, 0⟩, none, none, none] rfl rfl ⟨(.tupL ⟨(.aggL ⟨(.t _), (.t _), (.own rfl (by decide) rfl rfl), trivial⟩), (.t _), trivial⟩), trivial⟩ ⟨⟨rfl, .inl rfl⟩, ⟨rfl, .inl rfl⟩, trivial⟩ ?_; refine PL.nm (.tup [.agg [sL r6.1.first, sL r6.1.changes, sL r6.1.rows], bA r6.2]) [none, some ⟨.mx [sL r2.1.first, sL r2.1.changes, sL r2.1.rows], 27, 0⟩, none, none, none, some ⟨.mx [sL r4.1.first, sL r4.1.changes, sL r4.1.rows], 27, 0⟩, none, none, none] rfl rfl ?_; refine PL.op rfl (Rd.moveU rfl) ?_; (iterate 2 refine PL.op rfl (Rd.extract rfl rfl) ?_); refine PL.ef rfl (Ef.alloc rfl rfl) ?_; refine PL.nm (.op 9 0) [none, some ⟨.mx [sL r2.1.first, sL r2.1.changes, sL r2.1.rows], 27, 0⟩, none, none, none, some ⟨.mx [sL r4.1.first, sL r4.1.changes, sL r4.1.rows], 27, 0⟩, none, none, none, some ⟨.mx [.t (.v (.slice none 0 0)), .t (.v (.slice none 0 0)), .t (.v (.slice none 0 0))], 27, 0⟩] rfl rfl ?_; refine PL.store rfl rfl rfl rfl rfl rfl rfl ?_; refine PL.nO [none, some ⟨.mx [sL r2.1.first, sL r2.1.changes, sL r2.1.rows], 27, 0⟩, none, none, none, some ⟨.mx [sL r4.1.first, sL r4.1.changes, sL r4.1.rows], 27, 0⟩, none, none, none, some ⟨.mx [sL r6.1.first, sL r6.1.changes, sL r6.1.rows], 27, 0⟩] rfl ?_; refine PL.op rfl (Rd.asnT rfl) ?_; refine PL.nil ?_; refine thA_n ?_; (iterate 2 refine PC.seq ?_); obtain ⟨r8, h_9, hh0⟩ := bind_some hh0; rcases cond_some hh0 with ⟨h_10, hh0⟩ | ⟨h_10, hh0⟩; rotate_left
  · refine PC.region ?_; (iterate 2 refine PL.op rfl (Rd.loadBox rfl rfl rfl) ?_); refine PL.callM false [] (w_L_equalTable N r4.1 r6.1 r8 h_9) rfl Tryd.call34 rfl ⟨.aggL ⟨.t _, .t _, .t _, trivial⟩, .aggL ⟨.t _, .t _, .t _, trivial⟩, trivial⟩ rfl trivial (fun h => by cases h) ?_; refine PL.op rfl (Rd.unnot rfl) ?_; refine PL.op rfl (Rd.moveT rfl) ?_; (iterate 3 refine PL.guard_off rfl rfl (not_f h_10) ?_); refine PL.op rfl (Rd.pick_t rfl (not_f h_10)) ?_; refine PL.op rfl (Rd.moveT rfl) ?_; (iterate 2 refine PL.guard_off rfl rfl rfl ?_); refine PL.op rfl (Rd.pick_t rfl rfl) ?_; refine PL.nil ?_; refine thA_n ?_; refine PC.cond_true rfl rfl ?_; refine PC.seq ?_; obtain ⟨r30, h_31, hh0⟩ := bind_some hh0; rcases cond_some hh0 with ⟨h_32, hh0⟩ | ⟨h_32, hh0⟩; rotate_left
    · refine PC.region ?_; (iterate 2 refine PL.op rfl (Rd.loadBox rfl rfl rfl) ?_); refine PL.callM false [] (w_L_equalTable N r4.1 r6.1 r30 h_31) rfl Tryd.call34 rfl ⟨.aggL ⟨.t _, .t _, .t _, trivial⟩, .aggL ⟨.t _, .t _, .t _, trivial⟩, trivial⟩ rfl trivial (fun h => by cases h) ?_; refine PL.op rfl (Rd.moveT rfl) ?_; (iterate 3 refine PL.guard_off rfl rfl h_32 ?_); refine PL.op rfl (Rd.pick_f rfl h_32) ?_; refine PL.op rfl (Rd.asnT rfl) ?_; refine PL.nil ?_; refine thA_n ?_; refine PC.ret ?_; refine thA_r ?_; obtain rfl := some_in hh0; exact FinA.mk (r := bA false) (bl := []) [] (.inl rfl) rfl (rl := [.tmp 2]) (.tmp .nil) rfl rfl rfl (.t _) trivial ⟨rfl, rfl⟩
    refine PC.region ?_; (iterate 2 refine PL.op rfl (Rd.loadBox rfl rfl rfl) ?_); refine PL.callM false [] (w_L_equalTable N r4.1 r6.1 r30 h_31) rfl Tryd.call34 rfl ⟨.aggL ⟨.t _, .t _, .t _, trivial⟩, .aggL ⟨.t _, .t _, .t _, trivial⟩, trivial⟩ rfl trivial (fun h => by cases h) ?_; refine PL.op rfl (Rd.moveT rfl) ?_; refine PL.guard_on rfl h_32 ?_; refine PL.op rfl (Rd.moveT rfl) ?_; refine PL.guard_on rfl h_32 ?_; refine PL.op rfl (Rd.moveT rfl) ?_; refine PL.guard_on rfl h_32 ?_; refine PL.op rfl (Rd.eqlB rfl rfl) ?_; refine PL.op rfl (Rd.pick_t rfl h_32) ?_; refine PL.op rfl (Rd.asnT rfl) ?_; refine PL.nil ?_; refine thA_n ?_; refine PC.ret ?_; refine thA_r ?_; obtain rfl := some_in hh0; exact FinA.mk (r := bA (r4.2 == r6.2)) (bl := []) [] (.inl rfl) rfl (rl := [.tmp 2]) (.tmp .nil) rfl rfl rfl (.t _) trivial ⟨rfl, rfl⟩
  rcases cond_some hh0 with ⟨h_11, hh0⟩ | ⟨h_11, hh0⟩; rotate_left
  · refine PC.region ?_; (iterate 2 refine PL.op rfl (Rd.loadBox rfl rfl rfl) ?_); refine PL.callM false [] (w_L_equalTable N r4.1 r6.1 r8 h_9) rfl Tryd.call34 rfl ⟨.aggL ⟨.t _, .t _, .t _, trivial⟩, .aggL ⟨.t _, .t _, .t _, trivial⟩, trivial⟩ rfl trivial (fun h => by cases h) ?_; refine PL.op rfl (Rd.unnot rfl) ?_; refine PL.op rfl (Rd.moveT rfl) ?_; refine PL.guard_on rfl (not_t h_10) ?_; refine PL.op rfl (Rd.moveT rfl) ?_; refine PL.guard_on rfl (not_t h_10) ?_; refine PL.op rfl (Rd.moveT rfl) ?_; refine PL.guard_on rfl (not_t h_10) ?_; refine PL.op rfl (Rd.neqB rfl rfl) ?_; refine PL.op rfl (Rd.pick_f rfl (not_t h_10)) ?_; refine PL.op rfl (Rd.moveT rfl) ?_; (iterate 2 refine PL.guard_off rfl rfl (not_f h_11) ?_); refine PL.op rfl (Rd.pick_t rfl (not_f h_11)) ?_; refine PL.nil ?_; refine thA_n ?_; refine PC.cond_true rfl rfl ?_; refine PC.seq ?_; obtain ⟨r27, h_28, hh0⟩ := bind_some hh0; rcases cond_some hh0 with ⟨h_29, hh0⟩ | ⟨h_29, hh0⟩; rotate_left
    · refine PC.region ?_; (iterate 2 refine PL.op rfl (Rd.loadBox rfl rfl rfl) ?_); refine PL.callM false [] (w_L_equalTable N r4.1 r6.1 r27 h_28) rfl Tryd.call34 rfl ⟨.aggL ⟨.t _, .t _, .t _, trivial⟩, .aggL ⟨.t _, .t _, .t _, trivial⟩, trivial⟩ rfl trivial (fun h => by cases h) ?_; refine PL.op rfl (Rd.moveT rfl) ?_; (iterate 3 refine PL.guard_off rfl rfl h_29 ?_); refine PL.op rfl (Rd.pick_f rfl h_29) ?_; refine PL.op rfl (Rd.asnT rfl) ?_; refine PL.nil ?_; refine thA_n ?_; refine PC.ret ?_; refine thA_r ?_; obtain rfl := some_in hh0; exact FinA.mk (r := bA false) (bl := []) [] (.inl rfl) rfl (rl := [.tmp 2]) (.tmp .nil) rfl rfl rfl (.t _) trivial ⟨rfl, rfl⟩
    refine PC.region ?_; (iterate 2 refine PL.op rfl (Rd.loadBox rfl rfl rfl) ?_); refine PL.callM false [] (w_L_equalTable N r4.1 r6.1 r27 h_28) rfl Tryd.call34 rfl ⟨.aggL ⟨.t _, .t _, .t _, trivial⟩, .aggL ⟨.t _, .t _, .t _, trivial⟩, trivial⟩ rfl trivial (fun h => by cases h) ?_; refine PL.op rfl (Rd.moveT rfl) ?_; refine PL.guard_on rfl h_29 ?_; refine PL.op rfl (Rd.moveT rfl) ?_; refine PL.guard_on rfl h_29 ?_; refine PL.op rfl (Rd.moveT rfl) ?_; refine PL.guard_on rfl h_29 ?_; refine PL.op rfl (Rd.eqlB rfl rfl) ?_; refine PL.op rfl (Rd.pick_t rfl h_29) ?_; refine PL.op rfl (Rd.asnT rfl) ?_; refine PL.nil ?_; refine thA_n ?_; refine PC.ret ?_; refine thA_r ?_; obtain rfl := some_in hh0; exact FinA.mk (r := bA (r4.2 == r6.2)) (bl := []) [] (.inl rfl) rfl (rl := [.tmp 2]) (.tmp .nil) rfl rfl rfl (.t _) trivial ⟨rfl, rfl⟩
  refine PC.region ?_; (iterate 2 refine PL.op rfl (Rd.loadBox rfl rfl rfl) ?_); refine PL.callM false [] (w_L_equalTable N r4.1 r6.1 r8 h_9) rfl Tryd.call34 rfl ⟨.aggL ⟨.t _, .t _, .t _, trivial⟩, .aggL ⟨.t _, .t _, .t _, trivial⟩, trivial⟩ rfl trivial (fun h => by cases h) ?_; refine PL.op rfl (Rd.unnot rfl) ?_; refine PL.op rfl (Rd.moveT rfl) ?_; refine PL.guard_on rfl (not_t h_10) ?_; refine PL.op rfl (Rd.moveT rfl) ?_; refine PL.guard_on rfl (not_t h_10) ?_; refine PL.op rfl (Rd.moveT rfl) ?_; refine PL.guard_on rfl (not_t h_10) ?_; refine PL.op rfl (Rd.neqB rfl rfl) ?_; refine PL.op rfl (Rd.pick_f rfl (not_t h_10)) ?_; refine PL.op rfl (Rd.moveT rfl) ?_; refine PL.guard_on rfl (not_t h_11) ?_; refine PL.op rfl (Rd.moveT rfl) ?_; refine PL.guard_on rfl (not_t h_11) ?_; refine PL.op rfl (Rd.unnot rfl) ?_; refine PL.op rfl (Rd.pick_f rfl (not_t h_11)) ?_; refine PL.nil ?_; refine thA_n ?_; rcases cond_some hh0 with ⟨h_12, hh0⟩ | ⟨h_12, hh0⟩; rotate_left
  · refine PC.cond_true rfl (not_f h_12) ?_; refine PC.seq ?_; obtain ⟨r24, h_25, hh0⟩ := bind_some hh0; rcases cond_some hh0 with ⟨h_26, hh0⟩ | ⟨h_26, hh0⟩; rotate_left
    · refine PC.region ?_; (iterate 2 refine PL.op rfl (Rd.loadBox rfl rfl rfl) ?_); refine PL.callM false [] (w_L_equalTable N r4.1 r6.1 r24 h_25) rfl Tryd.call34 rfl ⟨.aggL ⟨.t _, .t _, .t _, trivial⟩, .aggL ⟨.t _, .t _, .t _, trivial⟩, trivial⟩ rfl trivial (fun h => by cases h) ?_; refine PL.op rfl (Rd.moveT rfl) ?_; (iterate 3 refine PL.guard_off rfl rfl h_26 ?_); refine PL.op rfl (Rd.pick_f rfl h_26) ?_; refine PL.op rfl (Rd.asnT rfl) ?_; refine PL.nil ?_; refine thA_n ?_; refine PC.ret ?_; refine thA_r ?_; obtain rfl := some_in hh0; exact FinA.mk (r := bA false) (bl := []) [] (.inl rfl) rfl (rl := [.tmp 2]) (.tmp .nil) rfl rfl rfl (.t _) trivial ⟨rfl, rfl⟩
    refine PC.region ?_; (iterate 2 refine PL.op rfl (Rd.loadBox rfl rfl rfl) ?_); refine PL.callM false [] (w_L_equalTable N r4.1 r6.1 r24 h_25) rfl Tryd.call34 rfl ⟨.aggL ⟨.t _, .t _, .t _, trivial⟩, .aggL ⟨.t _, .t _, .t _, trivial⟩, trivial⟩ rfl trivial (fun h => by cases h) ?_; refine PL.op rfl (Rd.moveT rfl) ?_; refine PL.guard_on rfl h_26 ?_; refine PL.op rfl (Rd.moveT rfl) ?_; refine PL.guard_on rfl h_26 ?_; refine PL.op rfl (Rd.moveT rfl) ?_; refine PL.guard_on rfl h_26 ?_; refine PL.op rfl (Rd.eqlB rfl rfl) ?_; refine PL.op rfl (Rd.pick_t rfl h_26) ?_; refine PL.op rfl (Rd.asnT rfl) ?_; refine PL.nil ?_; refine thA_n ?_; refine PC.ret ?_; refine thA_r ?_; obtain rfl := some_in hh0; exact FinA.mk (r := bA (r4.2 == r6.2)) (bl := []) [] (.inl rfl) rfl (rl := [.tmp 2]) (.tmp .nil) rfl rfl rfl (.t _) trivial ⟨rfl, rfl⟩
  refine PC.cond_false rfl (not_t h_12) ?_; refine PC.skip ?_; refine thA_n ?_; refine PC.seq ?_; obtain ⟨n13, h_14, hh0⟩ := bind_some hh0; refine PC.region ?_; refine PL.op rfl (Rd.moveT rfl) ?_; refine PL.op rfl (Rd.lenT rfl) ?_; refine PL.op rfl (Rd.remM rfl rfl h_14) ?_; refine PL.op rfl (Rd.asnT rfl) ?_; refine PL.nil ?_; refine thA_n ?_; refine PC.seq ?_; obtain ⟨r15, h_16, hh0⟩ := bind_some hh0; obtain ⟨r17, h_18, hh0⟩ := bind_some hh0; refine PC.region ?_; refine PL.op rfl (Rd.loadBox rfl rfl rfl) ?_; refine PL.op rfl (Rd.moveT rfl) ?_; refine PL.callM false [] (w_I_RewriteRows N r2.1 n13 r15 h_16) rfl Tryd.call21 rfl ⟨.aggL ⟨.t _, .t _, .t _, trivial⟩, .t _, trivial⟩ rfl trivial (fun h => by cases h) ?_; refine PL.nm (.agg [.os 10 0 r15.first.length, .os 11 0 r15.changes.length, .os 12 0 r15.rows.length]) [none, some ⟨.mx [sL r2.1.first, sL r2.1.changes, sL r2.1.rows], 27, 0⟩, none, none, none, some ⟨.mx [sL r4.1.first, sL r4.1.changes, sL r4.1.rows], 27, 0⟩, none, none, none, some ⟨.mx [sL r6.1.first, sL r6.1.changes, sL r6.1.rows], 27, 0⟩, some ⟨.tr (eL r15.first), 64, 4⟩, some ⟨.tr (eL r15.changes), 66, 6⟩, some ⟨.tr (eL r15.rows), 52, 2⟩] rfl rfl ?_; refine PL.frz hs 10 13 [(59, .agg [sL r15.first, .os 11 0 r15.changes.length, .os 12 0 r15.rows.length])] [none, some ⟨.mx [sL r2.1.first, sL r2.1.changes, sL r2.1.rows], 27, 0⟩, none, none, none, some ⟨.mx [sL r4.1.first, sL r4.1.changes, sL r4.1.rows], 27, 0⟩, none, none, none, some ⟨.mx [sL r6.1.first, sL r6.1.changes, sL r6.1.rows], 27, 0⟩, none, some ⟨.tr (eL r15.changes), 66, 6⟩, some ⟨.tr (eL r15.rows), 52, 2⟩] rfl rfl ⟨(.aggL ⟨(.own rfl (by decide) rfl rfl), (.os rfl), (.os rfl), trivial⟩), trivial⟩ ⟨⟨rfl, .inl rfl⟩, ⟨rfl, .inl rfl⟩, ⟨rfl, .inl rfl⟩, ⟨rfl, .inl rfl⟩, ⟨rfl, .inl rfl⟩, trivial⟩ ?_; refine PL.frz hs 11 13 [(59, .agg [sL r15.first, sL r15.changes, .os 12 0 r15.rows.length])] [none, some ⟨.mx [sL r2.1.first, sL r2.1.changes, sL r2.1.rows], 27, 0⟩, none, none, none, some ⟨.mx [sL r4.1.first, sL r4.1.changes, sL r4.1.rows], 27, 0⟩, none, none, none, some ⟨.mx [sL r6.1.first, sL r6.1.changes, sL r6.1.rows], 27, 0⟩, none, none, some ⟨.tr (eL r15.rows), 52, 2⟩] rfl rfl ⟨(.aggL ⟨(.t _), (.own rfl (by decide) rfl rfl), (.os rfl), trivial⟩), trivial⟩ ⟨⟨rfl, .inl rfl⟩, ⟨rfl, .inl rfl⟩, ⟨rfl, .inl rfl⟩, ⟨rfl, .inl rfl⟩, trivial⟩ ?_; refine PL.frz hs 12 13 [(59, .agg [sL r15.first, sL r15.changes, sL r15.rows])] [none, some ⟨.mx [sL r2.1.first, sL r2.1.changes, sL r2.1.rows], 27, 0⟩, none, none, none, some ⟨.mx [sL r4.1.first, sL r4.1.changes, sL r4.1.rows], 27, 0⟩, none, none, none, some ⟨.mx [sL r6.1.first, sL r6.1.changes, sL r6.1.rows], 27, 0⟩, none, none, none] rfl rfl ⟨(.aggL ⟨(.t _), (.t _), (.own rfl (by decide) rfl rfl), trivial⟩), trivial⟩ ⟨⟨rfl, .inl rfl⟩, ⟨rfl, .inl rfl⟩, ⟨rfl, .inl rfl⟩, trivial⟩ ?_; refine PL.nm (.agg [sL r15.first, sL r15.changes, sL r15.rows]) [none, some ⟨.mx [sL r2.1.first, sL r2.1.changes, sL r2.1.rows], 27, 0⟩, none, none, none, some ⟨.mx [sL r4.1.first, sL r4.1.changes, sL r4.1.rows], 27, 0⟩, none, none, none, some ⟨.mx [sL r6.1.first, sL r6.1.changes, sL r6.1.rows], 27, 0⟩, none, none, none] rfl rfl ?_; refine PL.op rfl (Rd.moveT rfl) ?_; refine PL.callM false [] (w_I_InsertRow N r15 r2.2 r17 h_18) rfl Tryd.call37 rfl ⟨.aggL ⟨.t _, .t _, .t _, trivial⟩, .t _, trivial⟩ rfl trivial (fun h => by cases h) ?_; refine PL.nm (.tup [.agg [.os 13 0 r17.1.first.length, .os 14 0 r17.1.changes.length, .os 15 0 r17.1.rows.length], bA r17.2]) [none, some ⟨.mx [sL r2.1.first, sL r2.1.changes, sL r2.1.rows], 27, 0⟩, none, none, none, some ⟨.mx [sL r4.1.first, sL r4.1.changes, sL r4.1.rows], 27, 0⟩, none, none, none, some ⟨.mx [sL r6.1.first, sL r6.1.changes, sL r6.1.rows], 27, 0⟩, none, none, none, some ⟨.tr (eL r17.1.first), 64, 4⟩, some ⟨.tr (eL r17.1.changes), 66, 6⟩, some ⟨.tr (eL r17.1.rows), 52, 2⟩] rfl rfl ?_; refine PL.frz hs 13 16 [(61, .tup [.agg [sL r17.1.first, .os 14 0 r17.1.changes.length, .os 15 0 r17.1.rows.length], bA r17.2])] [none, some ⟨.mx [sL r2.1.first, sL r2.1.changes, sL r2.1.rows], 27, 0⟩, none, none, none, some ⟨.mx [sL r4.1.first, sL r4.1.changes, sL r4.1.rows], 27, 0⟩, none, none, none, some ⟨.mx [sL r6.1.first, sL r6.1.changes, sL r6.1.rows], 27, 0⟩, none, none, none, none, some ⟨.tr (eL r17.1.changes), 66, 6⟩, some ⟨.tr (eL r17.1.rows), 52, 2⟩] rfl rfl ⟨(.tupL ⟨(.aggL ⟨(.own rfl (by decide) rfl rfl), (.os rfl), (.os rfl), trivial⟩), (.t _), trivial⟩), trivial⟩ ⟨⟨rfl, .inl rfl⟩, ⟨rfl, .inl rfl⟩, ⟨rfl, .inl rfl⟩, ⟨rfl, .inl rfl⟩, ⟨rfl, .inl rfl⟩, trivial⟩ ?_; refine PL.frz hs 14 16 [(61, .tup [.agg [sL r17.1.first, sL r17.1.changes, .os 15 0 r17.1.rows.length], bA r17.2])] [none, some ⟨.mx [sL r2.1.first, sL r2.1.changes, sL r2.1.rows], 27, 0⟩, none, none, none, some ⟨.mx [sL r4.1.first, sL r4.1.changes, sL r4.1.rows], 27, 0⟩, none, none, none, some ⟨.mx [sL r6.1.first, sL r6.1.changes, sL r6.1.rows], 27, 0⟩, none, none, none, none, none, some ⟨.tr (eL r17.1.rows), 52, 2⟩] rfl rfl ⟨(.tupL ⟨(.aggL ⟨(.t _), (.own rfl (by decide) rfl rfl), (.os rfl), trivial⟩), (.t _), trivial⟩), trivial⟩ ⟨⟨rfl, .inl rfl⟩, ⟨rfl, .inl rfl⟩, ⟨rfl, .inl rfl⟩, ⟨rfl, .inl rfl⟩, trivial⟩ ?_; refine PL.frz hs 15 16 [(61, .tup [.agg [sL r17.1.first, sL r17.1.changes, sL r17.1.rows], bA r17.2])] [none, some ⟨.mx [sL r2.1.first, sL r2.1.changes, sL r2.1.rows], 27, 0⟩, none, none, none, some ⟨.mx [sL r4.1.first, sL r4.1.changes, sL r4.1.rows], 27, 0⟩, none, none, none, some ⟨.mx [sL r6.1.first, sL r6.1.changes, sL r6.1.rows], 27, 0⟩, none, none, none, none, none, none] rfl rfl ⟨(.tupL ⟨(.aggL ⟨(.t _), (.t _), (.own rfl (by decide) rfl rfl), trivial⟩), (.t _), trivial⟩), trivial⟩ ⟨⟨rfl, .inl rfl⟩, ⟨rfl, .inl rfl⟩, ⟨rfl, .inl rfl⟩, trivial⟩ ?_; refine PL.nm (.tup [.agg [sL r17.1.first, sL r17.1.changes, sL r17.1.rows], bA r17.2]) [none, some ⟨.mx [sL r2.1.first, sL r2.1.changes, sL r2.1.rows], 27, 0⟩, none, none, none, some ⟨.mx [sL r4.1.first, sL r4.1.changes, sL r4.1.rows], 27, 0⟩, none, none, none, some ⟨.mx [sL r6.1.first, sL r6.1.changes, sL r6.1.rows], 27, 0⟩, none, none, none, none, none, none] rfl rfl ?_; refine PL.op rfl (Rd.moveU rfl) ?_; (iterate 2 refine PL.op rfl (Rd.extract rfl rfl) ?_); refine PL.ef rfl (Ef.alloc rfl rfl) ?_; refine PL.nm (.op 16 0) [none, some ⟨.mx [sL r2.1.first, sL r2.1.changes, sL r2.1.rows], 27, 0⟩, none, none, none, some ⟨.mx [sL r4.1.first, sL r4.1.changes, sL r4.1.rows], 27, 0⟩, none, none, none, some ⟨.mx [sL r6.1.first, sL r6.1.changes, sL r6.1.rows], 27, 0⟩, none, none, none, none, none, none, some ⟨.mx [.t (.v (.slice none 0 0)), .t (.v (.slice none 0 0)), .t (.v (.slice none 0 0))], 27, 0⟩] rfl rfl ?_; refine PL.store rfl rfl rfl rfl rfl rfl rfl ?_; refine PL.nO [none, some ⟨.mx [sL r2.1.first, sL r2.1.changes, sL r2.1.rows], 27, 0⟩, none, none, none, some ⟨.mx [sL r4.1.first, sL r4.1.changes, sL r4.1.rows], 27, 0⟩, none, none, none, some ⟨.mx [sL r6.1.first, sL r6.1.changes, sL r6.1.rows], 27, 0⟩, none, none, none, none, none, none, some ⟨.mx [sL r17.1.first, sL r17.1.changes, sL r17.1.rows], 27, 0⟩] rfl ?_; refine PL.op rfl (Rd.asnT rfl) ?_; refine PL.nil ?_; refine thA_n ?_; rcases cond_some hh0 with ⟨h_19, hh0⟩ | ⟨h_19, hh0⟩; rotate_left
  · refine PC.cut hs (fun _ : Unit => [(2, bA false)]) (fun _ => []) (fun _ => True) ?_ ?_
    · refine PC.any (id := 10) 9 (.seg [0, 1, 3] (.fork (.seg [2] (.fork (.seg [4, 5, 6, 7, 8] .done) (.seg [5, 4, 6, 7, 8] .done))) (.seg [5, 2, 4, 6, 7, 8] .done))) [] rfl (by kernel_rfl) rfl ?_; refine PT.seg ?_; (iterate 2 refine PR.op rfl (Rd.moveT rfl) ?_); refine PR.guard_off rfl rfl h_19 ?_; refine PR.nil ?_; refine PT.fork ?_ ?_; rotate_left
      · refine PT.seg ?_; (iterate 4 refine PR.guard_off rfl rfl h_19 ?_); refine PR.op rfl (Rd.pick_f rfl h_19) ?_; refine PR.op rfl (Rd.asnT rfl) ?_; refine PR.nil ?_; refine PT.done ?_; refine PL.nil ?_; refine thA_n ?_; exact ⟨(), trivial, [], ⟨rfl, rfl, trivial, ⟨.t _, trivial⟩⟩⟩
      refine PT.seg ?_; refine PR.guard_off rfl rfl h_19 ?_; refine PR.nil ?_; refine PT.fork ?_ ?_
      · refine PT.seg ?_; (iterate 3 refine PR.guard_off rfl rfl h_19 ?_); refine PR.op rfl (Rd.pick_f rfl h_19) ?_; refine PR.op rfl (Rd.asnT rfl) ?_; refine PR.nil ?_; refine PT.done ?_; refine PL.nil ?_; refine thA_n ?_; exact ⟨(), trivial, [], ⟨rfl, rfl, trivial, ⟨.t _, trivial⟩⟩⟩
      refine PT.seg ?_; (iterate 3 refine PR.guard_off rfl rfl h_19 ?_); refine PR.op rfl (Rd.pick_f rfl h_19) ?_; refine PR.op rfl (Rd.asnT rfl) ?_; refine PR.nil ?_; refine PT.done ?_; refine PL.nil ?_; refine thA_n ?_; exact ⟨(), trivial, [], ⟨rfl, rfl, trivial, ⟨.t _, trivial⟩⟩⟩
    rintro ⟨⟩ -
    refine PC.ret ?_; obtain rfl := some_in hh0; exact FinA.mk (r := bA false) (bl := []) [] (.inl rfl) rfl (rl := [.tmp 2]) (.tmp .nil) rfl rfl rfl (.t _) trivial ⟨rfl, rfl⟩
  obtain ⟨r20, h_21, hh0⟩ := bind_some hh0; obtain ⟨r22, h_23, hh0⟩ := bind_some hh0; refine PC.cut hs (fun _ : Unit => [(2, bA r22)]) (fun _ => []) (fun _ => True) ?_ ?_
  · refine PC.any (id := 10) 9 (.seg [0, 1, 3] (.fork (.seg [2] (.fork (.seg [4, 5, 6, 7, 8] .done) (.seg [5, 4, 6, 7, 8] .done))) (.seg [5, 2, 4, 6, 7, 8] .done))) [] rfl (by kernel_rfl) rfl ?_; refine PT.seg ?_; (iterate 2 refine PR.op rfl (Rd.moveT rfl) ?_); refine PR.guard_on rfl rfl h_19 ?_; refine PR.op rfl (Rd.moveT rfl) ?_; refine PR.nil ?_; refine PT.fork ?_ ?_; rotate_left
    · refine PT.seg ?_; refine PR.guard_on rfl rfl h_19 ?_; refine PR.rdE rfl rfl (Rd.loadBox rfl rfl rfl) ?_; refine PR.guard_on rfl rfl h_19 ?_; refine PR.rdE rfl rfl (Rd.loadBox rfl rfl rfl) ?_; refine PR.guard_on rfl rfl h_19 ?_; refine PR.callM false [] (w_I_RewriteRows N r4.1 n13 r20 h_21) rfl Tryd.call21 rfl ⟨.aggL ⟨.t _, .t _, .t _, trivial⟩, .t _, trivial⟩ rfl trivial (fun h => by cases h) rfl ?_; refine PR.nm (.agg [.os 17 0 r20.first.length, .os 18 0 r20.changes.length, .os 19 0 r20.rows.length]) [none, some ⟨.mx [sL r2.1.first, sL r2.1.changes, sL r2.1.rows], 27, 0⟩, none, none, none, some ⟨.mx [sL r4.1.first, sL r4.1.changes, sL r4.1.rows], 27, 0⟩, none, none, none, some ⟨.mx [sL r6.1.first, sL r6.1.changes, sL r6.1.rows], 27, 0⟩, none, none, none, none, none, none, some ⟨.mx [sL r17.1.first, sL r17.1.changes, sL r17.1.rows], 27, 0⟩, some ⟨.tr (eL r20.first), 64, 4⟩, some ⟨.tr (eL r20.changes), 66, 6⟩, some ⟨.tr (eL r20.rows), 52, 2⟩] rfl rfl ?_; refine PR.frz hs 17 20 [(68, .agg [sL r20.first, .os 18 0 r20.changes.length, .os 19 0 r20.rows.length])] [none, some ⟨.mx [sL r2.1.first, sL r2.1.changes, sL r2.1.rows], 27, 0⟩, none, none, none, some ⟨.mx [sL r4.1.first, sL r4.1.changes, sL r4.1.rows], 27, 0⟩, none, none, none, some ⟨.mx [sL r6.1.first, sL r6.1.changes, sL r6.1.rows], 27, 0⟩, none, none, none, none, none, none, some ⟨.mx [sL r17.1.first, sL r17.1.changes, sL r17.1.rows], 27, 0⟩, none, some ⟨.tr (eL r20.changes), 66, 6⟩, some ⟨.tr (eL r20.rows), 52, 2⟩] rfl rfl rfl ⟨(.aggL ⟨(.own rfl (by decide) rfl rfl), (.os rfl), (.os rfl), trivial⟩), trivial⟩ ⟨⟨rfl, .inl rfl⟩, ⟨rfl, .inl rfl⟩, ⟨rfl, .inl rfl⟩, ⟨rfl, .inl rfl⟩, ⟨rfl, .inl rfl⟩, ⟨rfl, .inl rfl⟩, trivial⟩ ?_; refine PR.frz hs 18 20 [(68, .agg [sL r20.first, sL r20.changes, .os 19 0 r20.rows.length])] [none, some ⟨.mx [sL r2.1.first, sL r2.1.changes, sL r2.1.rows], 27, 0⟩, none, none, none, some ⟨.mx [sL r4.1.first, sL r4.1.changes, sL r4.1.rows], 27, 0⟩, none, none, none, some ⟨.mx [sL r6.1.first, sL r6.1.changes, sL r6.1.rows], 27, 0⟩, none, none, none, none, none, none, some ⟨.mx [sL r17.1.first, sL r17.1.changes, sL r17.1.rows], 27, 0⟩, none, none, some ⟨.tr (eL r20.rows), 52, 2⟩] rfl rfl rfl ⟨(.aggL ⟨(.t _), (.own rfl (by decide) rfl rfl), (.os rfl), trivial⟩), trivial⟩ ⟨⟨rfl, .inl rfl⟩, ⟨rfl, .inl rfl⟩, ⟨rfl, .inl rfl⟩, ⟨rfl, .inl rfl⟩, ⟨rfl, .inl rfl⟩, trivial⟩ ?_; refine PR.frz hs 19 20 [(68, .agg [sL r20.first, sL r20.changes, sL r20.rows])] [none, some ⟨.mx [sL r2.1.first, sL r2.1.changes, sL r2.1.rows], 27, 0⟩, none, none, none, some ⟨.mx [sL r4.1.first, sL r4.1.changes, sL r4.1.rows], 27, 0⟩, none, none, none, some ⟨.mx [sL r6.1.first, sL r6.1.changes, sL r6.1.rows], 27, 0⟩, none, none, none, none, none, none, some ⟨.mx [sL r17.1.first, sL r17.1.changes, sL r17.1.rows], 27, 0⟩, none, none, none] rfl rfl rfl ⟨(.aggL ⟨(.t _), (.t _), (.own rfl (by decide) rfl rfl), trivial⟩), trivial⟩ ⟨⟨rfl, .inl rfl⟩, ⟨rfl, .inl rfl⟩, ⟨rfl, .inl rfl⟩, ⟨rfl, .inl rfl⟩, trivial⟩ ?_; refine PR.nm (.agg [sL r20.first, sL r20.changes, sL r20.rows]) [none, some ⟨.mx [sL r2.1.first, sL r2.1.changes, sL r2.1.rows], 27, 0⟩, none, none, none, some ⟨.mx [sL r4.1.first, sL r4.1.changes, sL r4.1.rows], 27, 0⟩, none, none, none, some ⟨.mx [sL r6.1.first, sL r6.1.changes, sL r6.1.rows], 27, 0⟩, none, none, none, none, none, none, some ⟨.mx [sL r17.1.first, sL r17.1.changes, sL r17.1.rows], 27, 0⟩, none, none, none] rfl rfl ?_; refine PR.guard_on rfl rfl h_19 ?_; refine PR.callM false [] (w_L_equalTable N r20 r17.1 r22 h_23) rfl Tryd.call34 rfl ⟨.aggL ⟨.t _, .t _, .t _, trivial⟩, .aggL ⟨.t _, .t _, .t _, trivial⟩, trivial⟩ rfl trivial (fun h => by cases h) rfl ?_; refine PR.op rfl (Rd.pick_t rfl h_19) ?_; refine PR.op rfl (Rd.asnT rfl) ?_; refine PR.nil ?_; refine PT.done ?_; refine PL.nil ?_; refine thA_n ?_; exact ⟨(), trivial, [], ⟨rfl, rfl, trivial, ⟨.t _, trivial⟩⟩⟩
    refine PT.seg ?_; refine PR.guard_on rfl rfl h_19 ?_; refine PR.rdE rfl rfl (Rd.loadBox rfl rfl rfl) ?_; refine PR.nil ?_; refine PT.fork ?_ ?_
    · refine PT.seg ?_; refine PR.guard_on rfl rfl h_19 ?_; refine PR.callM false [] (w_I_RewriteRows N r4.1 n13 r20 h_21) rfl Tryd.call21 rfl ⟨.aggL ⟨.t _, .t _, .t _, trivial⟩, .t _, trivial⟩ rfl trivial (fun h => by cases h) rfl ?_; refine PR.nm (.agg [.os 17 0 r20.first.length, .os 18 0 r20.changes.length, .os 19 0 r20.rows.length]) [none, some ⟨.mx [sL r2.1.first, sL r2.1.changes, sL r2.1.rows], 27, 0⟩, none, none, none, some ⟨.mx [sL r4.1.first, sL r4.1.changes, sL r4.1.rows], 27, 0⟩, none, none, none, some ⟨.mx [sL r6.1.first, sL r6.1.changes, sL r6.1.rows], 27, 0⟩, none, none, none, none, none, none, some ⟨.mx [sL r17.1.first, sL r17.1.changes, sL r17.1.rows], 27, 0⟩, some ⟨.tr (eL r20.first), 64, 4⟩, some ⟨.tr (eL r20.changes), 66, 6⟩, some ⟨.tr (eL r20.rows), 52, 2⟩] rfl rfl ?_; refine PR.frz hs 17 20 [(68, .agg [sL r20.first, .os 18 0 r20.changes.length, .os 19 0 r20.rows.length])] [none, some ⟨.mx [sL r2.1.first, sL r2.1.changes, sL r2.1.rows], 27, 0⟩, none, none, none, some ⟨.mx [sL r4.1.first, sL r4.1.changes, sL r4.1.rows], 27, 0⟩, none, none, none, some ⟨.mx [sL r6.1.first, sL r6.1.changes, sL r6.1.rows], 27, 0⟩, none, none, none, none, none, none, some ⟨.mx [sL r17.1.first, sL r17.1.changes, sL r17.1.rows], 27, 0⟩, none, some ⟨.tr (eL r20.changes), 66, 6⟩, some ⟨.tr (eL r20.rows), 52, 2⟩] rfl rfl rfl ⟨(.aggL ⟨(.own rfl (by decide) rfl rfl), (.os rfl), (.os rfl), trivial⟩), trivial⟩ ⟨⟨rfl, .inl rfl⟩, ⟨rfl, .inl rfl⟩, ⟨rfl, .inl rfl⟩, ⟨rfl, .inl rfl⟩, ⟨rfl, .inl rfl⟩, ⟨rfl, .inl rfl⟩, trivial⟩ ?_; refine PR.frz hs 18 20 [(68, .agg [sL r20.first, sL r20.changes, .os 19 0 r20.rows.length])] [none, some ⟨.mx [sL r2.1.first, sL r2.1.changes, sL r2.1.rows], 27, 0⟩, none, none, none, some ⟨.mx [sL r4.1.first, sL r4.1.changes, sL r4.1.rows], 27, 0⟩, none, none, none, some ⟨.mx [sL r6.1.first, sL r6.1.changes, sL r6.1.rows], 27, 0⟩, none, none, none, none, none, none, some ⟨.mx [sL r17.1.first, sL r17.1.changes, sL r17.1.rows], 27, 0⟩, none, none, some ⟨.tr (eL r20.rows), 52, 2⟩] rfl rfl rfl ⟨(.aggL ⟨(.t _), (.own rfl (by decide) rfl rfl), (.os rfl), trivial⟩), trivial⟩ ⟨⟨rfl, .inl rfl⟩, ⟨rfl, .inl rfl⟩, ⟨rfl, .inl rfl⟩, ⟨rfl, .inl rfl⟩, ⟨rfl, .inl rfl⟩, trivial⟩ ?_; refine PR.frz hs 19 20 [(68, .agg [sL r20.first, sL r20.changes, sL r20.rows])] [none, some ⟨.mx [sL r2.1.first, sL r2.1.changes, sL r2.1.rows], 27, 0⟩, none, none, none, some ⟨.mx [sL r4.1.first, sL r4.1.changes, sL r4.1.rows], 27, 0⟩, none, none, none, some ⟨.mx [sL r6.1.first, sL r6.1.changes, sL r6.1.rows], 27, 0⟩, none, none, none, none, none, none, some ⟨.mx [sL r17.1.first, sL r17.1.changes, sL r17.1.rows], 27, 0⟩, none, none, none] rfl rfl rfl ⟨(.aggL ⟨(.t _), (.t _), (.own rfl (by decide) rfl rfl), trivial⟩), trivial⟩ ⟨⟨rfl, .inl rfl⟩, ⟨rfl, .inl rfl⟩, ⟨rfl, .inl rfl⟩, ⟨rfl, .inl rfl⟩, trivial⟩ ?_; refine PR.nm (.agg [sL r20.first, sL r20.changes, sL r20.rows]) [none, some ⟨.mx [sL r2.1.first, sL r2.1.changes, sL r2.1.rows], 27, 0⟩, none, none, none, some ⟨.mx [sL r4.1.first, sL r4.1.changes, sL r4.1.rows], 27, 0⟩, none, none, none, some ⟨.mx [sL r6.1.first, sL r6.1.changes, sL r6.1.rows], 27, 0⟩, none, none, none, none, none, none, some ⟨.mx [sL r17.1.first, sL r17.1.changes, sL r17.1.rows], 27, 0⟩, none, none, none] rfl rfl ?_; refine PR.guard_on rfl rfl h_19 ?_; refine PR.rdE rfl rfl (Rd.loadBox rfl rfl rfl) ?_; refine PR.guard_on rfl rfl h_19 ?_; refine PR.callM false [] (w_L_equalTable N r20 r17.1 r22 h_23) rfl Tryd.call34 rfl ⟨.aggL ⟨.t _, .t _, .t _, trivial⟩, .aggL ⟨.t _, .t _, .t _, trivial⟩, trivial⟩ rfl trivial (fun h => by cases h) rfl ?_; refine PR.op rfl (Rd.pick_t rfl h_19) ?_; refine PR.op rfl (Rd.asnT rfl) ?_; refine PR.nil ?_; refine PT.done ?_; refine PL.nil ?_; refine thA_n ?_; exact ⟨(), trivial, [], ⟨rfl, rfl, trivial, ⟨.t _, trivial⟩⟩⟩
    refine PT.seg ?_; refine PR.guard_on rfl rfl h_19 ?_; refine PR.rdE rfl rfl (Rd.loadBox rfl rfl rfl) ?_; refine PR.guard_on rfl rfl h_19 ?_; refine PR.callM false [] (w_I_RewriteRows N r4.1 n13 r20 h_21) rfl Tryd.call21 rfl ⟨.aggL ⟨.t _, .t _, .t _, trivial⟩, .t _, trivial⟩ rfl trivial (fun h => by cases h) rfl ?_; refine PR.nm (.agg [.os 17 0 r20.first.length, .os 18 0 r20.changes.length, .os 19 0 r20.rows.length]) [none, some ⟨.mx [sL r2.1.first, sL r2.1.changes, sL r2.1.rows], 27, 0⟩, none, none, none, some ⟨.mx [sL r4.1.first, sL r4.1.changes, sL r4.1.rows], 27, 0⟩, none, none, none, some ⟨.mx [sL r6.1.first, sL r6.1.changes, sL r6.1.rows], 27, 0⟩, none, none, none, none, none, none, some ⟨.mx [sL r17.1.first, sL r17.1.changes, sL r17.1.rows], 27, 0⟩, some ⟨.tr (eL r20.first), 64, 4⟩, some ⟨.tr (eL r20.changes), 66, 6⟩, some ⟨.tr (eL r20.rows), 52, 2⟩] rfl rfl ?_; refine PR.frz hs 17 20 [(68, .agg [sL r20.first, .os 18 0 r20.changes.length, .os 19 0 r20.rows.length])] [none, some ⟨.mx [sL r2.1.first, sL r2.1.changes, sL r2.1.rows], 27, 0⟩, none, none, none, some ⟨.mx [sL r4.1.first, sL r4.1.changes, sL r4.1.rows], 27, 0⟩, none, none, none, some ⟨.mx [sL r6.1.first, sL r6.1.changes, sL r6.1.rows], 27, 0⟩, none, none, none, none, none, none, some ⟨.mx [sL r17.1.first, sL r17.1.changes, sL r17.1.rows], 27, 0⟩, none, some ⟨.tr (eL r20.changes), 66, 6⟩, some ⟨.tr (eL r20.rows), 52, 2⟩] rfl rfl rfl ⟨(.aggL ⟨(.own rfl (by decide) rfl rfl), (.os rfl), (.os rfl), trivial⟩), trivial⟩ ⟨⟨rfl, .inl rfl⟩, ⟨rfl, .inl rfl⟩, ⟨rfl, .inl rfl⟩, ⟨rfl, .inl rfl⟩, ⟨rfl, .inl rfl⟩, ⟨rfl, .inl rfl⟩, trivial⟩ ?_; refine PR.frz hs 18 20 [(68, .agg [sL r20.first, sL r20.changes, .os 19 0 r20.rows.length])] [none, some ⟨.mx [sL r2.1.first, sL r2.1.changes, sL r2.1.rows], 27, 0⟩, none, none, none, some ⟨.mx [sL r4.1.first, sL r4.1.changes, sL r4.1.rows], 27, 0⟩, none, none, none, some ⟨.mx [sL r6.1.first, sL r6.1.changes, sL r6.1.rows], 27, 0⟩, none, none, none, none, none, none, some ⟨.mx [sL r17.1.first, sL r17.1.changes, sL r17.1.rows], 27, 0⟩, none, none, some ⟨.tr (eL r20.rows), 52, 2⟩] rfl rfl rfl ⟨(.aggL ⟨(.t _), (.own rfl (by decide) rfl rfl), (.os rfl), trivial⟩), trivial⟩ ⟨⟨rfl, .inl rfl⟩, ⟨rfl, .inl rfl⟩, ⟨rfl, .inl rfl⟩, ⟨rfl, .inl rfl⟩, ⟨rfl, .inl rfl⟩, trivial⟩ ?_; refine PR.frz hs 19 20 [(68, .agg [sL r20.first, sL r20.changes, sL r20.rows])] [none, some ⟨.mx [sL r2.1.first, sL r2.1.changes, sL r2.1.rows], 27, 0⟩, none, none, none, some ⟨.mx [sL r4.1.first, sL r4.1.changes, sL r4.1.rows], 27, 0⟩, none, none, none, some ⟨.mx [sL r6.1.first, sL r6.1.changes, sL r6.1.rows], 27, 0⟩, none, none, none, none, none, none, some ⟨.mx [sL r17.1.first, sL r17.1.changes, sL r17.1.rows], 27, 0⟩, none, none, none] rfl rfl rfl ⟨(.aggL ⟨(.t _), (.t _), (.own rfl (by decide) rfl rfl), trivial⟩), trivial⟩ ⟨⟨rfl, .inl rfl⟩, ⟨rfl, .inl rfl⟩, ⟨rfl, .inl rfl⟩, ⟨rfl, .inl rfl⟩, trivial⟩ ?_; refine PR.nm (.agg [sL r20.first, sL r20.changes, sL r20.rows]) [none, some ⟨.mx [sL r2.1.first, sL r2.1.changes, sL r2.1.rows], 27, 0⟩, none, none, none, some ⟨.mx [sL r4.1.first, sL r4.1.changes, sL r4.1.rows], 27, 0⟩, none, none, none, some ⟨.mx [sL r6.1.first, sL r6.1.changes, sL r6.1.rows], 27, 0⟩, none, none, none, none, none, none, some ⟨.mx [sL r17.1.first, sL r17.1.changes, sL r17.1.rows], 27, 0⟩, none, none, none] rfl rfl ?_; refine PR.guard_on rfl rfl h_19 ?_; refine PR.callM false [] (w_L_equalTable N r20 r17.1 r22 h_23) rfl Tryd.call34 rfl ⟨.aggL ⟨.t _, .t _, .t _, trivial⟩, .aggL ⟨.t _, .t _, .t _, trivial⟩, trivial⟩ rfl trivial (fun h => by cases h) rfl ?_; refine PR.op rfl (Rd.pick_t rfl h_19) ?_; refine PR.op rfl (Rd.asnT rfl) ?_; refine PR.nil ?_; refine PT.done ?_; refine PL.nil ?_; refine thA_n ?_; exact ⟨(), trivial, [], ⟨rfl, rfl, trivial, ⟨.t _, trivial⟩⟩⟩
  rintro ⟨⟩ -
  refine PC.ret ?_; obtain rfl := some_in hh0; exact FinA.mk (r := bA r22) (bl := []) [] (.inl rfl) rfl (rl := [.tmp 2]) (.tmp .nil) rfl rfl rfl (.t _) trivial ⟨rfl, rfl⟩
def m_L_FnAlterTable_k1 (N : Nat) (r2 : (I_Table × I_Change)) (r4 : (I_Table × Bool)) : Option (Bool) :=
  (m_L_equalTagged N r4.1.rows r2.1.rows).bind fun r44 =>
  cond r44
    ((m_I_OldRows N r4.1).bind fun r47 =>
    some (decide (r47 = (r2.1.rows.length : Int))))
    (some false)
def m_L_FnAlterTable_b1 (N : Nat) (r2 : (I_Table × I_Change)) (r13 : ((List (List I_Column)) × Bool)) (r15 : ((List (List I_Value)))) (r17 : ((List (List I_Value)))) (r19 : Int) : Option (Int ⊕ (Unit ⊕ Bool)) :=
  cond (decide (r19 < (r15.length : Int)))
    (cond r13.2
      (cond (decide ((r17.length : Int) ≤ r19))
        (some (.inr (.inr false)))
        ((chk ((r13.1.length : Int) - (1 : Int))).bind fun n52 =>
        (ixI r13.1 n52).bind fun x54 =>
        (ixI r15 r19).bind fun x56 =>
        (m_I_ChangeRow N x54 x56 r2.2).bind fun r58 =>
        cond r58.2
          ((ixI r17 r19).bind fun x61 =>
          (m_L_equalRow N r58.1 x61).bind fun r63 =>
          cond r63
            ((chk (r19 + (1 : Int))).bind fun n66 =>
            some (.inl n66))
            (some (.inr (.inr false))))
          (some (.inr (.inr false)))))
      (some (.inr (.inr false))))
    (some (.inr (.inl ())))
def m_L_FnAlterTable (N : Nat) (p_code : (List UInt8)) : Option (Bool) :=
  cond (decide ((1048576 : Int) < (p_code.length : Int)))
    (some true)
    ((m_S_DrawAlterTable N p_code).bind fun r2 =>
    (m_I_AlterTable N r2.1 r2.2).bind fun r4 =>
    (m_S_AlterTable N r2.1 r2.2).bind fun r6 =>
    (m_L_equalTable N r4.1 r6.1).bind fun r8 =>
    cond r8
      (cond (r4.2 == r6.2)
        (cond r4.2
          ((m_I_ChainOf N r2.1.first r2.1.changes).bind fun r13 =>
          (m_I_TableRows N r2.1).bind fun r15 =>
          (m_I_TableRows N r4.1).bind fun r17 =>
          (loopM (β := Unit ⊕ Bool) (fun s : Int => m_L_FnAlterTable_b1 N r2 r13 r15 r17 s) N (0 : Int)).bind fun o => match o with
          | .inl e =>
            m_L_FnAlterTable_k1 N r2 r4 
          | .inr v =>
            some v)
          ((m_L_equalTable N r4.1 r6.1).bind fun r68 =>
          cond r68
            (some (r4.2 == r6.2))
            (some false)))
        ((m_L_equalTable N r4.1 r6.1).bind fun r71 =>
        cond r71
          (some (r4.2 == r6.2))
          (some false)))
      ((m_L_equalTable N r4.1 r6.1).bind fun r74 =>
      cond r74
        (some (r4.2 == r6.2))
        (some false)))
theorem w_L_FnAlterTable (N : Nat) (p_code : (List UInt8)) (r : Bool) (hh0 : m_L_FnAlterTable N p_code = some r) : FnX Tryd.prog 10 [] [sL p_code] (RE (bA r) []) := by
  unfold m_L_FnAlterTable at hh0; refine FnX.mk Tryd.func10 rfl rfl ?_; intro s hs; refine PC.seq ?_; refine PC.region ?_; refine PL.op rfl (Rd.asnT rfl) ?_; refine PL.nil ?_; refine thA_n ?_; (iterate 2 refine PC.seq ?_); refine PC.region ?_; refine PL.op rfl (Rd.moveT rfl) ?_; refine PL.op rfl (Rd.lenT rfl) ?_; refine PL.op rfl (Rd.gtr rfl rfl) ?_; refine PL.nil ?_; refine thA_n ?_; rcases cond_some hh0 with ⟨h_1, hh0⟩ | ⟨h_1, hh0⟩
  · refine PC.cond_true rfl h_1 ?_; refine PC.seq ?_; refine PC.region ?_; refine PL.op rfl (Rd.asnT rfl) ?_; refine PL.nil ?_; refine thA_n ?_; refine PC.ret ?_; refine thA_r ?_; obtain rfl := some_in hh0; exact FinA.mk (r := bA true) (bl := []) [] (.inl rfl) rfl (rl := [.tmp 2]) (.tmp .nil) rfl rfl rfl (.t _) trivial ⟨rfl, rfl⟩
  refine PC.cond_false rfl h_1 ?_; refine PC.skip ?_; refine thA_n ?_; refine PC.seq ?_; obtain ⟨r2, h_3, hh0⟩ := bind_some hh0; refine PC.region ?_; refine PL.op rfl (Rd.moveT rfl) ?_; refine PL.callM false [] (w_S_DrawAlterTable N p_code r2 h_3) rfl Tryd.call39 rfl ⟨.t _, trivial⟩ rfl trivial (fun h => by cases h) ?_; refine PL.op rfl (Rd.moveU rfl) ?_; (iterate 2 refine PL.op rfl (Rd.extract rfl rfl) ?_); refine PL.ef rfl (Ef.alloc rfl rfl) ?_; refine PL.nm (.op 0 0) [some ⟨.mx [.t (.v (.slice none 0 0)), .t (.v (.slice none 0 0)), .t (.v (.slice none 0 0))], 27, 0⟩] rfl rfl ?_; refine PL.ef rfl (Ef.alloc rfl rfl) ?_; refine PL.nm (.op 1 0) [some ⟨.mx [.t (.v (.slice none 0 0)), .t (.v (.slice none 0 0)), .t (.v (.slice none 0 0))], 27, 0⟩, some ⟨.mx [iA (0 : Int), iA (0 : Int), iA (0 : Int), iA (0 : Int), iA (0 : Int), sA ByteArray.empty], 66, 0⟩] rfl rfl ?_; refine PL.store rfl rfl rfl rfl rfl rfl rfl ?_; refine PL.nO [some ⟨.mx [sL r2.1.first, sL r2.1.changes, sL r2.1.rows], 27, 0⟩, some ⟨.mx [iA (0 : Int), iA (0 : Int), iA (0 : Int), iA (0 : Int), iA (0 : Int), sA ByteArray.empty], 66, 0⟩] rfl ?_; refine PL.store rfl rfl rfl rfl rfl rfl rfl ?_; refine PL.nO [some ⟨.mx [sL r2.1.first, sL r2.1.changes, sL r2.1.rows], 27, 0⟩, some ⟨.mx [iA r2.2.kind, iA r2.2.at_, iA r2.2.column.kind, iA r2.2.column.default.kind, iA r2.2.column.default.num, sA r2.2.column.default.text], 66, 0⟩] rfl ?_; refine PL.nil ?_; refine thA_n ?_; refine PC.seq ?_; obtain ⟨r4, h_5, hh0⟩ := bind_some hh0; refine PC.region ?_; (iterate 2 refine PL.op rfl (Rd.loadBox rfl rfl rfl) ?_); refine PL.callM false [] (w_I_AlterTable N r2.1 r2.2 r4 h_5) rfl Tryd.call40 rfl ⟨.aggL ⟨.t _, .t _, .t _, trivial⟩, .aggL ⟨.t _, .t _, .t _, .t _, .t _, .t _, trivial⟩, trivial⟩ rfl trivial (fun h => by cases h) ?_; refine PL.nm (.tup [.agg [.os 2 0 r4.1.first.length, .os 3 0 r4.1.changes.length, .os 4 0 r4.1.rows.length], bA r4.2]) [some ⟨.mx [sL r2.1.first, sL r2.1.changes, sL r2.1.rows], 27, 0⟩, some ⟨.mx [iA r2.2.kind, iA r2.2.at_, iA r2.2.column.kind, iA r2.2.column.default.kind, iA r2.2.column.default.num, sA r2.2.column.default.text], 66, 0⟩, some ⟨.tr (eL r4.1.first), 64, 4⟩, some ⟨.tr (eL r4.1.changes), 66, 6⟩, some ⟨.tr (eL r4.1.rows), 52, 2⟩] rfl rfl ?_; refine PL.frz hs 2 5 [(27, .tup [.agg [sL r4.1.first, .os 3 0 r4.1.changes.length, .os 4 0 r4.1.rows.length], bA r4.2])] [some ⟨.mx [sL r2.1.first, sL r2.1.changes, sL r2.1.rows], 27, 0⟩, some ⟨.mx [iA r2.2.kind, iA r2.2.at_, iA r2.2.column.kind, iA r2.2.column.default.kind, iA r2.2.column.default.num, sA r2.2.column.default.text], 66, 0⟩, none, some ⟨.tr (eL r4.1.changes), 66, 6⟩, some ⟨.tr (eL r4.1.rows), 52, 2⟩] rfl rfl ⟨(.tupL ⟨(.aggL ⟨(.own rfl (by decide) rfl rfl), (.os rfl), (.os rfl), trivial⟩), (.t _), trivial⟩), trivial⟩ ⟨⟨rfl, .inl rfl⟩, ⟨rfl, .inl rfl⟩, ⟨rfl, .inl rfl⟩, ⟨rfl, .inl rfl⟩, trivial⟩ ?_; refine PL.frz hs 3 5 [(27, .tup [.agg [sL r4.1.first, sL r4.1.changes, .os 4 0 r4.1.rows.length], bA r4.2])] [some ⟨.mx [sL r2.1.first, sL r2.1.changes, sL r2.1.rows], 27, 0⟩, some ⟨.mx [iA r2.2.kind, iA r2.2.at_, iA r2.2.column.kind, iA r2.2.column.default.kind, iA r2.2.column.default.num, sA r2.2.column.default.text], 66, 0⟩, none, none, some ⟨.tr (eL r4.1.rows), 52, 2⟩] rfl rfl ⟨(.tupL ⟨(.aggL ⟨(.t _), (.own rfl (by decide) rfl rfl), (.os rfl), trivial⟩), (.t _), trivial⟩), trivial⟩ ⟨⟨rfl, .inl rfl⟩, ⟨rfl, .inl rfl⟩, ⟨rfl, .inl rfl⟩, trivial⟩ ?_; refine PL.frz hs 4 5 [(27, .tup [.agg [sL r4.1.first, sL r4.1.changes, sL r4.1.rows], bA r4.2])] [some ⟨.mx [sL r2.1.first, sL r2.1.changes, sL r2.1.rows], 27, 0⟩, some ⟨.mx [iA r2.2.kind, iA r2.2.at_, iA r2.2.column.kind, iA r2.2.column.default.kind, iA r2.2.column.default.num, sA r2.2.column.default.text], 66, 0⟩, none, none, none] rfl rfl ⟨(.tupL ⟨(.aggL ⟨(.t _), (.t _), (.own rfl (by decide) rfl rfl), trivial⟩), (.t _), trivial⟩), trivial⟩ ⟨⟨rfl, .inl rfl⟩, ⟨rfl, .inl rfl⟩, trivial⟩ ?_; refine PL.nm (.tup [.agg [sL r4.1.first, sL r4.1.changes, sL r4.1.rows], bA r4.2]) [some ⟨.mx [sL r2.1.first, sL r2.1.changes, sL r2.1.rows], 27, 0⟩, some ⟨.mx [iA r2.2.kind, iA r2.2.at_, iA r2.2.column.kind, iA r2.2.column.default.kind, iA r2.2.column.default.num, sA r2.2.column.default.text], 66, 0⟩, none, none, none] rfl rfl ?_; refine PL.op rfl (Rd.moveU rfl) ?_; (iterate 2 refine PL.op rfl (Rd.extract rfl rfl) ?_); refine PL.ef rfl (Ef.alloc rfl rfl) ?_; refine PL.nm (.op 5 0) [some ⟨.mx [sL r2.1.first, sL r2.1.changes, sL r2.1.rows], 27, 0⟩, some ⟨.mx [iA r2.2.kind, iA r2.2.at_, iA r2.2.column.kind, iA r2.2.column.default.kind, iA r2.2.column.default.num, sA r2.2.column.default.text], 66, 0⟩, none, none, none, some ⟨.mx [.t (.v (.slice none 0 0)), .t (.v (.slice none 0 0)), .t (.v (.slice none 0 0))], 27, 0⟩] rfl rfl ?_; refine PL.store rfl rfl rfl rfl rfl rfl rfl ?_; refine PL.nO [some ⟨.mx [sL r2.1.first, sL r2.1.changes, sL r2.1.rows], 27, 0⟩, some ⟨.mx [iA r2.2.kind, iA r2.2.at_, iA r2.2.column.kind, iA r2.2.column.default.kind, iA r2.2.column.default.num, sA r2.2.column.default.text], 66, 0⟩, none, none, none, some ⟨.mx [sL r4.1.first, sL r4.1.changes, sL r4.1.rows], 27, 0⟩] rfl ?_; refine PL.op rfl (Rd.asnT rfl) ?_; refine PL.nil ?_; refine thA_n ?_; refine PC.seq ?_; obtain ⟨r6, h_7, hh0⟩ := bind_some hh0; refine PC.region ?_; (iterate 2 refine PL.op rfl (Rd.loadBox rfl rfl rfl) ?_); refine PL.callM false [] (w_S_AlterTable N r2.1 r2.2 r6 h_7) rfl Tryd.call41 rfl ⟨.aggL ⟨.t _, .t _, .t _, trivial⟩, .aggL ⟨.t _, .t _, .t _, .t _, .t _, .t _, trivial⟩, trivial⟩ rfl trivial (fun h => by cases h) ?_; refine PL.nm (.tup [.agg [.os 6 0 r6.1.first.length, .os 7 0 r6.1.changes.length, .os 8 0 r6.1.rows.length], bA r6.2]) [some ⟨.mx [sL r2.1.first, sL r2.1.changes, sL r2.1.rows], 27, 0⟩, some ⟨.mx [iA r2.2.kind, iA r2.2.at_, iA r2.2.column.kind, iA r2.2.column.default.kind, iA r2.2.column.default.num, sA r2.2.column.default.text], 66, 0⟩, none, none, none, some ⟨.mx [sL r4.1.first, sL r4.1.changes, sL r4.1.rows], 27, 0⟩, some ⟨.tr (eL r6.1.first), 64, 4⟩, some ⟨.tr (eL r6.1.changes), 66, 6⟩, some ⟨.tr (eL r6.1.rows), 52, 2⟩] rfl rfl ?_; refine PL.frz hs 6 9 [(33, .tup [.agg [sL r6.1.first, .os 7 0 r6.1.changes.length, .os 8 0 r6.1.rows.length], bA r6.2])] [some ⟨.mx [sL r2.1.first, sL r2.1.changes, sL r2.1.rows], 27, 0⟩, some ⟨.mx [iA r2.2.kind, iA r2.2.at_, iA r2.2.column.kind, iA r2.2.column.default.kind, iA r2.2.column.default.num, sA r2.2.column.default.text], 66, 0⟩, none, none, none, some ⟨.mx [sL r4.1.first, sL r4.1.changes, sL r4.1.rows], 27, 0⟩, none, some ⟨.tr (eL r6.1.changes), 66, 6⟩, some ⟨.tr (eL r6.1.rows), 52, 2⟩] rfl rfl ⟨(.tupL ⟨(.aggL ⟨(.own rfl (by decide) rfl rfl), (.os rfl), (.os rfl), trivial⟩), (.t _), trivial⟩), trivial⟩ ⟨⟨rfl, .inl rfl⟩, ⟨rfl, .inl rfl⟩, ⟨rfl, .inl rfl⟩, ⟨rfl, .inl rfl⟩, ⟨rfl, .inl rfl⟩, trivial⟩ ?_; refine PL.frz hs 7 9 [(33, .tup [.agg [sL r6.1.first, sL r6.1.changes, .os 8 0 r6.1.rows.length], bA r6.2])] [some ⟨.mx [sL r2.1.first, sL r2.1.changes, sL r2.1.rows], 27, 0⟩, some ⟨.mx [iA r2.2.kind, iA r2.2.at_, iA r2.2.column.kind, iA r2.2.column.default.kind, iA r2.2.column.default.num, sA r2.2.column.default.text], 66, 0⟩, none, none, none, some ⟨.mx [sL r4.1.first, sL r4.1.changes, sL r4.1.rows], 27, 0⟩, none, none, some ⟨.tr (eL r6.1.rows), 52, 2⟩] rfl rfl ⟨(.tupL ⟨(.aggL ⟨(.t _), (.own rfl (by decide) rfl rfl), (.os rfl), trivial⟩), (.t _), trivial⟩), trivial⟩ ⟨⟨rfl, .inl rfl⟩, ⟨rfl, .inl rfl⟩, ⟨rfl, .inl rfl⟩, ⟨rfl, .inl rfl⟩, trivial⟩ ?_; refine PL.frz hs 8 9 [(33, .tup [.agg [sL r6.1.first, sL r6.1.changes, sL r6.1.rows], bA r6.2])] [some ⟨.mx [sL r2.1.first, sL r2.1.changes, sL r2.1.rows], 27, 0⟩, some ⟨.mx [iA r2.2.kind, iA r2.2.at_, iA r2.2.column.kind, iA r2.2.column.default.kind, iA r2.2.column.default.num, sA r2.2.column.default.text], 66, 0⟩, none, none, none, some ⟨.mx [sL r4.1.first, sL r4.1.changes, sL r4.1.rows], 27, 0⟩, none, none, none] rfl rfl ⟨(.tupL ⟨(.aggL ⟨(.t _), (.t _), (.own rfl (by decide) rfl rfl), trivial⟩), (.t _), trivial⟩), trivial⟩ ⟨⟨rfl, .inl rfl⟩, ⟨rfl, .inl rfl⟩, ⟨rfl, .inl rfl⟩, trivial⟩ ?_; refine PL.nm (.tup [.agg [sL r6.1.first, sL r6.1.changes, sL r6.1.rows], bA r6.2]) [some ⟨.mx [sL r2.1.first, sL r2.1.changes, sL r2.1.rows], 27, 0⟩, some ⟨.mx [iA r2.2.kind, iA r2.2.at_, iA r2.2.column.kind, iA r2.2.column.default.kind, iA r2.2.column.default.num, sA r2.2.column.default.text], 66, 0⟩, none, none, none, some ⟨.mx [sL r4.1.first, sL r4.1.changes, sL r4.1.rows], 27, 0⟩, none, none, none] rfl rfl ?_; refine PL.op rfl (Rd.moveU rfl) ?_; (iterate 2 refine PL.op rfl (Rd.extract rfl rfl) ?_); refine PL.ef rfl (Ef.alloc rfl rfl) ?_; refine PL.nm (.op 9 0) [some ⟨.mx [sL r2.1.first, sL r2.1.changes, sL r2.1.rows], 27, 0⟩, some ⟨.mx [iA r2.2.kind, iA r2.2.at_, iA r2.2.column.kind, iA r2.2.column.default.kind, iA r2.2.column.default.num, sA r2.2.column.default.text], 66, 0⟩, none, none, none, some ⟨.mx [sL r4.1.first, sL r4.1.changes, sL r4.1.rows], 27, 0⟩, none, none, none, some ⟨.mx [.t (.v (.slice none 0 0)), .t (.v (.slice none 0 0)), .t (.v (.slice none 0 0))], 27, 0⟩] rfl rfl ?_; refine PL.store rfl rfl rfl rfl rfl rfl rfl ?_; refine PL.nO [some ⟨.mx [sL r2.1.first, sL r2.1.changes, sL r2.1.rows], 27, 0⟩, some ⟨.mx [iA r2.2.kind, iA r2.2.at_, iA r2.2.column.kind, iA r2.2.column.default.kind, iA r2.2.column.default.num, sA r2.2.column.default.text], 66, 0⟩, none, none, none, some ⟨.mx [sL r4.1.first, sL r4.1.changes, sL r4.1.rows], 27, 0⟩, none, none, none, some ⟨.mx [sL r6.1.first, sL r6.1.changes, sL r6.1.rows], 27, 0⟩] rfl ?_; refine PL.op rfl (Rd.asnT rfl) ?_; refine PL.nil ?_; refine thA_n ?_; (iterate 2 refine PC.seq ?_); obtain ⟨r8, h_9, hh0⟩ := bind_some hh0; rcases cond_some hh0 with ⟨h_10, hh0⟩ | ⟨h_10, hh0⟩; rotate_left
  · refine PC.region ?_; (iterate 2 refine PL.op rfl (Rd.loadBox rfl rfl rfl) ?_); refine PL.callM false [] (w_L_equalTable N r4.1 r6.1 r8 h_9) rfl Tryd.call34 rfl ⟨.aggL ⟨.t _, .t _, .t _, trivial⟩, .aggL ⟨.t _, .t _, .t _, trivial⟩, trivial⟩ rfl trivial (fun h => by cases h) ?_; refine PL.op rfl (Rd.unnot rfl) ?_; refine PL.op rfl (Rd.moveT rfl) ?_; (iterate 3 refine PL.guard_off rfl rfl (not_f h_10) ?_); refine PL.op rfl (Rd.pick_t rfl (not_f h_10)) ?_; refine PL.op rfl (Rd.moveT rfl) ?_; (iterate 2 refine PL.guard_off rfl rfl rfl ?_); refine PL.op rfl (Rd.pick_t rfl rfl) ?_; refine PL.nil ?_; refine thA_n ?_; refine PC.cond_true rfl rfl ?_; refine PC.seq ?_; obtain ⟨r74, h_75, hh0⟩ := bind_some hh0; rcases cond_some hh0 with ⟨h_76, hh0⟩ | ⟨h_76, hh0⟩; rotate_left
    · refine PC.region ?_; (iterate 2 refine PL.op rfl (Rd.loadBox rfl rfl rfl) ?_); refine PL.callM false [] (w_L_equalTable N r4.1 r6.1 r74 h_75) rfl Tryd.call34 rfl ⟨.aggL ⟨.t _, .t _, .t _, trivial⟩, .aggL ⟨.t _, .t _, .t _, trivial⟩, trivial⟩ rfl trivial (fun h => by cases h) ?_; refine PL.op rfl (Rd.moveT rfl) ?_; (iterate 3 refine PL.guard_off rfl rfl h_76 ?_); refine PL.op rfl (Rd.pick_f rfl h_76) ?_; refine PL.op rfl (Rd.asnT rfl) ?_; refine PL.nil ?_; refine thA_n ?_; refine PC.ret ?_; refine thA_r ?_; obtain rfl := some_in hh0; exact FinA.mk (r := bA false) (bl := []) [] (.inl rfl) rfl (rl := [.tmp 2]) (.tmp .nil) rfl rfl rfl (.t _) trivial ⟨rfl, rfl⟩
    refine PC.region ?_; (iterate 2 refine PL.op rfl (Rd.loadBox rfl rfl rfl) ?_); refine PL.callM false [] (w_L_equalTable N r4.1 r6.1 r74 h_75) rfl Tryd.call34 rfl ⟨.aggL ⟨.t _, .t _, .t _, trivial⟩, .aggL ⟨.t _, .t _, .t _, trivial⟩, trivial⟩ rfl trivial (fun h => by cases h) ?_; refine PL.op rfl (Rd.moveT rfl) ?_; refine PL.guard_on rfl h_76 ?_; refine PL.op rfl (Rd.moveT rfl) ?_; refine PL.guard_on rfl h_76 ?_; refine PL.op rfl (Rd.moveT rfl) ?_; refine PL.guard_on rfl h_76 ?_; refine PL.op rfl (Rd.eqlB rfl rfl) ?_; refine PL.op rfl (Rd.pick_t rfl h_76) ?_; refine PL.op rfl (Rd.asnT rfl) ?_; refine PL.nil ?_; refine thA_n ?_; refine PC.ret ?_; refine thA_r ?_; obtain rfl := some_in hh0; exact FinA.mk (r := bA (r4.2 == r6.2)) (bl := []) [] (.inl rfl) rfl (rl := [.tmp 2]) (.tmp .nil) rfl rfl rfl (.t _) trivial ⟨rfl, rfl⟩
  rcases cond_some hh0 with ⟨h_11, hh0⟩ | ⟨h_11, hh0⟩; rotate_left
  · refine PC.region ?_; (iterate 2 refine PL.op rfl (Rd.loadBox rfl rfl rfl) ?_); refine PL.callM false [] (w_L_equalTable N r4.1 r6.1 r8 h_9) rfl Tryd.call34 rfl ⟨.aggL ⟨.t _, .t _, .t _, trivial⟩, .aggL ⟨.t _, .t _, .t _, trivial⟩, trivial⟩ rfl trivial (fun h => by cases h) ?_; refine PL.op rfl (Rd.unnot rfl) ?_; refine PL.op rfl (Rd.moveT rfl) ?_; refine PL.guard_on rfl (not_t h_10) ?_; refine PL.op rfl (Rd.moveT rfl) ?_; refine PL.guard_on rfl (not_t h_10) ?_; refine PL.op rfl (Rd.moveT rfl) ?_; refine PL.guard_on rfl (not_t h_10) ?_; refine PL.op rfl (Rd.neqB rfl rfl) ?_; refine PL.op rfl (Rd.pick_f rfl (not_t h_10)) ?_; refine PL.op rfl (Rd.moveT rfl) ?_; (iterate 2 refine PL.guard_off rfl rfl (not_f h_11) ?_); refine PL.op rfl (Rd.pick_t rfl (not_f h_11)) ?_; refine PL.nil ?_; refine thA_n ?_; refine PC.cond_true rfl rfl ?_; refine PC.seq ?_; obtain ⟨r71, h_72, hh0⟩ := bind_some hh0; rcases cond_some hh0 with ⟨h_73, hh0⟩ | ⟨h_73, hh0⟩; rotate_left
    · refine PC.region ?_; (iterate 2 refine PL.op rfl (Rd.loadBox rfl rfl rfl) ?_); refine PL.callM false [] (w_L_equalTable N r4.1 r6.1 r71 h_72) rfl Tryd.call34 rfl ⟨.aggL ⟨.t _, .t _, .t _, trivial⟩, .aggL ⟨.t _, .t _, .t _, trivial⟩, trivial⟩ rfl trivial (fun h => by cases h) ?_; refine PL.op rfl (Rd.moveT rfl) ?_; (iterate 3 refine PL.guard_off rfl rfl h_73 ?_); refine PL.op rfl (Rd.pick_f rfl h_73) ?_; refine PL.op rfl (Rd.asnT rfl) ?_; refine PL.nil ?_; refine thA_n ?_; refine PC.ret ?_; refine thA_r ?_; obtain rfl := some_in hh0; exact FinA.mk (r := bA false) (bl := []) [] (.inl rfl) rfl (rl := [.tmp 2]) (.tmp .nil) rfl rfl rfl (.t _) trivial ⟨rfl, rfl⟩
    refine PC.region ?_; (iterate 2 refine PL.op rfl (Rd.loadBox rfl rfl rfl) ?_); refine PL.callM false [] (w_L_equalTable N r4.1 r6.1 r71 h_72) rfl Tryd.call34 rfl ⟨.aggL ⟨.t _, .t _, .t _, trivial⟩, .aggL ⟨.t _, .t _, .t _, trivial⟩, trivial⟩ rfl trivial (fun h => by cases h) ?_; refine PL.op rfl (Rd.moveT rfl) ?_; refine PL.guard_on rfl h_73 ?_; refine PL.op rfl (Rd.moveT rfl) ?_; refine PL.guard_on rfl h_73 ?_; refine PL.op rfl (Rd.moveT rfl) ?_; refine PL.guard_on rfl h_73 ?_; refine PL.op rfl (Rd.eqlB rfl rfl) ?_; refine PL.op rfl (Rd.pick_t rfl h_73) ?_; refine PL.op rfl (Rd.asnT rfl) ?_; refine PL.nil ?_; refine thA_n ?_; refine PC.ret ?_; refine thA_r ?_; obtain rfl := some_in hh0; exact FinA.mk (r := bA (r4.2 == r6.2)) (bl := []) [] (.inl rfl) rfl (rl := [.tmp 2]) (.tmp .nil) rfl rfl rfl (.t _) trivial ⟨rfl, rfl⟩
  refine PC.region ?_; (iterate 2 refine PL.op rfl (Rd.loadBox rfl rfl rfl) ?_); refine PL.callM false [] (w_L_equalTable N r4.1 r6.1 r8 h_9) rfl Tryd.call34 rfl ⟨.aggL ⟨.t _, .t _, .t _, trivial⟩, .aggL ⟨.t _, .t _, .t _, trivial⟩, trivial⟩ rfl trivial (fun h => by cases h) ?_; refine PL.op rfl (Rd.unnot rfl) ?_; refine PL.op rfl (Rd.moveT rfl) ?_; refine PL.guard_on rfl (not_t h_10) ?_; refine PL.op rfl (Rd.moveT rfl) ?_; refine PL.guard_on rfl (not_t h_10) ?_; refine PL.op rfl (Rd.moveT rfl) ?_; refine PL.guard_on rfl (not_t h_10) ?_; refine PL.op rfl (Rd.neqB rfl rfl) ?_; refine PL.op rfl (Rd.pick_f rfl (not_t h_10)) ?_; refine PL.op rfl (Rd.moveT rfl) ?_; refine PL.guard_on rfl (not_t h_11) ?_; refine PL.op rfl (Rd.moveT rfl) ?_; refine PL.guard_on rfl (not_t h_11) ?_; refine PL.op rfl (Rd.unnot rfl) ?_; refine PL.op rfl (Rd.pick_f rfl (not_t h_11)) ?_; refine PL.nil ?_; refine thA_n ?_; rcases cond_some hh0 with ⟨h_12, hh0⟩ | ⟨h_12, hh0⟩; rotate_left
  · refine PC.cond_true rfl (not_f h_12) ?_; refine PC.seq ?_; obtain ⟨r68, h_69, hh0⟩ := bind_some hh0; rcases cond_some hh0 with ⟨h_70, hh0⟩ | ⟨h_70, hh0⟩; rotate_left
    · refine PC.region ?_; (iterate 2 refine PL.op rfl (Rd.loadBox rfl rfl rfl) ?_); refine PL.callM false [] (w_L_equalTable N r4.1 r6.1 r68 h_69) rfl Tryd.call34 rfl ⟨.aggL ⟨.t _, .t _, .t _, trivial⟩, .aggL ⟨.t _, .t _, .t _, trivial⟩, trivial⟩ rfl trivial (fun h => by cases h) ?_; refine PL.op rfl (Rd.moveT rfl) ?_; (iterate 3 refine PL.guard_off rfl rfl h_70 ?_); refine PL.op rfl (Rd.pick_f rfl h_70) ?_; refine PL.op rfl (Rd.asnT rfl) ?_; refine PL.nil ?_; refine thA_n ?_; refine PC.ret ?_; refine thA_r ?_; obtain rfl := some_in hh0; exact FinA.mk (r := bA false) (bl := []) [] (.inl rfl) rfl (rl := [.tmp 2]) (.tmp .nil) rfl rfl rfl (.t _) trivial ⟨rfl, rfl⟩
    refine PC.region ?_; (iterate 2 refine PL.op rfl (Rd.loadBox rfl rfl rfl) ?_); refine PL.callM false [] (w_L_equalTable N r4.1 r6.1 r68 h_69) rfl Tryd.call34 rfl ⟨.aggL ⟨.t _, .t _, .t _, trivial⟩, .aggL ⟨.t _, .t _, .t _, trivial⟩, trivial⟩ rfl trivial (fun h => by cases h) ?_; refine PL.op rfl (Rd.moveT rfl) ?_; refine PL.guard_on rfl h_70 ?_; refine PL.op rfl (Rd.moveT rfl) ?_; refine PL.guard_on rfl h_70 ?_; refine PL.op rfl (Rd.moveT rfl) ?_; refine PL.guard_on rfl h_70 ?_; refine PL.op rfl (Rd.eqlB rfl rfl) ?_; refine PL.op rfl (Rd.pick_t rfl h_70) ?_; refine PL.op rfl (Rd.asnT rfl) ?_; refine PL.nil ?_; refine thA_n ?_; refine PC.ret ?_; refine thA_r ?_; obtain rfl := some_in hh0; exact FinA.mk (r := bA (r4.2 == r6.2)) (bl := []) [] (.inl rfl) rfl (rl := [.tmp 2]) (.tmp .nil) rfl rfl rfl (.t _) trivial ⟨rfl, rfl⟩
  refine PC.cond_false rfl (not_t h_12) ?_; refine PC.skip ?_; refine thA_n ?_; refine PC.seq ?_; obtain ⟨r13, h_14, hh0⟩ := bind_some hh0; refine PC.region ?_; refine PL.op rfl (Rd.fieldO rfl rfl) ?_; refine PL.op rfl (Rd.loadO rfl rfl rfl) ?_; refine PL.op rfl (Rd.fieldO rfl rfl) ?_; refine PL.op rfl (Rd.loadO rfl rfl rfl) ?_; refine PL.callM false [] (w_I_ChainOf N r2.1.first r2.1.changes r13 h_14) rfl Tryd.call29 rfl ⟨.t _, .t _, trivial⟩ rfl trivial (fun h => by cases h) ?_; refine PL.nm (.tup [.os 10 0 r13.1.length, bA r13.2]) [some ⟨.mx [sL r2.1.first, sL r2.1.changes, sL r2.1.rows], 27, 0⟩, some ⟨.mx [iA r2.2.kind, iA r2.2.at_, iA r2.2.column.kind, iA r2.2.column.default.kind, iA r2.2.column.default.num, sA r2.2.column.default.text], 66, 0⟩, none, none, none, some ⟨.mx [sL r4.1.first, sL r4.1.changes, sL r4.1.rows], 27, 0⟩, none, none, none, some ⟨.mx [sL r6.1.first, sL r6.1.changes, sL r6.1.rows], 27, 0⟩, some ⟨.tr (eL r13.1), 23, 1⟩] rfl rfl ?_; refine PL.frz hs 10 11 [(62, .tup [sL r13.1, bA r13.2])] [some ⟨.mx [sL r2.1.first, sL r2.1.changes, sL r2.1.rows], 27, 0⟩, some ⟨.mx [iA r2.2.kind, iA r2.2.at_, iA r2.2.column.kind, iA r2.2.column.default.kind, iA r2.2.column.default.num, sA r2.2.column.default.text], 66, 0⟩, none, none, none, some ⟨.mx [sL r4.1.first, sL r4.1.changes, sL r4.1.rows], 27, 0⟩, none, none, none, some ⟨.mx [sL r6.1.first, sL r6.1.changes, sL r6.1.rows], 27, 0⟩, none] rfl rfl ⟨(.tupL ⟨(.own rfl (by decide) rfl rfl), (.t _), trivial⟩), trivial⟩ ⟨⟨rfl, .inl rfl⟩, ⟨rfl, .inl rfl⟩, ⟨rfl, .inl rfl⟩, ⟨rfl, .inl rfl⟩, trivial⟩ ?_; refine PL.nm (.tup [sL r13.1, bA r13.2]) [some ⟨.mx [sL r2.1.first, sL r2.1.changes, sL r2.1.rows], 27, 0⟩, some ⟨.mx [iA r2.2.kind, iA r2.2.at_, iA r2.2.column.kind, iA r2.2.column.default.kind, iA r2.2.column.default.num, sA r2.2.column.default.text], 66, 0⟩, none, none, none, some ⟨.mx [sL r4.1.first, sL r4.1.changes, sL r4.1.rows], 27, 0⟩, none, none, none, some ⟨.mx [sL r6.1.first, sL r6.1.changes, sL r6.1.rows], 27, 0⟩, none] rfl rfl ?_; refine PL.op rfl (Rd.moveU rfl) ?_; (iterate 2 refine PL.op rfl (Rd.extract rfl rfl) ?_); (iterate 2 refine PL.op rfl (Rd.asnT rfl) ?_); refine PL.nil ?_; refine thA_n ?_; refine PC.seq ?_; obtain ⟨r15, h_16, hh0⟩ := bind_some hh0; refine PC.region ?_; refine PL.op rfl (Rd.loadBox rfl rfl rfl) ?_; refine PL.callM false [] (w_I_TableRows N r2.1 r15 h_16) rfl Tryd.call26 rfl ⟨.aggL ⟨.t _, .t _, .t _, trivial⟩, trivial⟩ rfl trivial (fun h => by cases h) ?_; refine PL.nm (.os 11 0 r15.length) [some ⟨.mx [sL r2.1.first, sL r2.1.changes, sL r2.1.rows], 27, 0⟩, some ⟨.mx [iA r2.2.kind, iA r2.2.at_, iA r2.2.column.kind, iA r2.2.column.default.kind, iA r2.2.column.default.num, sA r2.2.column.default.text], 66, 0⟩, none, none, none, some ⟨.mx [sL r4.1.first, sL r4.1.changes, sL r4.1.rows], 27, 0⟩, none, none, none, some ⟨.mx [sL r6.1.first, sL r6.1.changes, sL r6.1.rows], 27, 0⟩, none, some ⟨.tr (eL r15), 48, 1⟩] rfl rfl ?_; refine PL.frz hs 11 12 [(66, sL r15)] [some ⟨.mx [sL r2.1.first, sL r2.1.changes, sL r2.1.rows], 27, 0⟩, some ⟨.mx [iA r2.2.kind, iA r2.2.at_, iA r2.2.column.kind, iA r2.2.column.default.kind, iA r2.2.column.default.num, sA r2.2.column.default.text], 66, 0⟩, none, none, none, some ⟨.mx [sL r4.1.first, sL r4.1.changes, sL r4.1.rows], 27, 0⟩, none, none, none, some ⟨.mx [sL r6.1.first, sL r6.1.changes, sL r6.1.rows], 27, 0⟩, none, none] rfl rfl ⟨(.own rfl (by decide) rfl rfl), trivial⟩ ⟨⟨rfl, .inl rfl⟩, ⟨rfl, .inl rfl⟩, ⟨rfl, .inl rfl⟩, ⟨rfl, .inl rfl⟩, trivial⟩ ?_; refine PL.nm (sL r15) [some ⟨.mx [sL r2.1.first, sL r2.1.changes, sL r2.1.rows], 27, 0⟩, some ⟨.mx [iA r2.2.kind, iA r2.2.at_, iA r2.2.column.kind, iA r2.2.column.default.kind, iA r2.2.column.default.num, sA r2.2.column.default.text], 66, 0⟩, none, none, none, some ⟨.mx [sL r4.1.first, sL r4.1.changes, sL r4.1.rows], 27, 0⟩, none, none, none, some ⟨.mx [sL r6.1.first, sL r6.1.changes, sL r6.1.rows], 27, 0⟩, none, none] rfl rfl ?_; refine PL.op rfl (Rd.asnT rfl) ?_; refine PL.nil ?_; refine thA_n ?_; refine PC.seq ?_; obtain ⟨r17, h_18, hh0⟩ := bind_some hh0; refine PC.region ?_; refine PL.op rfl (Rd.loadBox rfl rfl rfl) ?_; refine PL.callM false [] (w_I_TableRows N r4.1 r17 h_18) rfl Tryd.call26 rfl ⟨.aggL ⟨.t _, .t _, .t _, trivial⟩, trivial⟩ rfl trivial (fun h => by cases h) ?_; refine PL.nm (.os 12 0 r17.length) [some ⟨.mx [sL r2.1.first, sL r2.1.changes, sL r2.1.rows], 27, 0⟩, some ⟨.mx [iA r2.2.kind, iA r2.2.at_, iA r2.2.column.kind, iA r2.2.column.default.kind, iA r2.2.column.default.num, sA r2.2.column.default.text], 66, 0⟩, none, none, none, some ⟨.mx [sL r4.1.first, sL r4.1.changes, sL r4.1.rows], 27, 0⟩, none, none, none, some ⟨.mx [sL r6.1.first, sL r6.1.changes, sL r6.1.rows], 27, 0⟩, none, none, some ⟨.tr (eL r17), 48, 1⟩] rfl rfl ?_; refine PL.frz hs 12 13 [(68, sL r17)] [some ⟨.mx [sL r2.1.first, sL r2.1.changes, sL r2.1.rows], 27, 0⟩, some ⟨.mx [iA r2.2.kind, iA r2.2.at_, iA r2.2.column.kind, iA r2.2.column.default.kind, iA r2.2.column.default.num, sA r2.2.column.default.text], 66, 0⟩, none, none, none, some ⟨.mx [sL r4.1.first, sL r4.1.changes, sL r4.1.rows], 27, 0⟩, none, none, none, some ⟨.mx [sL r6.1.first, sL r6.1.changes, sL r6.1.rows], 27, 0⟩, none, none, none] rfl rfl ⟨(.own rfl (by decide) rfl rfl), trivial⟩ ⟨⟨rfl, .inl rfl⟩, ⟨rfl, .inl rfl⟩, ⟨rfl, .inl rfl⟩, ⟨rfl, .inl rfl⟩, trivial⟩ ?_; refine PL.nm (sL r17) [some ⟨.mx [sL r2.1.first, sL r2.1.changes, sL r2.1.rows], 27, 0⟩, some ⟨.mx [iA r2.2.kind, iA r2.2.at_, iA r2.2.column.kind, iA r2.2.column.default.kind, iA r2.2.column.default.num, sA r2.2.column.default.text], 66, 0⟩, none, none, none, some ⟨.mx [sL r4.1.first, sL r4.1.changes, sL r4.1.rows], 27, 0⟩, none, none, none, some ⟨.mx [sL r6.1.first, sL r6.1.changes, sL r6.1.rows], 27, 0⟩, none, none, none] rfl rfl ?_; refine PL.op rfl (Rd.asnT rfl) ?_; refine PL.nil ?_; refine thA_n ?_; (iterate 2 refine PC.seq ?_); refine PC.region ?_; refine PL.op rfl (Rd.asnT rfl) ?_; refine PL.nil ?_; refine thA_n ?_; obtain ⟨o39, h_40, hh0⟩ := bind_some hh0; refine PC.cutE hs (fun x : Unit => [(3, .op 0 0), (5, .op 1 0)]) (fun x => [⟨.mx [sL r2.1.first, sL r2.1.changes, sL r2.1.rows], 27, 0⟩, ⟨.mx [sL r4.1.first, sL r4.1.changes, sL r4.1.rows], 27, 0⟩]) (fun x => m_L_FnAlterTable_k1 N r2 r4  = some r) ?_ ?_
  · refine PC.block ?_; refine PC.loop hs (fun x : Nat × (Int) => [(3, .op 0 0), (4, .op 1 0), (5, .op 2 0), (9, sL r13.1), (10, bA r13.2), (11, sL r15), (12, sL r17), (13, iA x.2)]) (fun x => [⟨.mx [sL r2.1.first, sL r2.1.changes, sL r2.1.rows], 27, 0⟩, ⟨.mx [iA r2.2.kind, iA r2.2.at_, iA r2.2.column.kind, iA r2.2.column.default.kind, iA r2.2.column.default.num, sA r2.2.column.default.text], 66, 0⟩, ⟨.mx [sL r4.1.first, sL r4.1.changes, sL r4.1.rows], 27, 0⟩]) (fun x => loopM (β := Unit ⊕ Bool) (fun s : Int => m_L_FnAlterTable_b1 N r2 r13 r15 r17 s) x.1 x.2 = some o39) (fun x => x.1) (N, (0 : Int)) [some 0, some 1, some 5] ⟨rfl, rfl, ⟨⟨_, rfl, rfl, rfl, .mx ⟨.t _, .t _, .t _, trivial⟩⟩, ⟨_, rfl, rfl, rfl, .mx ⟨.t _, .t _, .t _, .t _, .t _, .t _, trivial⟩⟩, ⟨_, rfl, rfl, rfl, .mx ⟨.t _, .t _, .t _, trivial⟩⟩, trivial⟩, ⟨.op rfl, .op rfl, .op rfl, .t _, .t _, .t _, .t _, .t _, trivial⟩⟩ h_40 ?_
    rintro ⟨f41_, r19⟩ h_43
    obtain ⟨f41, y42, rfl, hh1, kk1⟩ := loopM_some h_43
    replace hh1 : m_L_FnAlterTable_b1 N r2 r13 r15 r17 r19 = some y42 := hh1
    unfold m_L_FnAlterTable_b1 at hh1; (iterate 2 refine PC.seq ?_); refine PC.region ?_; (iterate 2 refine PL.op rfl (Rd.moveT rfl) ?_); refine PL.op rfl (Rd.lenT rfl) ?_; refine PL.op rfl (Rd.lss rfl rfl) ?_; refine PL.nil ?_; refine thA_n ?_; rcases cond_some hh1 with ⟨h_49, hh1⟩ | ⟨h_49, hh1⟩; rotate_left
    · refine PC.cond_false rfl h_49 ?_; refine PC.exit ?_; (iterate 2 refine thA_e ?_); refine inA_eq rfl ?_; refine thA_n ?_; obtain rfl := some_in hh1; obtain rfl : (.inl () : Unit ⊕ Bool) = o39 := kk1; exact ⟨(), hh0, [some 0, some 2], ⟨rfl, rfl, ⟨⟨_, rfl, rfl, rfl, .mx ⟨.t _, .t _, .t _, trivial⟩⟩, ⟨_, rfl, rfl, rfl, .mx ⟨.t _, .t _, .t _, trivial⟩⟩, trivial⟩, ⟨.op rfl, .op rfl, trivial⟩⟩⟩
    refine PC.cond_true rfl h_49 ?_; refine PC.skip ?_; refine thA_n ?_; refine PC.seq ?_; refine PC.block ?_; (iterate 2 refine PC.seq ?_); rcases cond_some hh1 with ⟨h_50, hh1⟩ | ⟨h_50, hh1⟩; rotate_left
    · refine PC.region ?_; refine PL.op rfl (Rd.moveT rfl) ?_; refine PL.op rfl (Rd.unnot rfl) ?_; refine PL.op rfl (Rd.moveT rfl) ?_; (iterate 4 refine PL.guard_off rfl rfl (not_f h_50) ?_); refine PL.op rfl (Rd.pick_t rfl (not_f h_50)) ?_; refine PL.nil ?_; refine thA_n ?_; refine PC.cond_true rfl rfl ?_; refine PC.seq ?_; refine PC.region ?_; refine PL.op rfl (Rd.asnT rfl) ?_; refine PL.nil ?_; refine thA_n ?_; refine PC.ret ?_; refine thA_r ?_; refine inA_r ?_; (iterate 2 refine thA_r ?_); refine inA_r ?_; refine thA_r ?_; obtain rfl := some_in hh1; obtain rfl : (.inr false : Unit ⊕ Bool) = o39 := kk1; refine thA_r ?_; obtain rfl := some_in hh0; exact FinA.mk (r := bA false) (bl := []) [] (.inl rfl) rfl (rl := [.tmp 2]) (.tmp .nil) rfl rfl rfl (.t _) trivial ⟨rfl, rfl⟩
    refine PC.region ?_; refine PL.op rfl (Rd.moveT rfl) ?_; refine PL.op rfl (Rd.unnot rfl) ?_; refine PL.op rfl (Rd.moveT rfl) ?_; refine PL.guard_on rfl (not_t h_50) ?_; refine PL.op rfl (Rd.moveT rfl) ?_; refine PL.guard_on rfl (not_t h_50) ?_; refine PL.op rfl (Rd.moveT rfl) ?_; refine PL.guard_on rfl (not_t h_50) ?_; refine PL.op rfl (Rd.lenT rfl) ?_; refine PL.guard_on rfl (not_t h_50) ?_; refine PL.op rfl (Rd.geq rfl rfl) ?_; refine PL.op rfl (Rd.pick_f rfl (not_t h_50)) ?_; refine PL.nil ?_; refine thA_n ?_; rcases cond_some hh1 with ⟨h_51, hh1⟩ | ⟨h_51, hh1⟩
    · refine PC.cond_true rfl h_51 ?_; refine PC.seq ?_; refine PC.region ?_; refine PL.op rfl (Rd.asnT rfl) ?_; refine PL.nil ?_; refine thA_n ?_; refine PC.ret ?_; refine thA_r ?_; refine inA_r ?_; (iterate 2 refine thA_r ?_); refine inA_r ?_; refine thA_r ?_; obtain rfl := some_in hh1; obtain rfl : (.inr false : Unit ⊕ Bool) = o39 := kk1; refine thA_r ?_; obtain rfl := some_in hh0; exact FinA.mk (r := bA false) (bl := []) [] (.inl rfl) rfl (rl := [.tmp 2]) (.tmp .nil) rfl rfl rfl (.t _) trivial ⟨rfl, rfl⟩
    refine PC.cond_false rfl h_51 ?_; refine PC.skip ?_; refine thA_n ?_; refine PC.seq ?_; obtain ⟨n52, h_53, hh1⟩ := bind_some hh1; obtain ⟨x54, h_55, hh1⟩ := bind_some hh1; obtain ⟨x56, h_57, hh1⟩ := bind_some hh1; obtain ⟨r58, h_59, hh1⟩ := bind_some hh1; refine PC.any (id := 16) 17 (.seg [0, 1, 2, 3, 4, 5, 6, 7, 8, 9, 10, 11, 12, 13, 14, 15, 16] .done) [] rfl (by kernel_rfl) rfl ?_; refine PT.seg ?_; (iterate 2 refine PR.op rfl (Rd.moveT rfl) ?_); refine PR.op rfl (Rd.lenT rfl) ?_; refine PR.op rfl (Rd.subM rfl rfl h_53) ?_; refine PR.op rfl (Rd.ixM rfl rfl h_55) ?_; refine PR.op rfl (Rd.elM1 rfl h_55 rfl rfl) ?_; (iterate 2 refine PR.op rfl (Rd.moveT rfl) ?_); refine PR.op rfl (Rd.ixM rfl rfl h_57) ?_; refine PR.op rfl (Rd.elM1 rfl h_57 rfl rfl) ?_; refine PR.op rfl (Rd.loadBox rfl rfl rfl) ?_; refine PR.callM false [] (w_I_ChangeRow N x54 x56 r2.2 r58 h_59) rfl Tryd.call42 rfl ⟨.t _, .t _, .aggL ⟨.t _, .t _, .t _, .t _, .t _, .t _, trivial⟩, trivial⟩ rfl trivial (fun h => by cases h) rfl ?_; refine PR.nm (.tup [.os 3 0 r58.1.length, bA r58.2]) [some ⟨.mx [sL r2.1.first, sL r2.1.changes, sL r2.1.rows], 27, 0⟩, some ⟨.mx [iA r2.2.kind, iA r2.2.at_, iA r2.2.column.kind, iA r2.2.column.default.kind, iA r2.2.column.default.num, sA r2.2.column.default.text], 66, 0⟩, some ⟨.mx [sL r4.1.first, sL r4.1.changes, sL r4.1.rows], 27, 0⟩, some ⟨.tr (eL r58.1), 62, 3⟩] rfl rfl ?_; refine PR.frz hs 3 4 [(95, .tup [sL r58.1, bA r58.2])] [some ⟨.mx [sL r2.1.first, sL r2.1.changes, sL r2.1.rows], 27, 0⟩, some ⟨.mx [iA r2.2.kind, iA r2.2.at_, iA r2.2.column.kind, iA r2.2.column.default.kind, iA r2.2.column.default.num, sA r2.2.column.default.text], 66, 0⟩, some ⟨.mx [sL r4.1.first, sL r4.1.changes, sL r4.1.rows], 27, 0⟩, none] rfl rfl rfl ⟨(.tupL ⟨(.own rfl (by decide) rfl rfl), (.t _), trivial⟩), trivial⟩ ⟨⟨rfl, .inl rfl⟩, ⟨rfl, .inl rfl⟩, ⟨rfl, .inl rfl⟩, trivial⟩ ?_; refine PR.nm (.tup [sL r58.1, bA r58.2]) [some ⟨.mx [sL r2.1.first, sL r2.1.changes, sL r2.1.rows], 27, 0⟩, some ⟨.mx [iA r2.2.kind, iA r2.2.at_, iA r2.2.column.kind, iA r2.2.column.default.kind, iA r2.2.column.default.num, sA r2.2.column.default.text], 66, 0⟩, some ⟨.mx [sL r4.1.first, sL r4.1.changes, sL r4.1.rows], 27, 0⟩, none] rfl rfl ?_; refine PR.op rfl (Rd.moveU rfl) ?_; (iterate 2 refine PR.op rfl (Rd.extract rfl rfl) ?_); (iterate 2 refine PR.op rfl (Rd.asnT rfl) ?_); refine PR.nil ?_; refine PT.done ?_; refine PL.nil ?_; refine thA_n ?_; refine PC.seq ?_; rcases cond_some hh1 with ⟨h_60, hh1⟩ | ⟨h_60, hh1⟩; rotate_left
    · refine PC.region ?_; refine PL.op rfl (Rd.moveT rfl) ?_; refine PL.op rfl (Rd.unnot rfl) ?_; refine PL.op rfl (Rd.moveT rfl) ?_; (iterate 7 refine PL.guard_off rfl rfl (not_f h_60) ?_); refine PL.op rfl (Rd.pick_t rfl (not_f h_60)) ?_; refine PL.nil ?_; refine thA_n ?_; refine PC.cond_true rfl rfl ?_; refine PC.seq ?_; refine PC.region ?_; refine PL.op rfl (Rd.asnT rfl) ?_; refine PL.nil ?_; refine thA_n ?_; refine PC.ret ?_; refine inA_r ?_; (iterate 2 refine thA_r ?_); refine inA_r ?_; refine thA_r ?_; obtain rfl := some_in hh1; obtain rfl : (.inr false : Unit ⊕ Bool) = o39 := kk1; refine thA_r ?_; obtain rfl := some_in hh0; exact FinA.mk (r := bA false) (bl := []) [] (.inl rfl) rfl (rl := [.tmp 2]) (.tmp .nil) rfl rfl rfl (.t _) trivial ⟨rfl, rfl⟩
    obtain ⟨x61, h_62, hh1⟩ := bind_some hh1; obtain ⟨r63, h_64, hh1⟩ := bind_some hh1; refine PC.region ?_; refine PL.op rfl (Rd.moveT rfl) ?_; refine PL.op rfl (Rd.unnot rfl) ?_; refine PL.op rfl (Rd.moveT rfl) ?_; refine PL.guard_on rfl (not_t h_60) ?_; refine PL.op rfl (Rd.moveT rfl) ?_; refine PL.guard_on rfl (not_t h_60) ?_; refine PL.op rfl (Rd.moveT rfl) ?_; refine PL.guard_on rfl (not_t h_60) ?_; refine PL.op rfl (Rd.moveT rfl) ?_; refine PL.guard_on rfl (not_t h_60) ?_; refine PL.op rfl (Rd.ixM rfl rfl h_62) ?_; refine PL.guard_on rfl (not_t h_60) ?_; refine PL.op rfl (Rd.elM1 rfl h_62 rfl rfl) ?_; refine PL.guard_on rfl (not_t h_60) ?_; refine PL.callM false [] (w_L_equalRow N r58.1 x61 r63 h_64) rfl Tryd.call31 rfl ⟨.t _, .t _, trivial⟩ rfl trivial (fun h => by cases h) ?_; refine PL.guard_on rfl (not_t h_60) ?_; refine PL.op rfl (Rd.unnot rfl) ?_; refine PL.op rfl (Rd.pick_f rfl (not_t h_60)) ?_; refine PL.nil ?_; refine thA_n ?_; rcases cond_some hh1 with ⟨h_65, hh1⟩ | ⟨h_65, hh1⟩; rotate_left
    · refine PC.cond_true rfl (not_f h_65) ?_; refine PC.seq ?_; refine PC.region ?_; refine PL.op rfl (Rd.asnT rfl) ?_; refine PL.nil ?_; refine thA_n ?_; refine PC.ret ?_; refine inA_r ?_; (iterate 2 refine thA_r ?_); refine inA_r ?_; refine thA_r ?_; obtain rfl := some_in hh1; obtain rfl : (.inr false : Unit ⊕ Bool) = o39 := kk1; refine thA_r ?_; obtain rfl := some_in hh0; exact FinA.mk (r := bA false) (bl := []) [] (.inl rfl) rfl (rl := [.tmp 2]) (.tmp .nil) rfl rfl rfl (.t _) trivial ⟨rfl, rfl⟩
    refine PC.cond_false rfl (not_t h_65) ?_; refine PC.skip ?_; refine inA_n ?_; refine thA_n ?_; obtain ⟨n66, h_67, hh1⟩ := bind_some hh1; refine PC.region ?_; refine PL.op rfl (Rd.moveT rfl) ?_; refine PL.op rfl (Rd.addM rfl rfl h_67) ?_; refine PL.op rfl (Rd.asnT rfl) ?_; refine PL.nil ?_; obtain rfl := some_in hh1; refine thA_n ?_; exact ⟨(f41, n66), Nat.lt_succ_self _, kk1, [some 0, some 1, some 2], ⟨rfl, rfl, ⟨⟨_, rfl, rfl, rfl, .mx ⟨.t _, .t _, .t _, trivial⟩⟩, ⟨_, rfl, rfl, rfl, .mx ⟨.t _, .t _, .t _, .t _, .t _, .t _, trivial⟩⟩, ⟨_, rfl, rfl, rfl, .mx ⟨.t _, .t _, .t _, trivial⟩⟩, trivial⟩, ⟨.op rfl, .op rfl, .op rfl, .t _, .t _, .t _, .t _, .t _, trivial⟩⟩⟩
  clear hh0
  rintro ⟨⟩ hh0
  replace hh0 : m_L_FnAlterTable_k1 N r2 r4  = some r := hh0
  unfold m_L_FnAlterTable_k1 at hh0; refine thA_n ?_; refine PC.seq ?_; obtain ⟨r44, h_45, hh0⟩ := bind_some hh0; rcases cond_some hh0 with ⟨h_46, hh0⟩ | ⟨h_46, hh0⟩; rotate_left
  · refine PC.any (id := 19) 14 (.seg [0, 1, 2, 3, 4, 5, 8, 9, 10, 6, 7, 11, 12, 13] .done) [] rfl (by kernel_rfl) rfl ?_; refine PT.seg ?_; refine PR.op rfl (Rd.fieldO rfl rfl) ?_; refine PR.op rfl (Rd.loadO rfl rfl rfl) ?_; refine PR.op rfl (Rd.fieldO rfl rfl) ?_; refine PR.op rfl (Rd.loadO rfl rfl rfl) ?_; refine PR.callM false [] (w_L_equalTagged N r4.1.rows r2.1.rows r44 h_45) rfl Tryd.call43 rfl ⟨.t _, .t _, trivial⟩ rfl trivial (fun h => by cases h) rfl ?_; refine PR.op rfl (Rd.moveT rfl) ?_; (iterate 6 refine PR.guard_off rfl rfl h_46 ?_); refine PR.op rfl (Rd.pick_f rfl h_46) ?_; refine PR.op rfl (Rd.asnT rfl) ?_; refine PR.nil ?_; refine PT.done ?_; refine PL.nil ?_; refine thA_n ?_; refine PC.ret ?_; obtain rfl := some_in hh0; exact FinA.mk (r := bA false) (bl := []) [] (.inl rfl) rfl (rl := [.tmp 2]) (.tmp .nil) rfl rfl rfl (.t _) trivial ⟨rfl, rfl⟩
  obtain ⟨r47, h_48, hh0⟩ := bind_some hh0; refine PC.any (id := 19) 14 (.seg [0, 1, 2, 3, 4, 5, 8, 9, 10, 6, 7, 11, 12, 13] .done) [] rfl (by kernel_rfl) rfl ?_; refine PT.seg ?_; refine PR.op rfl (Rd.fieldO rfl rfl) ?_; refine PR.op rfl (Rd.loadO rfl rfl rfl) ?_; refine PR.op rfl (Rd.fieldO rfl rfl) ?_; refine PR.op rfl (Rd.loadO rfl rfl rfl) ?_; refine PR.callM false [] (w_L_equalTagged N r4.1.rows r2.1.rows r44 h_45) rfl Tryd.call43 rfl ⟨.t _, .t _, trivial⟩ rfl trivial (fun h => by cases h) rfl ?_; refine PR.op rfl (Rd.moveT rfl) ?_; refine PR.guard_on rfl rfl h_46 ?_; refine PR.op rfl (Rd.fieldO rfl rfl) ?_; refine PR.guard_on rfl rfl h_46 ?_; refine PR.op rfl (Rd.loadO rfl rfl rfl) ?_; refine PR.guard_on rfl rfl h_46 ?_; refine PR.op rfl (Rd.lenT rfl) ?_; refine PR.guard_on rfl rfl h_46 ?_; refine PR.rdE rfl rfl (Rd.loadBox rfl rfl rfl) ?_; refine PR.guard_on rfl rfl h_46 ?_; refine PR.callM false [] (w_I_OldRows N r4.1 r47 h_48) rfl Tryd.call19 rfl ⟨.aggL ⟨.t _, .t _, .t _, trivial⟩, trivial⟩ rfl trivial (fun h => by cases h) rfl ?_; refine PR.guard_on rfl rfl h_46 ?_; refine PR.op rfl (Rd.eql rfl rfl) ?_; refine PR.op rfl (Rd.pick_t rfl h_46) ?_; refine PR.op rfl (Rd.asnT rfl) ?_; refine PR.nil ?_; refine PT.done ?_; refine PL.nil ?_; refine thA_n ?_; refine PC.ret ?_; obtain rfl := some_in hh0; exact FinA.mk (r := bA (decide (r47 = (r2.1.rows.length : Int)))) (bl := []) [] (.inl rfl) rfl (rl := [.tmp 2]) (.tmp .nil) rfl rfl rfl (.t _) trivial ⟨rfl, rfl⟩
def m_L_FnInsertRow (N : Nat) (p_code : (List UInt8)) : Option (Bool) :=
  cond (decide ((1048576 : Int) < (p_code.length : Int)))
    (some true)
    ((m_S_DrawInsertRow N p_code).bind fun r2 =>
    (m_I_InsertRow N r2.1 r2.2).bind fun r4 =>
    (m_S_InsertRow N r2.1 r2.2).bind fun r6 =>
    (m_L_equalTable N r4.1 r6.1).bind fun r8 =>
    cond r8
      (cond (r4.2 == r6.2)
        (cond r4.2
          ((m_I_TableRows N r2.1).bind fun r13 =>
          (appM 24 ([] : List (List I_Value)) r13).bind fun xs15 =>
          (appM 24 xs15 [r2.2]).bind fun xs17 =>
          (m_I_TableRows N r4.1).bind fun r19 =>
          (m_L_equalRows N r19 xs17).bind fun r21 =>
          cond r21
            ((m_I_OldRows N r4.1).bind fun r24 =>
            (m_I_OldRows N r2.1).bind fun r26 =>
            cond (decide (r24 = r26))
              ((m_I_ValidTable N r4.1).bind fun r29 =>
              some r29)
              (some false))
            (some false))
          ((m_L_equalTable N r4.1 r6.1).bind fun r31 =>
          cond r31
            (some (r4.2 == r6.2))
            (some false)))
        ((m_L_equalTable N r4.1 r6.1).bind fun r34 =>
        cond r34
          (some (r4.2 == r6.2))
          (some false)))
      ((m_L_equalTable N r4.1 r6.1).bind fun r37 =>
      cond r37
        (some (r4.2 == r6.2))
        (some false)))
theorem w_L_FnInsertRow (N : Nat) (p_code : (List UInt8)) (r : Bool) (hh0 : m_L_FnInsertRow N p_code = some r) : FnX Tryd.prog 11 [] [sL p_code] (RE (bA r) []) := by
  unfold m_L_FnInsertRow at hh0; refine FnX.mk Tryd.func11 rfl rfl ?_; intro s hs; refine PC.seq ?_; refine PC.region ?_; refine PL.op rfl (Rd.asnT rfl) ?_; refine PL.nil ?_; refine thA_n ?_; (iterate 2 refine PC.seq ?_); refine PC.region ?_; refine PL.op rfl (Rd.moveT rfl) ?_; refine PL.op rfl (Rd.lenT rfl) ?_; refine PL.op rfl (Rd.gtr rfl rfl) ?_; refine PL.nil ?_; refine thA_n ?_; rcases cond_some hh0 with ⟨h_1, hh0⟩ | ⟨h_1, hh0⟩
  · refine PC.cond_true rfl h_1 ?_; refine PC.seq ?_; refine PC.region ?_; refine PL.op rfl (Rd.asnT rfl) ?_; refine PL.nil ?_; refine thA_n ?_; refine PC.ret ?_; refine thA_r ?_; obtain rfl := some_in hh0; exact FinA.mk (r := bA true) (bl := []) [] (.inl rfl) rfl (rl := [.tmp 2]) (.tmp .nil) rfl rfl rfl (.t _) trivial ⟨rfl, rfl⟩
  refine PC.cond_false rfl h_1 ?_; refine PC.skip ?_; refine thA_n ?_; refine PC.seq ?_; obtain ⟨r2, h_3, hh0⟩ := bind_some hh0; refine PC.region ?_; refine PL.op rfl (Rd.moveT rfl) ?_; refine PL.callM false [] (w_S_DrawInsertRow N p_code r2 h_3) rfl Tryd.call36 rfl ⟨.t _, trivial⟩ rfl trivial (fun h => by cases h) ?_; refine PL.nm (.tup [.agg [sL r2.1.first, sL r2.1.changes, sL r2.1.rows], .os 0 0 r2.2.length]) [some ⟨.tr (eL r2.2), 62, 3⟩] rfl rfl ?_; refine PL.frz hs 0 1 [(15, .tup [.agg [sL r2.1.first, sL r2.1.changes, sL r2.1.rows], sL r2.2])] [none] rfl rfl ⟨(.tupL ⟨(.aggL ⟨(.t _), (.t _), (.t _), trivial⟩), (.own rfl (by decide) rfl rfl), trivial⟩), trivial⟩ trivial ?_; refine PL.nm (.tup [.agg [sL r2.1.first, sL r2.1.changes, sL r2.1.rows], sL r2.2]) [none] rfl rfl ?_; refine PL.op rfl (Rd.moveU rfl) ?_; (iterate 2 refine PL.op rfl (Rd.extract rfl rfl) ?_); refine PL.ef rfl (Ef.alloc rfl rfl) ?_; refine PL.nm (.op 1 0) [none, some ⟨.mx [.t (.v (.slice none 0 0)), .t (.v (.slice none 0 0)), .t (.v (.slice none 0 0))], 27, 0⟩] rfl rfl ?_; refine PL.store rfl rfl rfl rfl rfl rfl rfl ?_; refine PL.nO [none, some ⟨.mx [sL r2.1.first, sL r2.1.changes, sL r2.1.rows], 27, 0⟩] rfl ?_; refine PL.op rfl (Rd.asnT rfl) ?_; refine PL.nil ?_; refine thA_n ?_; refine PC.seq ?_; obtain ⟨r4, h_5, hh0⟩ := bind_some hh0; refine PC.region ?_; refine PL.op rfl (Rd.loadBox rfl rfl rfl) ?_; refine PL.op rfl (Rd.moveT rfl) ?_; refine PL.callM false [] (w_I_InsertRow N r2.1 r2.2 r4 h_5) rfl Tryd.call37 rfl ⟨.aggL ⟨.t _, .t _, .t _, trivial⟩, .t _, trivial⟩ rfl trivial (fun h => by cases h) ?_; refine PL.nm (.tup [.agg [.os 2 0 r4.1.first.length, .os 3 0 r4.1.changes.length, .os 4 0 r4.1.rows.length], bA r4.2]) [none, some ⟨.mx [sL r2.1.first, sL r2.1.changes, sL r2.1.rows], 27, 0⟩, some ⟨.tr (eL r4.1.first), 64, 4⟩, some ⟨.tr (eL r4.1.changes), 66, 6⟩, some ⟨.tr (eL r4.1.rows), 52, 2⟩] rfl rfl ?_; refine PL.frz hs 2 5 [(21, .tup [.agg [sL r4.1.first, .os 3 0 r4.1.changes.length, .os 4 0 r4.1.rows.length], bA r4.2])] [none, some ⟨.mx [sL r2.1.first, sL r2.1.changes, sL r2.1.rows], 27, 0⟩, none, some ⟨.tr (eL r4.1.changes), 66, 6⟩, some ⟨.tr (eL r4.1.rows), 52, 2⟩] rfl rfl ⟨(.tupL ⟨(.aggL ⟨(.own rfl (by decide) rfl rfl), (.os rfl), (.os rfl), trivial⟩), (.t _), trivial⟩), trivial⟩ ⟨⟨rfl, .inl rfl⟩, ⟨rfl, .inl rfl⟩, ⟨rfl, .inl rfl⟩, trivial⟩ ?_; refine PL.frz hs 3 5 [(21, .tup [.agg [sL r4.1.first, sL r4.1.changes, .os 4 0 r4.1.rows.length], bA r4.2])] [none, some ⟨.mx [sL r2.1.first, sL r2.1.changes, sL r2.1.rows], 27, 0⟩, none, none, some ⟨.tr (eL r4.1.rows), 52, 2⟩] rfl rfl ⟨(.tupL ⟨(.aggL ⟨(.t _), (.own rfl (by decide) rfl rfl), (.os rfl), trivial⟩), (.t _), trivial⟩), trivial⟩ ⟨⟨rfl, .inl rfl⟩, ⟨rfl, .inl rfl⟩, trivial⟩ ?_; refine PL.frz hs 4 5 [(21, .tup [.agg [sL r4.1.first, sL r4.1.changes, sL r4.1.rows], bA r4.2])] [none, some ⟨.mx [sL r2.1.first, sL r2.1.changes, sL r2.1.rows], 27, 0⟩, none, none, none] rfl rfl ⟨(.tupL ⟨(.aggL ⟨(.t _), (.t _), (.own rfl (by decide) rfl rfl), trivial⟩), (.t _), trivial⟩), trivial⟩ ⟨⟨rfl, .inl rfl⟩, trivial⟩ ?_; refine PL.nm (.tup [.agg [sL r4.1.first, sL r4.1.changes, sL r4.1.rows], bA r4.2]) [none, some ⟨.mx [sL r2.1.first, sL r2.1.changes, sL r2.1.rows], 27, 0⟩, none, none, none] rfl rfl ?_; refine PL.op rfl (Rd.moveU rfl) ?_; (iterate 2 refine PL.op rfl (Rd.extract rfl rfl) ?_); refine PL.ef rfl (Ef.alloc rfl rfl) ?_; refine PL.nm (.op 5 0) [none, some ⟨.mx [sL r2.1.first, sL r2.1.changes, sL r2.1.rows], 27, 0⟩, none, none, none, some ⟨.mx [.t (.v (.slice none 0 0)), .t (.v (.slice none 0 0)), .t (.v (.slice none 0 0))], 27, 0⟩] rfl rfl ?_; refine PL.store rfl rfl rfl rfl rfl rfl rfl ?_; refine PL.nO [none, some ⟨.mx [sL r2.1.first, sL r2.1.changes, sL r2.1.rows], 27, 0⟩, none, none, none, some ⟨.mx [sL r4.1.first, sL r4.1.changes, sL r4.1.rows], 27, 0⟩] rfl ?_; refine PL.op rfl (Rd.asnT rfl) ?_; refine PL.nil ?_; refine thA_n ?_; refine PC.seq ?_; obtain ⟨r6, h_7, hh0⟩ := bind_some hh0; refine PC.region ?_; refine PL.op rfl (Rd.loadBox rfl rfl rfl) ?_; refine PL.op rfl (Rd.moveT rfl) ?_; refine PL.callM false [] (w_S_InsertRow N r2.1 r2.2 r6 h_7) rfl Tryd.call38 rfl ⟨.aggL ⟨.t _, .t _, .t _, trivial⟩, .t _, trivial⟩ rfl trivial (fun h => by cases h) ?_; refine PL.nm (.tup [.agg [.os 6 0 r6.1.first.length, .os 7 0 r6.1.changes.length, .os 8 0 r6.1.rows.length], bA r6.2]) [none, some ⟨.mx [sL r2.1.first, sL r2.1.changes, sL r2.1.rows], 27, 0⟩, none, none, none, some ⟨.mx [sL r4.1.first, sL r4.1.changes, sL r4.1.rows], 27, 0⟩, some ⟨.tr (eL r6.1.first), 64, 4⟩, some ⟨.tr (eL r6.1.changes), 66, 6⟩, some ⟨.tr (eL r6.1.rows), 52, 2⟩] rfl rfl ?_; refine PL.frz hs 6 9 [(27, .tup [.agg [sL r6.1.first, .os 7 0 r6.1.changes.length, .os 8 0 r6.1.rows.length], bA r6.2])] [none, some ⟨.mx [sL r2.1.first, sL r2.1.changes, sL r2.1.rows], 27, 0⟩, none, none, none, some ⟨.mx [sL r4.1.first, sL r4.1.changes, sL r4.1.rows], 27, 0⟩, none, some ⟨.tr (eL r6.1.changes), 66, 6⟩, some ⟨.tr (eL r6.1.rows), 52, 2⟩] rfl rfl ⟨(.tupL ⟨(.aggL ⟨(.own rfl (by decide) rfl rfl), (.os rfl), (.os rfl), trivial⟩), (.t _), trivial⟩), trivial⟩ ⟨⟨rfl, .inl rfl⟩, ⟨rfl, .inl rfl⟩, ⟨rfl, .inl rfl⟩, ⟨rfl, .inl rfl⟩, trivial⟩ ?_; refine PL.frz hs 7 9 [(27, .tup [.agg [sL r6.1.first, sL r6.1.changes, .os 8 0 r6.1.rows.length], bA r6.2])] [none, some ⟨.mx [sL r2.1.first, sL r2.1.changes, sL r2.1.rows], 27, 0⟩, none, none, none, some ⟨.mx [sL r4.1.first, sL r4.1.changes, sL r4.1.rows], 27, 0⟩, none, none, some ⟨.tr (eL r6.1.rows), 52, 2⟩] rfl rfl ⟨(.tupL ⟨(.aggL ⟨(.t _), (.own rfl (by decide) rfl rfl), (.os rfl), trivial⟩), (.t _), trivial⟩), trivial⟩ ⟨⟨rfl, .inl rfl⟩, ⟨rfl, .inl rfl⟩, ⟨rfl, .inl rfl⟩, trivial⟩ ?_; refine PL.frz hs 8 9 [(27, .tup [.agg [sL r6.1.first, sL r6.1.changes, sL r6.1.rows], bA r6.2])] [none, some ⟨.mx [sL r2.1.first, sL r2.1.changes, sL r2.1.rows], 27, 0⟩, none, none, none, some ⟨.mx [sL r4.1.first, sL r4.1.changes, sL r4.1.rows], 27, 0⟩, none, none, none] rfl rfl ⟨(.tupL ⟨(.aggL ⟨(.t _), (.t _), (.own rfl (by decide) rfl rfl), trivial⟩), (.t _), trivial⟩), trivial⟩ ⟨⟨rfl, .inl rfl⟩, ⟨rfl, .inl rfl⟩, trivial⟩ ?_; refine PL.nm (.tup [.agg [sL r6.1.first, sL r6.1.changes, sL r6.1.rows], bA r6.2]) [none, some ⟨.mx [sL r2.1.first, sL r2.1.changes, sL r2.1.rows], 27, 0⟩, none, none, none, some ⟨.mx [sL r4.1.first, sL r4.1.changes, sL r4.1.rows], 27, 0⟩, none, none, none] rfl rfl ?_; refine PL.op rfl (Rd.moveU rfl) ?_; (iterate 2 refine PL.op rfl (Rd.extract rfl rfl) ?_); refine PL.ef rfl (Ef.alloc rfl rfl) ?_; refine PL.nm (.op 9 0) [none, some ⟨.mx [sL r2.1.first, sL r2.1.changes, sL r2.1.rows], 27, 0⟩, none, none, none, some ⟨.mx [sL r4.1.first, sL r4.1.changes, sL r4.1.rows], 27, 0⟩, none, none, none, some ⟨.mx [.t (.v (.slice none 0 0)), .t (.v (.slice none 0 0)), .t (.v (.slice none 0 0))], 27, 0⟩] rfl rfl ?_; refine PL.store rfl rfl rfl rfl rfl rfl rfl ?_; refine PL.nO [none, some ⟨.mx [sL r2.1.first, sL r2.1.changes, sL r2.1.rows], 27, 0⟩, none, none, none, some ⟨.mx [sL r4.1.first, sL r4.1.changes, sL r4.1.rows], 27, 0⟩, none, none, none, some ⟨.mx [sL r6.1.first, sL r6.1.changes, sL r6.1.rows], 27, 0⟩] rfl ?_; refine PL.op rfl (Rd.asnT rfl) ?_; refine PL.nil ?_; refine thA_n ?_; (iterate 2 refine PC.seq ?_); obtain ⟨r8, h_9, hh0⟩ := bind_some hh0; rcases cond_some hh0 with ⟨h_10, hh0⟩ | ⟨h_10, hh0⟩; rotate_left
  · refine PC.region ?_; (iterate 2 refine PL.op rfl (Rd.loadBox rfl rfl rfl) ?_); refine PL.callM false [] (w_L_equalTable N r4.1 r6.1 r8 h_9) rfl Tryd.call34 rfl ⟨.aggL ⟨.t _, .t _, .t _, trivial⟩, .aggL ⟨.t _, .t _, .t _, trivial⟩, trivial⟩ rfl trivial (fun h => by cases h) ?_; refine PL.op rfl (Rd.unnot rfl) ?_; refine PL.op rfl (Rd.moveT rfl) ?_; (iterate 3 refine PL.guard_off rfl rfl (not_f h_10) ?_); refine PL.op rfl (Rd.pick_t rfl (not_f h_10)) ?_; refine PL.op rfl (Rd.moveT rfl) ?_; (iterate 2 refine PL.guard_off rfl rfl rfl ?_); refine PL.op rfl (Rd.pick_t rfl rfl) ?_; refine PL.nil ?_; refine thA_n ?_; refine PC.cond_true rfl rfl ?_; refine PC.seq ?_; obtain ⟨r37, h_38, hh0⟩ := bind_some hh0; rcases cond_some hh0 with ⟨h_39, hh0⟩ | ⟨h_39, hh0⟩; rotate_left
    · refine PC.region ?_; (iterate 2 refine PL.op rfl (Rd.loadBox rfl rfl rfl) ?_); refine PL.callM false [] (w_L_equalTable N r4.1 r6.1 r37 h_38) rfl Tryd.call34 rfl ⟨.aggL ⟨.t _, .t _, .t _, trivial⟩, .aggL ⟨.t _, .t _, .t _, trivial⟩, trivial⟩ rfl trivial (fun h => by cases h) ?_; refine PL.op rfl (Rd.moveT rfl) ?_; (iterate 3 refine PL.guard_off rfl rfl h_39 ?_); refine PL.op rfl (Rd.pick_f rfl h_39) ?_; refine PL.op rfl (Rd.asnT rfl) ?_; refine PL.nil ?_; refine thA_n ?_; refine PC.ret ?_; refine thA_r ?_; obtain rfl := some_in hh0; exact FinA.mk (r := bA false) (bl := []) [] (.inl rfl) rfl (rl := [.tmp 2]) (.tmp .nil) rfl rfl rfl (.t _) trivial ⟨rfl, rfl⟩
    refine PC.region ?_; (iterate 2 refine PL.op rfl (Rd.loadBox rfl rfl rfl) ?_); refine PL.callM false [] (w_L_equalTable N r4.1 r6.1 r37 h_38) rfl Tryd.call34 rfl ⟨.aggL ⟨.t _, .t _, .t _, trivial⟩, .aggL ⟨.t _, .t _, .t _, trivial⟩, trivial⟩ rfl trivial (fun h => by cases h) ?_; refine PL.op rfl (Rd.moveT rfl) ?_; refine PL.guard_on rfl h_39 ?_; refine PL.op rfl (Rd.moveT rfl) ?_; refine PL.guard_on rfl h_39 ?_; refine PL.op rfl (Rd.moveT rfl) ?_; refine PL.guard_on rfl h_39 ?_; refine PL.op rfl (Rd.eqlB rfl rfl) ?_; refine PL.op rfl (Rd.pick_t rfl h_39) ?_; refine PL.op rfl (Rd.asnT rfl) ?_; refine PL.nil ?_; refine thA_n ?_; refine PC.ret ?_; refine thA_r ?_; obtain rfl := some_in hh0; exact FinA.mk (r := bA (r4.2 == r6.2)) (bl := []) [] (.inl rfl) rfl (rl := [.tmp 2]) (.tmp .nil) rfl rfl rfl (.t _) trivial ⟨rfl, rfl⟩
  rcases cond_some hh0 with ⟨h_11, hh0⟩ | ⟨h_11, hh0⟩; rotate_left
  · refine PC.region ?_; (iterate 2 refine PL.op rfl (Rd.loadBox rfl rfl rfl) ?_); refine PL.callM false [] (w_L_equalTable N r4.1 r6.1 r8 h_9) rfl Tryd.call34 rfl ⟨.aggL ⟨.t _, .t _, .t _, trivial⟩, .aggL ⟨.t _, .t _, .t _, trivial⟩, trivial⟩ rfl trivial (fun h => by cases h) ?_; refine PL.op rfl (Rd.unnot rfl) ?_; refine PL.op rfl (Rd.moveT rfl) ?_; refine PL.guard_on rfl (not_t h_10) ?_; refine PL.op rfl (Rd.moveT rfl) ?_; refine PL.guard_on rfl (not_t h_10) ?_; refine PL.op rfl (Rd.moveT rfl) ?_; refine PL.guard_on rfl (not_t h_10) ?_; refine PL.op rfl (Rd.neqB rfl rfl) ?_; refine PL.op rfl (Rd.pick_f rfl (not_t h_10)) ?_; refine PL.op rfl (Rd.moveT rfl) ?_; (iterate 2 refine PL.guard_off rfl rfl (not_f h_11) ?_); refine PL.op rfl (Rd.pick_t rfl (not_f h_11)) ?_; refine PL.nil ?_; refine thA_n ?_; refine PC.cond_true rfl rfl ?_; refine PC.seq ?_; obtain ⟨r34, h_35, hh0⟩ := bind_some hh0; rcases cond_some hh0 with ⟨h_36, hh0⟩ | ⟨h_36, hh0⟩; rotate_left
    · refine PC.region ?_; (iterate 2 refine PL.op rfl (Rd.loadBox rfl rfl rfl) ?_); refine PL.callM false [] (w_L_equalTable N r4.1 r6.1 r34 h_35) rfl Tryd.call34 rfl ⟨.aggL ⟨.t _, .t _, .t _, trivial⟩, .aggL ⟨.t _, .t _, .t _, trivial⟩, trivial⟩ rfl trivial (fun h => by cases h) ?_; refine PL.op rfl (Rd.moveT rfl) ?_; (iterate 3 refine PL.guard_off rfl rfl h_36 ?_); refine PL.op rfl (Rd.pick_f rfl h_36) ?_; refine PL.op rfl (Rd.asnT rfl) ?_; refine PL.nil ?_; refine thA_n ?_; refine PC.ret ?_; refine thA_r ?_; obtain rfl := some_in hh0; exact FinA.mk (r := bA false) (bl := []) [] (.inl rfl) rfl (rl := [.tmp 2]) (.tmp .nil) rfl rfl rfl (.t _) trivial ⟨rfl, rfl⟩
    refine PC.region ?_; (iterate 2 refine PL.op rfl (Rd.loadBox rfl rfl rfl) ?_); refine PL.callM false [] (w_L_equalTable N r4.1 r6.1 r34 h_35) rfl Tryd.call34 rfl ⟨.aggL ⟨.t _, .t _, .t _, trivial⟩, .aggL ⟨.t _, .t _, .t _, trivial⟩, trivial⟩ rfl trivial (fun h => by cases h) ?_; refine PL.op rfl (Rd.moveT rfl) ?_; refine PL.guard_on rfl h_36 ?_; refine PL.op rfl (Rd.moveT rfl) ?_; refine PL.guard_on rfl h_36 ?_; refine PL.op rfl (Rd.moveT rfl) ?_; refine PL.guard_on rfl h_36 ?_; refine PL.op rfl (Rd.eqlB rfl rfl) ?_; refine PL.op rfl (Rd.pick_t rfl h_36) ?_; refine PL.op rfl (Rd.asnT rfl) ?_; refine PL.nil ?_; refine thA_n ?_; refine PC.ret ?_; refine thA_r ?_; obtain rfl := some_in hh0; exact FinA.mk (r := bA (r4.2 == r6.2)) (bl := []) [] (.inl rfl) rfl (rl := [.tmp 2]) (.tmp .nil) rfl rfl rfl (.t _) trivial ⟨rfl, rfl⟩
  refine PC.region ?_; (iterate 2 refine PL.op rfl (Rd.loadBox rfl rfl rfl) ?_); refine PL.callM false [] (w_L_equalTable N r4.1 r6.1 r8 h_9) rfl Tryd.call34 rfl ⟨.aggL ⟨.t _, .t _, .t _, trivial⟩, .aggL ⟨.t _, .t _, .t _, trivial⟩, trivial⟩ rfl trivial (fun h => by cases h) ?_; refine PL.op rfl (Rd.unnot rfl) ?_; refine PL.op rfl (Rd.moveT rfl) ?_; refine PL.guard_on rfl (not_t h_10) ?_; refine PL.op rfl (Rd.moveT rfl) ?_; refine PL.guard_on rfl (not_t h_10) ?_; refine PL.op rfl (Rd.moveT rfl) ?_; refine PL.guard_on rfl (not_t h_10) ?_; refine PL.op rfl (Rd.neqB rfl rfl) ?_; refine PL.op rfl (Rd.pick_f rfl (not_t h_10)) ?_; refine PL.op rfl (Rd.moveT rfl) ?_; refine PL.guard_on rfl (not_t h_11) ?_; refine PL.op rfl (Rd.moveT rfl) ?_; refine PL.guard_on rfl (not_t h_11) ?_; refine PL.op rfl (Rd.unnot rfl) ?_; refine PL.op rfl (Rd.pick_f rfl (not_t h_11)) ?_; refine PL.nil ?_; refine thA_n ?_; rcases cond_some hh0 with ⟨h_12, hh0⟩ | ⟨h_12, hh0⟩; rotate_left
  · refine PC.cond_true rfl (not_f h_12) ?_; refine PC.seq ?_; obtain ⟨r31, h_32, hh0⟩ := bind_some hh0; rcases cond_some hh0 with ⟨h_33, hh0⟩ | ⟨h_33, hh0⟩; rotate_left
    · refine PC.region ?_; (iterate 2 refine PL.op rfl (Rd.loadBox rfl rfl rfl) ?_); refine PL.callM false [] (w_L_equalTable N r4.1 r6.1 r31 h_32) rfl Tryd.call34 rfl ⟨.aggL ⟨.t _, .t _, .t _, trivial⟩, .aggL ⟨.t _, .t _, .t _, trivial⟩, trivial⟩ rfl trivial (fun h => by cases h) ?_; refine PL.op rfl (Rd.moveT rfl) ?_; (iterate 3 refine PL.guard_off rfl rfl h_33 ?_); refine PL.op rfl (Rd.pick_f rfl h_33) ?_; refine PL.op rfl (Rd.asnT rfl) ?_; refine PL.nil ?_; refine thA_n ?_; refine PC.ret ?_; refine thA_r ?_; obtain rfl := some_in hh0; exact FinA.mk (r := bA false) (bl := []) [] (.inl rfl) rfl (rl := [.tmp 2]) (.tmp .nil) rfl rfl rfl (.t _) trivial ⟨rfl, rfl⟩
    refine PC.region ?_; (iterate 2 refine PL.op rfl (Rd.loadBox rfl rfl rfl) ?_); refine PL.callM false [] (w_L_equalTable N r4.1 r6.1 r31 h_32) rfl Tryd.call34 rfl ⟨.aggL ⟨.t _, .t _, .t _, trivial⟩, .aggL ⟨.t _, .t _, .t _, trivial⟩, trivial⟩ rfl trivial (fun h => by cases h) ?_; refine PL.op rfl (Rd.moveT rfl) ?_; refine PL.guard_on rfl h_33 ?_; refine PL.op rfl (Rd.moveT rfl) ?_; refine PL.guard_on rfl h_33 ?_; refine PL.op rfl (Rd.moveT rfl) ?_; refine PL.guard_on rfl h_33 ?_; refine PL.op rfl (Rd.eqlB rfl rfl) ?_; refine PL.op rfl (Rd.pick_t rfl h_33) ?_; refine PL.op rfl (Rd.asnT rfl) ?_; refine PL.nil ?_; refine thA_n ?_; refine PC.ret ?_; refine thA_r ?_; obtain rfl := some_in hh0; exact FinA.mk (r := bA (r4.2 == r6.2)) (bl := []) [] (.inl rfl) rfl (rl := [.tmp 2]) (.tmp .nil) rfl rfl rfl (.t _) trivial ⟨rfl, rfl⟩
  refine PC.cond_false rfl (not_t h_12) ?_; refine PC.skip ?_; refine thA_n ?_; refine PC.seq ?_; obtain ⟨r13, h_14, hh0⟩ := bind_some hh0; obtain ⟨xs15, h_16, hh0⟩ := bind_some hh0; obtain ⟨xs17, h_18, hh0⟩ := bind_some hh0; refine PC.region ?_; refine PL.ef rfl (Ef.lit0M (List I_Value)) ?_; refine PL.nm (.os 10 0 0) [none, some ⟨.mx [sL r2.1.first, sL r2.1.changes, sL r2.1.rows], 27, 0⟩, none, none, none, some ⟨.mx [sL r4.1.first, sL r4.1.changes, sL r4.1.rows], 27, 0⟩, none, none, none, some ⟨.mx [sL r6.1.first, sL r6.1.changes, sL r6.1.rows], 27, 0⟩, some ⟨.tr (eL ([] : List (List I_Value))), 48, 1⟩] rfl rfl ?_; refine PL.op rfl (Rd.loadBox rfl rfl rfl) ?_; refine PL.callM false [] (w_I_TableRows N r2.1 r13 h_14) rfl Tryd.call26 rfl ⟨.aggL ⟨.t _, .t _, .t _, trivial⟩, trivial⟩ rfl trivial (fun h => by cases h) ?_; refine PL.nm (.os 11 0 r13.length) [none, some ⟨.mx [sL r2.1.first, sL r2.1.changes, sL r2.1.rows], 27, 0⟩, none, none, none, some ⟨.mx [sL r4.1.first, sL r4.1.changes, sL r4.1.rows], 27, 0⟩, none, none, none, some ⟨.mx [sL r6.1.first, sL r6.1.changes, sL r6.1.rows], 27, 0⟩, some ⟨.tr (eL ([] : List (List I_Value))), 48, 1⟩, some ⟨.tr (eL r13), 48, 1⟩] rfl rfl ?_; refine PL.apM hs rfl rfl rfl rfl (SrcA.ownE rfl rfl rfl) rfl rfl rfl rfl h_16 ?_; refine PL.nm (.os 12 0 xs15.length) [none, some ⟨.mx [sL r2.1.first, sL r2.1.changes, sL r2.1.rows], 27, 0⟩, none, none, none, some ⟨.mx [sL r4.1.first, sL r4.1.changes, sL r4.1.rows], 27, 0⟩, none, none, none, some ⟨.mx [sL r6.1.first, sL r6.1.changes, sL r6.1.rows], 27, 0⟩, none, some ⟨.tr (eL r13), 48, 1⟩, some ⟨.tr (eL xs15), 48, 1⟩] rfl rfl ?_; refine PL.op rfl (Rd.moveT rfl) ?_; refine PL.ef rfl (Ef.litM (α := (List I_Value)) [r2.2] [_] rfl rfl (by decide) rfl rfl rfl rfl) ?_; refine PL.nm (.os 13 0 1) [none, some ⟨.mx [sL r2.1.first, sL r2.1.changes, sL r2.1.rows], 27, 0⟩, none, none, none, some ⟨.mx [sL r4.1.first, sL r4.1.changes, sL r4.1.rows], 27, 0⟩, none, none, none, some ⟨.mx [sL r6.1.first, sL r6.1.changes, sL r6.1.rows], 27, 0⟩, none, some ⟨.tr (eL r13), 48, 1⟩, some ⟨.tr (eL xs15), 48, 1⟩, some ⟨.tr (eL [r2.2]), 48, 1⟩] rfl rfl ?_; refine PL.apM hs rfl rfl rfl rfl (SrcA.ownE rfl rfl rfl) rfl rfl rfl rfl h_18 ?_; refine PL.nm (.os 14 0 xs17.length) [none, some ⟨.mx [sL r2.1.first, sL r2.1.changes, sL r2.1.rows], 27, 0⟩, none, none, none, some ⟨.mx [sL r4.1.first, sL r4.1.changes, sL r4.1.rows], 27, 0⟩, none, none, none, some ⟨.mx [sL r6.1.first, sL r6.1.changes, sL r6.1.rows], 27, 0⟩, none, some ⟨.tr (eL r13), 48, 1⟩, none, some ⟨.tr (eL [r2.2]), 48, 1⟩, some ⟨.tr (eL xs17), 48, 1⟩] rfl rfl ?_; refine PL.op rfl (Rd.asnO rfl) ?_; refine PL.nil ?_; refine thA_n ?_; obtain ⟨r19, h_20, hh0⟩ := bind_some hh0; obtain ⟨r21, h_22, hh0⟩ := bind_some hh0; rcases cond_some hh0 with ⟨h_23, hh0⟩ | ⟨h_23, hh0⟩; rotate_left
  · refine PC.cut hs (fun _ : Unit => [(2, bA false)]) (fun _ => []) (fun _ => True) ?_ ?_
    · refine PC.any (id := 9) 16 (.seg [2, 0, 1, 3, 4] (.fork (.seg [5] (.fork (.seg [6, 7, 8, 9, 10, 11, 12, 13, 14, 15] .done) (.seg [7, 6, 8, 9, 10, 11, 12, 13, 14, 15] .done))) (.seg [7, 5, 6, 8, 9, 10, 11, 12, 13, 14, 15] .done))) [] rfl (by kernel_rfl) rfl ?_; refine PT.seg ?_; refine PR.op rfl (Rd.moveO rfl) ?_; refine PR.rdE rfl rfl (Rd.loadBox rfl rfl rfl) ?_; refine PR.callM false [] (w_I_TableRows N r4.1 r19 h_20) rfl Tryd.call26 rfl ⟨.aggL ⟨.t _, .t _, .t _, trivial⟩, trivial⟩ rfl trivial (fun h => by cases h) rfl ?_; refine PR.nm (.os 15 0 r19.length) [none, some ⟨.mx [sL r2.1.first, sL r2.1.changes, sL r2.1.rows], 27, 0⟩, none, none, none, some ⟨.mx [sL r4.1.first, sL r4.1.changes, sL r4.1.rows], 27, 0⟩, none, none, none, some ⟨.mx [sL r6.1.first, sL r6.1.changes, sL r6.1.rows], 27, 0⟩, none, some ⟨.tr (eL r13), 48, 1⟩, none, some ⟨.tr (eL [r2.2]), 48, 1⟩, some ⟨.tr (eL xs17), 48, 1⟩, some ⟨.tr (eL r19), 48, 1⟩] rfl rfl ?_; refine PR.frz hs 15 16 [(59, sL r19)] [none, some ⟨.mx [sL r2.1.first, sL r2.1.changes, sL r2.1.rows], 27, 0⟩, none, none, none, some ⟨.mx [sL r4.1.first, sL r4.1.changes, sL r4.1.rows], 27, 0⟩, none, none, none, some ⟨.mx [sL r6.1.first, sL r6.1.changes, sL r6.1.rows], 27, 0⟩, none, some ⟨.tr (eL r13), 48, 1⟩, none, some ⟨.tr (eL [r2.2]), 48, 1⟩, some ⟨.tr (eL xs17), 48, 1⟩, none] rfl rfl rfl ⟨(.own rfl (by decide) rfl rfl), trivial⟩ ⟨⟨rfl, .inl rfl⟩, ⟨rfl, .inl rfl⟩, ⟨rfl, .inl rfl⟩, ⟨rfl, .inl rfl⟩, ⟨rfl, .inl rfl⟩, ⟨rfl, .inl rfl⟩, trivial⟩ ?_; refine PR.nm (sL r19) [none, some ⟨.mx [sL r2.1.first, sL r2.1.changes, sL r2.1.rows], 27, 0⟩, none, none, none, some ⟨.mx [sL r4.1.first, sL r4.1.changes, sL r4.1.rows], 27, 0⟩, none, none, none, some ⟨.mx [sL r6.1.first, sL r6.1.changes, sL r6.1.rows], 27, 0⟩, none, some ⟨.tr (eL r13), 48, 1⟩, none, some ⟨.tr (eL [r2.2]), 48, 1⟩, some ⟨.tr (eL xs17), 48, 1⟩, none] rfl rfl ?_; refine PR.callM true [] (w_L_equalRows N r19 xs17 r21 h_22) rfl Tryd.call27 rfl ⟨.t _, .own rfl (by first | decide | exact List.not_mem_nil) rfl rfl, trivial⟩ rfl trivial (fun _ => ⟨trivial, flat_nil⟩) rfl ?_; refine PR.op rfl (Rd.moveT rfl) ?_; refine PR.nil ?_; refine PT.fork ?_ ?_; rotate_left
      · refine PT.seg ?_; (iterate 5 refine PR.guard_off rfl rfl h_23 ?_); refine PR.op rfl (Rd.pick_f rfl h_23) ?_; refine PR.op rfl (Rd.moveT rfl) ?_; (iterate 2 refine PR.guard_off rfl rfl rfl ?_); refine PR.op rfl (Rd.pick_f rfl rfl) ?_; refine PR.op rfl (Rd.asnT rfl) ?_; refine PR.nil ?_; refine PT.done ?_; refine PL.nil ?_; refine thA_n ?_; exact ⟨(), trivial, [], ⟨rfl, rfl, trivial, ⟨.t _, trivial⟩⟩⟩
      refine PT.seg ?_; refine PR.guard_off rfl rfl h_23 ?_; refine PR.nil ?_; refine PT.fork ?_ ?_
      · refine PT.seg ?_; (iterate 4 refine PR.guard_off rfl rfl h_23 ?_); refine PR.op rfl (Rd.pick_f rfl h_23) ?_; refine PR.op rfl (Rd.moveT rfl) ?_; (iterate 2 refine PR.guard_off rfl rfl rfl ?_); refine PR.op rfl (Rd.pick_f rfl rfl) ?_; refine PR.op rfl (Rd.asnT rfl) ?_; refine PR.nil ?_; refine PT.done ?_; refine PL.nil ?_; refine thA_n ?_; exact ⟨(), trivial, [], ⟨rfl, rfl, trivial, ⟨.t _, trivial⟩⟩⟩
      refine PT.seg ?_; (iterate 4 refine PR.guard_off rfl rfl h_23 ?_); refine PR.op rfl (Rd.pick_f rfl h_23) ?_; refine PR.op rfl (Rd.moveT rfl) ?_; (iterate 2 refine PR.guard_off rfl rfl rfl ?_); refine PR.op rfl (Rd.pick_f rfl rfl) ?_; refine PR.op rfl (Rd.asnT rfl) ?_; refine PR.nil ?_; refine PT.done ?_; refine PL.nil ?_; refine thA_n ?_; exact ⟨(), trivial, [], ⟨rfl, rfl, trivial, ⟨.t _, trivial⟩⟩⟩
    rintro ⟨⟩ -
    refine PC.ret ?_; obtain rfl := some_in hh0; exact FinA.mk (r := bA false) (bl := []) [] (.inl rfl) rfl (rl := [.tmp 2]) (.tmp .nil) rfl rfl rfl (.t _) trivial ⟨rfl, rfl⟩
  obtain ⟨r24, h_25, hh0⟩ := bind_some hh0; obtain ⟨r26, h_27, hh0⟩ := bind_some hh0; rcases cond_some hh0 with ⟨h_28, hh0⟩ | ⟨h_28, hh0⟩; rotate_left
  · refine PC.cut hs (fun _ : Unit => [(2, bA false)]) (fun _ => []) (fun _ => True) ?_ ?_
    · refine PC.any (id := 9) 16 (.seg [2, 0, 1, 3, 4] (.fork (.seg [5] (.fork (.seg [6, 7, 8, 9, 10, 11, 12, 13, 14, 15] .done) (.seg [7, 6, 8, 9, 10, 11, 12, 13, 14, 15] .done))) (.seg [7, 5, 6, 8, 9, 10, 11, 12, 13, 14, 15] .done))) [] rfl (by kernel_rfl) rfl ?_; refine PT.seg ?_; refine PR.op rfl (Rd.moveO rfl) ?_; refine PR.rdE rfl rfl (Rd.loadBox rfl rfl rfl) ?_; refine PR.callM false [] (w_I_TableRows N r4.1 r19 h_20) rfl Tryd.call26 rfl ⟨.aggL ⟨.t _, .t _, .t _, trivial⟩, trivial⟩ rfl trivial (fun h => by cases h) rfl ?_; refine PR.nm (.os 15 0 r19.length) [none, some ⟨.mx [sL r2.1.first, sL r2.1.changes, sL r2.1.rows], 27, 0⟩, none, none, none, some ⟨.mx [sL r4.1.first, sL r4.1.changes, sL r4.1.rows], 27, 0⟩, none, none, none, some ⟨.mx [sL r6.1.first, sL r6.1.changes, sL r6.1.rows], 27, 0⟩, none, some ⟨.tr (eL r13), 48, 1⟩, none, some ⟨.tr (eL [r2.2]), 48, 1⟩, some ⟨.tr (eL xs17), 48, 1⟩, some ⟨.tr (eL r19), 48, 1⟩] rfl rfl ?_; refine PR.frz hs 15 16 [(59, sL r19)] [none, some ⟨.mx [sL r2.1.first, sL r2.1.changes, sL r2.1.rows], 27, 0⟩, none, none, none, some ⟨.mx [sL r4.1.first, sL r4.1.changes, sL r4.1.rows], 27, 0⟩, none, none, none, some ⟨.mx [sL r6.1.first, sL r6.1.changes, sL r6.1.rows], 27, 0⟩, none, some ⟨.tr (eL r13), 48, 1⟩, none, some ⟨.tr (eL [r2.2]), 48, 1⟩, some ⟨.tr (eL xs17), 48, 1⟩, none] rfl rfl rfl ⟨(.own rfl (by decide) rfl rfl), trivial⟩ ⟨⟨rfl, .inl rfl⟩, ⟨rfl, .inl rfl⟩, ⟨rfl, .inl rfl⟩, ⟨rfl, .inl rfl⟩, ⟨rfl, .inl rfl⟩, ⟨rfl, .inl rfl⟩, trivial⟩ ?_; refine PR.nm (sL r19) [none, some ⟨.mx [sL r2.1.first, sL r2.1.changes, sL r2.1.rows], 27, 0⟩, none, none, none, some ⟨.mx [sL r4.1.first, sL r4.1.changes, sL r4.1.rows], 27, 0⟩, none, none, none, some ⟨.mx [sL r6.1.first, sL r6.1.changes, sL r6.1.rows], 27, 0⟩, none, some ⟨.tr (eL r13), 48, 1⟩, none, some ⟨.tr (eL [r2.2]), 48, 1⟩, some ⟨.tr (eL xs17), 48, 1⟩, none] rfl rfl ?_; refine PR.callM true [] (w_L_equalRows N r19 xs17 r21 h_22) rfl Tryd.call27 rfl ⟨.t _, .own rfl (by first | decide | exact List.not_mem_nil) rfl rfl, trivial⟩ rfl trivial (fun _ => ⟨trivial, flat_nil⟩) rfl ?_; refine PR.op rfl (Rd.moveT rfl) ?_; refine PR.nil ?_; refine PT.fork ?_ ?_; rotate_left
      · refine PT.seg ?_; refine PR.guard_on rfl rfl h_23 ?_; refine PR.rdE rfl rfl (Rd.loadBox rfl rfl rfl) ?_; refine PR.guard_on rfl rfl h_23 ?_; refine PR.rdE rfl rfl (Rd.loadBox rfl rfl rfl) ?_; refine PR.guard_on rfl rfl h_23 ?_; refine PR.callM false [] (w_I_OldRows N r4.1 r24 h_25) rfl Tryd.call19 rfl ⟨.aggL ⟨.t _, .t _, .t _, trivial⟩, trivial⟩ rfl trivial (fun h => by cases h) rfl ?_; refine PR.guard_on rfl rfl h_23 ?_; refine PR.callM false [] (w_I_OldRows N r2.1 r26 h_27) rfl Tryd.call19 rfl ⟨.aggL ⟨.t _, .t _, .t _, trivial⟩, trivial⟩ rfl trivial (fun h => by cases h) rfl ?_; refine PR.guard_on rfl rfl h_23 ?_; refine PR.op rfl (Rd.eql rfl rfl) ?_; refine PR.op rfl (Rd.pick_t rfl h_23) ?_; refine PR.op rfl (Rd.moveT rfl) ?_; (iterate 2 refine PR.guard_off rfl rfl h_28 ?_); refine PR.op rfl (Rd.pick_f rfl h_28) ?_; refine PR.op rfl (Rd.asnT rfl) ?_; refine PR.nil ?_; refine PT.done ?_; refine PL.nil ?_; refine thA_n ?_; exact ⟨(), trivial, [], ⟨rfl, rfl, trivial, ⟨.t _, trivial⟩⟩⟩
      refine PT.seg ?_; refine PR.guard_on rfl rfl h_23 ?_; refine PR.rdE rfl rfl (Rd.loadBox rfl rfl rfl) ?_; refine PR.nil ?_; refine PT.fork ?_ ?_
      · refine PT.seg ?_; refine PR.guard_on rfl rfl h_23 ?_; refine PR.callM false [] (w_I_OldRows N r4.1 r24 h_25) rfl Tryd.call19 rfl ⟨.aggL ⟨.t _, .t _, .t _, trivial⟩, trivial⟩ rfl trivial (fun h => by cases h) rfl ?_; refine PR.guard_on rfl rfl h_23 ?_; refine PR.rdE rfl rfl (Rd.loadBox rfl rfl rfl) ?_; refine PR.guard_on rfl rfl h_23 ?_; refine PR.callM false [] (w_I_OldRows N r2.1 r26 h_27) rfl Tryd.call19 rfl ⟨.aggL ⟨.t _, .t _, .t _, trivial⟩, trivial⟩ rfl trivial (fun h => by cases h) rfl ?_; refine PR.guard_on rfl rfl h_23 ?_; refine PR.op rfl (Rd.eql rfl rfl) ?_; refine PR.op rfl (Rd.pick_t rfl h_23) ?_; refine PR.op rfl (Rd.moveT rfl) ?_; (iterate 2 refine PR.guard_off rfl rfl h_28 ?_); refine PR.op rfl (Rd.pick_f rfl h_28) ?_; refine PR.op rfl (Rd.asnT rfl) ?_; refine PR.nil ?_; refine PT.done ?_; refine PL.nil ?_; refine thA_n ?_; exact ⟨(), trivial, [], ⟨rfl, rfl, trivial, ⟨.t _, trivial⟩⟩⟩
      refine PT.seg ?_; refine PR.guard_on rfl rfl h_23 ?_; refine PR.rdE rfl rfl (Rd.loadBox rfl rfl rfl) ?_; refine PR.guard_on rfl rfl h_23 ?_; refine PR.callM false [] (w_I_OldRows N r4.1 r24 h_25) rfl Tryd.call19 rfl ⟨.aggL ⟨.t _, .t _, .t _, trivial⟩, trivial⟩ rfl trivial (fun h => by cases h) rfl ?_; refine PR.guard_on rfl rfl h_23 ?_; refine PR.callM false [] (w_I_OldRows N r2.1 r26 h_27) rfl Tryd.call19 rfl ⟨.aggL ⟨.t _, .t _, .t _, trivial⟩, trivial⟩ rfl trivial (fun h => by cases h) rfl ?_; refine PR.guard_on rfl rfl h_23 ?_; refine PR.op rfl (Rd.eql rfl rfl) ?_; refine PR.op rfl (Rd.pick_t rfl h_23) ?_; refine PR.op rfl (Rd.moveT rfl) ?_; (iterate 2 refine PR.guard_off rfl rfl h_28 ?_); refine PR.op rfl (Rd.pick_f rfl h_28) ?_; refine PR.op rfl (Rd.asnT rfl) ?_; refine PR.nil ?_; refine PT.done ?_; refine PL.nil ?_; refine thA_n ?_; exact ⟨(), trivial, [], ⟨rfl, rfl, trivial, ⟨.t _, trivial⟩⟩⟩
    rintro ⟨⟩ -
    refine PC.ret ?_; obtain rfl := some_in hh0; exact FinA.mk (r := bA false) (bl := []) [] (.inl rfl) rfl (rl := [.tmp 2]) (.tmp .nil) rfl rfl rfl (.t _) trivial ⟨rfl, rfl⟩
  obtain ⟨r29, h_30, hh0⟩ := bind_some hh0; refine PC.cut hs (fun _ : Unit => [(2, bA r29)]) (fun _ => []) (fun _ => True) ?_ ?_
  · refine PC.any (id := 9) 16 (.seg [2, 0, 1, 3, 4] (.fork (.seg [5] (.fork (.seg [6, 7, 8, 9, 10, 11, 12, 13, 14, 15] .done) (.seg [7, 6, 8, 9, 10, 11, 12, 13, 14, 15] .done))) (.seg [7, 5, 6, 8, 9, 10, 11, 12, 13, 14, 15] .done))) [] rfl (by kernel_rfl) rfl ?_; refine PT.seg ?_; refine PR.op rfl (Rd.moveO rfl) ?_; refine PR.rdE rfl rfl (Rd.loadBox rfl rfl rfl) ?_; refine PR.callM false [] (w_I_TableRows N r4.1 r19 h_20) rfl Tryd.call26 rfl ⟨.aggL ⟨.t _, .t _, .t _, trivial⟩, trivial⟩ rfl trivial (fun h => by cases h) rfl ?_; refine PR.nm (.os 15 0 r19.length) [none, some ⟨.mx [sL r2.1.first, sL r2.1.changes, sL r2.1.rows], 27, 0⟩, none, none, none, some ⟨.mx [sL r4.1.first, sL r4.1.changes, sL r4.1.rows], 27, 0⟩, none, none, none, some ⟨.mx [sL r6.1.first, sL r6.1.changes, sL r6.1.rows], 27, 0⟩, none, some ⟨.tr (eL r13), 48, 1⟩, none, some ⟨.tr (eL [r2.2]), 48, 1⟩, some ⟨.tr (eL xs17), 48, 1⟩, some ⟨.tr (eL r19), 48, 1⟩] rfl rfl ?_; refine PR.frz hs 15 16 [(59, sL r19)] [none, some ⟨.mx [sL r2.1.first, sL r2.1.changes, sL r2.1.rows], 27, 0⟩, none, none, none, some ⟨.mx [sL r4.1.first, sL r4.1.changes, sL r4.1.rows], 27, 0⟩, none, none, none, some ⟨.mx [sL r6.1.first, sL r6.1.changes, sL r6.1.rows], 27, 0⟩, none, some ⟨.tr (eL r13), 48, 1⟩, none, some ⟨.tr (eL [r2.2]), 48, 1⟩, some ⟨.tr (eL xs17), 48, 1⟩, none] rfl rfl rfl ⟨(.own rfl (by decide) rfl rfl), trivial⟩ ⟨⟨rfl, .inl rfl⟩, ⟨rfl, .inl rfl⟩, ⟨rfl, .inl rfl⟩, ⟨rfl, .inl rfl⟩, ⟨rfl, .inl rfl⟩, ⟨rfl, .inl rfl⟩, trivial⟩ ?_; refine PR.nm (sL r19) [none, some ⟨.mx [sL r2.1.first, sL r2.1.changes, sL r2.1.rows], 27, 0⟩, none, none, none, some ⟨.mx [sL r4.1.first, sL r4.1.changes, sL r4.1.rows], 27, 0⟩, none, none, none, some ⟨.mx [sL r6.1.first, sL r6.1.changes, sL r6.1.rows], 27, 0⟩, none, some ⟨.tr (eL r13), 48, 1⟩, none, some ⟨.tr (eL [r2.2]), 48, 1⟩, some ⟨.tr (eL xs17), 48, 1⟩, none] rfl rfl ?_; refine PR.callM true [] (w_L_equalRows N r19 xs17 r21 h_22) rfl Tryd.call27 rfl ⟨.t _, .own rfl (by first | decide | exact List.not_mem_nil) rfl rfl, trivial⟩ rfl trivial (fun _ => ⟨trivial, flat_nil⟩) rfl ?_; refine PR.op rfl (Rd.moveT rfl) ?_; refine PR.nil ?_; refine PT.fork ?_ ?_; rotate_left
    · refine PT.seg ?_; refine PR.guard_on rfl rfl h_23 ?_; refine PR.rdE rfl rfl (Rd.loadBox rfl rfl rfl) ?_; refine PR.guard_on rfl rfl h_23 ?_; refine PR.rdE rfl rfl (Rd.loadBox rfl rfl rfl) ?_; refine PR.guard_on rfl rfl h_23 ?_; refine PR.callM false [] (w_I_OldRows N r4.1 r24 h_25) rfl Tryd.call19 rfl ⟨.aggL ⟨.t _, .t _, .t _, trivial⟩, trivial⟩ rfl trivial (fun h => by cases h) rfl ?_; refine PR.guard_on rfl rfl h_23 ?_; refine PR.callM false [] (w_I_OldRows N r2.1 r26 h_27) rfl Tryd.call19 rfl ⟨.aggL ⟨.t _, .t _, .t _, trivial⟩, trivial⟩ rfl trivial (fun h => by cases h) rfl ?_; refine PR.guard_on rfl rfl h_23 ?_; refine PR.op rfl (Rd.eql rfl rfl) ?_; refine PR.op rfl (Rd.pick_t rfl h_23) ?_; refine PR.op rfl (Rd.moveT rfl) ?_; refine PR.guard_on rfl rfl h_28 ?_; refine PR.rdE rfl rfl (Rd.loadBox rfl rfl rfl) ?_; refine PR.guard_on rfl rfl h_28 ?_; refine PR.callM false [] (w_I_ValidTable N r4.1 r29 h_30) rfl Tryd.call16 rfl ⟨.aggL ⟨.t _, .t _, .t _, trivial⟩, trivial⟩ rfl trivial (fun h => by cases h) rfl ?_; refine PR.op rfl (Rd.pick_t rfl h_28) ?_; refine PR.op rfl (Rd.asnT rfl) ?_; refine PR.nil ?_; refine PT.done ?_; refine PL.nil ?_; refine thA_n ?_; exact ⟨(), trivial, [], ⟨rfl, rfl, trivial, ⟨.t _, trivial⟩⟩⟩
    refine PT.seg ?_; refine PR.guard_on rfl rfl h_23 ?_; refine PR.rdE rfl rfl (Rd.loadBox rfl rfl rfl) ?_; refine PR.nil ?_; refine PT.fork ?_ ?_
    · refine PT.seg ?_; refine PR.guard_on rfl rfl h_23 ?_; refine PR.callM false [] (w_I_OldRows N r4.1 r24 h_25) rfl Tryd.call19 rfl ⟨.aggL ⟨.t _, .t _, .t _, trivial⟩, trivial⟩ rfl trivial (fun h => by cases h) rfl ?_; refine PR.guard_on rfl rfl h_23 ?_; refine PR.rdE rfl rfl (Rd.loadBox rfl rfl rfl) ?_; refine PR.guard_on rfl rfl h_23 ?_; refine PR.callM false [] (w_I_OldRows N r2.1 r26 h_27) rfl Tryd.call19 rfl ⟨.aggL ⟨.t _, .t _, .t _, trivial⟩, trivial⟩ rfl trivial (fun h => by cases h) rfl ?_; refine PR.guard_on rfl rfl h_23 ?_; refine PR.op rfl (Rd.eql rfl rfl) ?_; refine PR.op rfl (Rd.pick_t rfl h_23) ?_; refine PR.op rfl (Rd.moveT rfl) ?_; refine PR.guard_on rfl rfl h_28 ?_; refine PR.rdE rfl rfl (Rd.loadBox rfl rfl rfl) ?_; refine PR.guard_on rfl rfl h_28 ?_; refine PR.callM false [] (w_I_ValidTable N r4.1 r29 h_30) rfl Tryd.call16 rfl ⟨.aggL ⟨.t _, .t _, .t _, trivial⟩, trivial⟩ rfl trivial (fun h => by cases h) rfl ?_; refine PR.op rfl (Rd.pick_t rfl h_28) ?_; refine PR.op rfl (Rd.asnT rfl) ?_; refine PR.nil ?_; refine PT.done ?_; refine PL.nil ?_; refine thA_n ?_; exact ⟨(), trivial, [], ⟨rfl, rfl, trivial, ⟨.t _, trivial⟩⟩⟩
    refine PT.seg ?_; refine PR.guard_on rfl rfl h_23 ?_; refine PR.rdE rfl rfl (Rd.loadBox rfl rfl rfl) ?_; refine PR.guard_on rfl rfl h_23 ?_; refine PR.callM false [] (w_I_OldRows N r4.1 r24 h_25) rfl Tryd.call19 rfl ⟨.aggL ⟨.t _, .t _, .t _, trivial⟩, trivial⟩ rfl trivial (fun h => by cases h) rfl ?_; refine PR.guard_on rfl rfl h_23 ?_; refine PR.callM false [] (w_I_OldRows N r2.1 r26 h_27) rfl Tryd.call19 rfl ⟨.aggL ⟨.t _, .t _, .t _, trivial⟩, trivial⟩ rfl trivial (fun h => by cases h) rfl ?_; refine PR.guard_on rfl rfl h_23 ?_; refine PR.op rfl (Rd.eql rfl rfl) ?_; refine PR.op rfl (Rd.pick_t rfl h_23) ?_; refine PR.op rfl (Rd.moveT rfl) ?_; refine PR.guard_on rfl rfl h_28 ?_; refine PR.rdE rfl rfl (Rd.loadBox rfl rfl rfl) ?_; refine PR.guard_on rfl rfl h_28 ?_; refine PR.callM false [] (w_I_ValidTable N r4.1 r29 h_30) rfl Tryd.call16 rfl ⟨.aggL ⟨.t _, .t _, .t _, trivial⟩, trivial⟩ rfl trivial (fun h => by cases h) rfl ?_; refine PR.op rfl (Rd.pick_t rfl h_28) ?_; refine PR.op rfl (Rd.asnT rfl) ?_; refine PR.nil ?_; refine PT.done ?_; refine PL.nil ?_; refine thA_n ?_; exact ⟨(), trivial, [], ⟨rfl, rfl, trivial, ⟨.t _, trivial⟩⟩⟩
  rintro ⟨⟩ -
  refine PC.ret ?_; obtain rfl := some_in hh0; exact FinA.mk (r := bA r29) (bl := []) [] (.inl rfl) rfl (rl := [.tmp 2]) (.tmp .nil) rfl rfl rfl (.t _) trivial ⟨rfl, rfl⟩
end V
end Go.Proofs.YthhlkedkeefgnaaDoor
namespace Go.Proofs.YthhlkedkeefgnaaDoor
namespace V
open Enc (enc)
set_option linter.unusedVariables false
set_option linter.unusedSimpArgs false
set_option maxHeartbeats 4000000
set_option maxRecDepth 100000
open Go.RowKit
attribute [local irreducible] thA inA FinA eL
end V
end Go.Proofs.YthhlkedkeefgnaaDoor
namespace Go.Proofs.YthhlkedkeefgnaaDoor
namespace V
open Enc (enc)
set_option linter.unusedVariables false
set_option linter.unusedSimpArgs false
set_option maxHeartbeats 4000000
set_option maxRecDepth 100000
open Go.RowKit
attribute [local irreducible] thA inA FinA eL
open Szd (szd)
open Go.ChangeShapes Go.WideShapes Go.ChangeAt
instance : Opn Tryd.prog UInt8 5 := Opn.u8 Tryd.underlying5
instance : Opn Tryd.prog (List UInt8) 22 := Opn.sl Tryd.underlying22 (by kernel_rfl) (by decide)
end V
end Go.Proofs.YthhlkedkeefgnaaDoor
namespace Go.Proofs.YthhlkedkeefgnaaDoor
namespace V
set_option linter.unusedVariables false
set_option linter.unusedSimpArgs false
section
variable {α β : Type}
/-- There is a result, and it is as told. -/
def ok (o : Option α) (Q : α → Prop) : Prop := ∃ r, o = some r ∧ Q r
theorem ok.some {Q : α → Prop} {r : α} (h : Q r) : ok (some r) Q := ⟨r, rfl, h⟩
theorem ok.mono {o : Option α} {P Q : α → Prop} (h : ok o P) (hq : ∀ r, P r → Q r) : ok o Q := h.elim fun r h => ⟨r, h.1, hq r h.2⟩
theorem ok.call {o : Option α} {f : α → Option β} {P : α → Prop} {Q : β → Prop} (h : ok o P) (k : ∀ x, P x → ok (f x) Q) : ok (o.bind f) Q := by
  obtain ⟨r, e, hp⟩ := h; subst e; exact k r hp
theorem ok.eq {o : Option α} {f : α → Option β} {v : α} {Q : β → Prop} (h : o = Option.some v) (k : ok (f v) Q) : ok (o.bind f) Q := by subst h; exact k
theorem ok.cond {c : Bool} {a b : Option α} {Q : α → Prop} (h1 : c = true → ok a Q) (h2 : c = false → ok b Q) : ok (cond c a b) Q := by
  cases c
  · exact h2 rfl
  · exact h1 rfl
theorem ok.ite {c : Prop} [Decidable c] {a b : Option α} {Q : α → Prop} (h1 : c → ok a Q) (h2 : ¬ c → ok b Q) : ok (_root_.cond (decide c) a b) Q := by
  by_cases h : c
  · rw [decide_eq_true h]; exact h1 h
  · rw [decide_eq_false h]; exact h2 h
theorem ok.bs {v : α} {f : α → Option β} {Q : β → Prop} (k : ok (f v) Q) : ok ((Option.some v).bind f) Q := k
theorem ok.iff {c : Prop} [Decidable c] {a b : Option α} {Q : α → Prop} (h : ¬ c) (k : ok b Q) : ok (_root_.cond (decide c) a b) Q := by rw [decide_eq_false h]; exact k
theorem ok.ift {c : Prop} [Decidable c] {a b : Option α} {Q : α → Prop} (h : c) (k : ok a Q) : ok (_root_.cond (decide c) a b) Q := by rw [decide_eq_true h]; exact k
theorem ok.bt {c : Bool} {a b : Option α} {Q : α → Prop} (h : c = true) (k : ok a Q) : ok (_root_.cond c a b) Q := by rw [h]; exact k
theorem ok.bf {c : Bool} {a b : Option α} {Q : α → Prop} (h : c = false) (k : ok b Q) : ok (_root_.cond c a b) Q := by rw [h]; exact k
theorem ok.chk {e : Int} {f : Int → Option β} {Q : β → Prop} (h : -9223372036854775808 ≤ e ∧ e ≤ 9223372036854775807) (k : ok (f e) Q) : ok ((V.chk e).bind f) Q := by
  unfold V.chk; rw [if_pos h]; exact k
theorem chk_eq {e : Int} (h : -9223372036854775808 ≤ e ∧ e ≤ 9223372036854775807) : chk e = some e := if_pos h
theorem ixI_eq {xs : List α} {i : Int} {n : Nat} (h : i = n) (hn : n < xs.length) : ixI xs i = some xs[n] := by
  subst h; unfold ixI; rw [if_pos (by omega)]; simp [hn]
theorem ixI_nat {xs : List α} {n : Nat} (hn : n < xs.length) : ixI xs (n : Int) = some xs[n] := ixI_eq rfl hn
theorem ok.ix {xs : List α} {i : Int} {f : α → Option β} {Q : β → Prop} (h0 : 0 ≤ i) (h1 : i < xs.length) (k : ∀ (n : Nat) (hn : n < xs.length), i = n → ok (f xs[n]) Q) : ok ((ixI xs i).bind f) Q := by
  obtain ⟨n, rfl⟩ := Int.eq_ofNat_of_zero_le h0
  rw [ixI_nat (by omega)]
  exact k n (by omega) rfl
theorem remM_eq {a b : Int} (h : 0 ≤ a ∧ 1 ≤ b) : remM a b = some (a % b) := if_pos h
theorem quoM_eq {a b : Int} (h : 0 ≤ a ∧ a ≤ 9223372036854775807 ∧ 1 ≤ b) : quoM a b = some (a / b) := if_pos h
theorem xorM_eq {a b : Int} (h : 0 ≤ a ∧ a ≤ 9223372036854775807 ∧ 0 ≤ b ∧ b ≤ 9223372036854775807) : xorM a b = some ((a.toNat ^^^ b.toNat : Nat) : Int) := if_pos h
theorem appM_eq {w : Nat} {xs ys : List α} (h : (xs.length + ys.length) * w ≤ 140737488355328 ∧ xs.length + ys.length ≤ 4611686018427387904) : appM w xs ys = some (xs ++ ys) := if_pos h
theorem subM_eq {xs : List α} {l h : Int} (hh : 0 ≤ l ∧ l ≤ h ∧ h ≤ (xs.length : Int)) : subM xs l h = some ((xs.drop l.toNat).take (h.toNat - l.toNat)) := if_pos hh
theorem addS_eq {a b : ByteArray} (h : a.size + b.size ≤ 9223372036854775807) : addS a b = some (a ++ b) := if_pos h
theorem ok.remM {a b : Int} {f : Int → Option β} {Q : β → Prop} (h : 0 ≤ a ∧ 1 ≤ b) (k : ∀ x : Int, x = a % b ∧ 0 ≤ x ∧ x < b → ok (f x) Q) : ok ((V.remM a b).bind f) Q := by
  rw [remM_eq h]; exact k _ ⟨rfl, Int.emod_nonneg _ (by omega), Int.emod_lt_of_pos _ (by omega)⟩
theorem ok.quoM {a b : Int} {f : Int → Option β} {Q : β → Prop} (h : 0 ≤ a ∧ a ≤ 9223372036854775807 ∧ 1 ≤ b) (k : ∀ x : Int, x = a / b ∧ 0 ≤ x ∧ x ≤ a → ok (f x) Q) : ok ((V.quoM a b).bind f) Q := by
  rw [quoM_eq h]; exact k _ ⟨rfl, Int.ediv_nonneg h.1 (by omega), Int.ediv_le_self _ h.1⟩
theorem ok.xorM {a b : Int} {f : Int → Option β} {Q : β → Prop} (h : 0 ≤ a ∧ a ≤ 9223372036854775807 ∧ 0 ≤ b ∧ b ≤ 9223372036854775807) (k : ∀ x : Int, 0 ≤ x → ok (f x) Q) : ok ((V.xorM a b).bind f) Q := by
  rw [xorM_eq h]; exact k _ (Int.natCast_nonneg _)
theorem ok.app {w : Nat} {xs ys : List α} {f : List α → Option β} {Q : β → Prop} (h : (xs.length + ys.length) * w ≤ 140737488355328 ∧ xs.length + ys.length ≤ 4611686018427387904) (k : ok (f (xs ++ ys)) Q) : ok ((appM w xs ys).bind f) Q := by
  rw [appM_eq h]; exact k
theorem ok.val {o : Option α} {v : α} (h : ok o fun r => r = v) : o = Option.some v := by obtain ⟨r, e, rfl⟩ := h; exact e
end
end V
end Go.Proofs.YthhlkedkeefgnaaDoor
namespace Go.Proofs.YthhlkedkeefgnaaDoor
namespace V
set_option linter.unusedVariables false
set_option linter.unusedSimpArgs false
/-- An index runs up from i to n; I tells the state. -/
theorem ok.each {S β : Type} {body : S → Option (S ⊕ β)} (n : Nat) (I : Nat → S → Prop) (Q : β → Prop) (h : ∀ i s, i < n → I i s → ok (body s) fun y => match y with | .inl s' => I (i + 1) s' | .inr b => Q b)
    (he : ∀ s, I n s → ok (body s) fun y => match y with | .inl _ => False | .inr b => Q b) : ∀ (N i : Nat) (s : S), i ≤ n → I i s → n - i < N → ok (loopM body N s) Q := by
  intro N
  induction N with
  | zero => intro i s _ _ h; omega
  | succ N ih =>
    intro i s hi hs hN
    unfold loopM
    rcases Nat.lt_or_ge i n with hlt | hge
    · obtain ⟨y, e, hy⟩ := h i s hlt hs
      rw [e]
      cases y with
      | inl s' => exact ih (i + 1) s' hlt hy (by omega)
      | inr b => exact ⟨b, rfl, hy⟩
    · obtain rfl : i = n := by omega
      obtain ⟨y, e, hy⟩ := he s hs
      rw [e]
      cases y with
      | inl s' => exact hy.elim
      | inr b => exact ⟨b, rfl, hy⟩
theorem bool_eq {o : Option Bool} {p : Prop} [Decidable p] (h : ok o fun r => r = true ↔ p) : o = some (decide p) := by
  obtain ⟨r, e, hr⟩ := h
  rw [e]; congr 1
  by_cases hp : p
  · rw [decide_eq_true hp]; exact hr.2 hp
  · rw [decide_eq_false hp]; cases r
    · rfl
    · exact (hp (hr.1 rfl)).elim
end V
end Go.Proofs.YthhlkedkeefgnaaDoor
namespace Go.Proofs.YthhlkedkeefgnaaDoor
namespace V
set_option linter.unusedVariables false
set_option linter.unusedSimpArgs false
set_option maxHeartbeats 1000000
section
variable {α β : Type}
end
theorem allG {G : Nat → Prop} {i : Nat} (h : ∀ k, k < i → G k) (h1 : G i) : ∀ k, k < i + 1 → G k := fun k hk => by
  rcases Nat.lt_succ_iff_lt_or_eq.1 hk with h2 | h2
  · exact h k h2
  · subst h2; exact h1
theorem take_succ1 {α : Type} {xs : List α} {i : Nat} (h : i < xs.length) : xs.take (i + 1) = xs.take i ++ [xs[i]] := by rw [List.take_add_one, List.getElem?_eq_getElem h]; rfl
/-- A loop asks the same of each number. -/
theorem all_ok {body : Int → Option (Int ⊕ (Unit ⊕ Bool))} {N n : Nat} (d : Int) (G : Nat → Prop) (hN : n < N) (h : ∀ i, i < n → (∀ k, k < i → G k) → ok (body ((i : Int) + d)) fun y => (y = .inl ((i : Int) + d + 1) ∧ G i) ∨ (y = .inr (.inr false) ∧ ¬ G i)) (he : body ((n : Int) + d) = some (.inr (.inl ()))) :
    ok (loopM body N d) fun o => (o = .inl () ∧ ∀ k, k < n → G k) ∨ (o = .inr false ∧ ¬ ∀ k, k < n → G k) := by
  refine ok.each n (fun i s => s = (i : Int) + d ∧ ∀ k, k < i → G k) _ ?_ ?_ N 0 d (Nat.zero_le _) ⟨by simp, fun k h => by omega⟩ (by omega)
  · rintro i s hi ⟨rfl, hg⟩
    refine (h i hi hg).mono ?_
    rintro _ (⟨rfl, h1⟩ | ⟨rfl, h1⟩)
    · exact ⟨by simp; omega, allG hg h1⟩
    · exact .inr ⟨rfl, fun hh => h1 (hh i hi)⟩
  · rintro s ⟨rfl, hg⟩
    rw [he]
    exact ok.some (.inl ⟨rfl, hg⟩)
theorem ixS_nat {u : ByteArray} {i : Nat} (h : i < u.size) : ixS u (i : Int) = some u[i] := by
  unfold ixS; rw [dif_pos ⟨by omega, by simpa using h⟩]; rfl
/-- All bytes of a text lie in a range. -/
def inR (lo hi : Int) (u : ByteArray) : Prop := ∀ i (h : i < u.size), lo ≤ (u[i].toNat : Int) ∧ (u[i].toNat : Int) ≤ hi
theorem text_ok {body : Int → Option (Int ⊕ (Unit ⊕ Bool))} {N : Nat} {u : ByteArray} (lo hi : Int) (hN : u.size < N) (hb : u.size ≤ 1000000000)
    (h : ∀ i (hi' : i < u.size), body (i : Int) = if lo ≤ (u[i].toNat : Int) ∧ (u[i].toNat : Int) ≤ hi then some (.inl ((i : Int) + 1)) else some (.inr (.inr false))) (he : body (u.size : Int) = some (.inr (.inl ()))) :
    ok (loopM body N 0) fun o => (o = .inl () ∧ inR lo hi u) ∨ (o = .inr false ∧ ¬ inR lo hi u) := by
  refine (all_ok (n := u.size) 0 (fun i => ∀ h : i < u.size, lo ≤ (u[i].toNat : Int) ∧ (u[i].toNat : Int) ≤ hi) hN ?_ ?_).mono ?_
  · intro i hi' _
    rw [Int.add_zero, h i hi']
    split
    · rename_i hc; exact ok.some (.inl ⟨rfl, fun _ => hc⟩)
    · rename_i hc; exact ok.some (.inr ⟨rfl, fun h => hc (h hi')⟩)
  · rw [Int.add_zero]; exact he
  · rintro o (⟨rfl, h⟩ | ⟨rfl, h⟩)
    · exact .inl ⟨rfl, fun i hi => h i hi hi⟩
    · exact .inr ⟨rfl, fun hh => h fun i hi h2 => hh i h2⟩
theorem inRange_of (a l h : Int) : (_root_.cond (decide (l ≤ a)) (some (decide (a ≤ h))) (some false)) = some (decide (l ≤ a ∧ a ≤ h)) := by
  by_cases h1 : l ≤ a <;> by_cases h2 : a ≤ h <;> simp [h1, h2]
end V
end Go.Proofs.YthhlkedkeefgnaaDoor
namespace Go.Proofs.YthhlkedkeefgnaaDoor
namespace V
set_option linter.unusedVariables false
set_option linter.unusedSimpArgs false
theorem pick_ok (N : Nat) {r : S_reader} {n : Int} (h : r.b.length ≤ 4000000000) (h0 : 0 ≤ r.p ∧ r.p ≤ 2000000000) (hn : n ≤ 4000000000) : ok (m_S_reader_pick N r n) fun x => x.2 = ⟨r.b, r.p + 1⟩ ∧ 0 ≤ x.1 ∧ (x.1 < n ∨ x.1 = 0) := by
  unfold m_S_reader_pick
  have hb : ∀ u : UInt8, (0 : Int) ≤ (u.toNat : Int) ∧ (u.toNat : Int) ≤ 255 := fun u => by have := u.toNat_lt; omega
  repeat' (first | (with_reducible refine ok.some ?_) | ((with_reducible refine ok.ix (by omega) (by omega) (fun q hq he => ?_); have := hb (r.b[q]); generalize (r.b[q].toNat : Int) = u at *)) | ((with_reducible refine ok.xorM (by omega) (fun _ hq => ?_))) | (with_reducible refine ok.ite (fun hc => ?_) (fun hc => ?_)) | (with_reducible refine ok.cond (fun hc => ?_) (fun hc => ?_)) | (with_reducible refine ok.chk (by omega) ?_) | (with_reducible refine ok.bs ?_) | (with_reducible refine ok.remM (by omega) (fun _ hq => ?_)) | (with_reducible refine ok.quoM (by omega) (fun _ hq => ?_)) | (with_reducible refine ok.ix (by omega) (by omega) (fun q hq he => ?_)))
  all_goals (first | exact ⟨rfl, Int.le_refl _, .inr rfl⟩ | exact ⟨rfl, by omega, by omega⟩)
theorem newReader_ok (N : Nat) (l : List UInt8) : ok (m_S_newReader N l) fun r => r.b.length ≤ 2000 ∧ r.p = 0 := by
  unfold m_S_newReader
  repeat' (first | (with_reducible refine ok.some ?_) | ((rw [subM_eq (by omega)]; refine ok.some ?_)) | (with_reducible refine ok.ite (fun hc => ?_) (fun hc => ?_)) | (with_reducible refine ok.cond (fun hc => ?_) (fun hc => ?_)) | (with_reducible refine ok.chk (by omega) ?_) | (with_reducible refine ok.bs ?_) | (with_reducible refine ok.remM (by omega) (fun _ hq => ?_)) | (with_reducible refine ok.quoM (by omega) (fun _ hq => ?_)) | (with_reducible refine ok.ix (by omega) (by omega) (fun q hq he => ?_)))
  · exact ⟨by simp; omega, rfl⟩
  · exact ⟨by show l.length ≤ 2000; omega, rfl⟩
theorem one_ok (N : Nat) {r : S_reader} {l : List Int} (h : r.b.length ≤ 4000000000) (h0 : 0 ≤ r.p ∧ r.p ≤ 2000000000) (hl : 0 < l.length) (hl' : l.length ≤ 1000) : ok (m_S_reader_one N r l) fun x => x.2 = ⟨r.b, r.p + 1⟩ ∧ x.1 ∈ l := by
  unfold m_S_reader_one
  refine ok.call (pick_ok N h h0 (by omega)) ?_
  rintro x ⟨h1, h2, h3⟩
  repeat' (first | (with_reducible refine ok.some ?_) | (with_reducible refine ok.ite (fun hc => ?_) (fun hc => ?_)) | (with_reducible refine ok.cond (fun hc => ?_) (fun hc => ?_)) | (with_reducible refine ok.chk (by omega) ?_) | (with_reducible refine ok.bs ?_) | (with_reducible refine ok.remM (by omega) (fun _ hq => ?_)) | (with_reducible refine ok.quoM (by omega) (fun _ hq => ?_)) | (with_reducible refine ok.ix (by omega) (by omega) (fun q hq he => ?_)))
  exact ⟨h1, List.getElem_mem _⟩
theorem of_ok (N : Nat) {r : S_reader} {l : List ByteArray} (h : r.b.length ≤ 4000000000) (h0 : 0 ≤ r.p ∧ r.p ≤ 2000000000) (hl : 0 < l.length) (hl' : l.length ≤ 1000) : ok (m_S_reader_of N r l) fun x => x.2 = ⟨r.b, r.p + 1⟩ ∧ x.1 ∈ l := by
  unfold m_S_reader_of
  refine ok.call (pick_ok N h h0 (by omega)) ?_
  rintro x ⟨h1, h2, h3⟩
  repeat' (first | (with_reducible refine ok.some ?_) | (with_reducible refine ok.ite (fun hc => ?_) (fun hc => ?_)) | (with_reducible refine ok.cond (fun hc => ?_) (fun hc => ?_)) | (with_reducible refine ok.chk (by omega) ?_) | (with_reducible refine ok.bs ?_) | (with_reducible refine ok.remM (by omega) (fun _ hq => ?_)) | (with_reducible refine ok.quoM (by omega) (fun _ hq => ?_)) | (with_reducible refine ok.ix (by omega) (by omega) (fun q hq he => ?_)))
  exact ⟨h1, List.getElem_mem _⟩
end V
end Go.Proofs.YthhlkedkeefgnaaDoor
namespace Go.Proofs.YthhlkedkeefgnaaDoor
namespace V
set_option linter.unusedVariables false
set_option linter.unusedSimpArgs false
set_option maxHeartbeats 1000000
theorem inRange_eq (N : Nat) (a l h : Int) : m_S_inRange N a l h = some (decide (l ≤ a ∧ a ≤ h)) := inRange_of a l h
/-- A text that is a value. -/
def vTx (u : ByteArray) : Prop := u.size ≤ 12 ∧ inR 32 126 u
noncomputable instance (u : ByteArray) : Decidable (vTx u) := Classical.propDecidable _
/-- A value that is valid. -/
def vV (v : I_Value) : Prop := (v.kind = 0 ∧ v.num = 0 ∧ v.text = ByteArray.empty) ∨ (v.kind = 1 ∧ -999999 ≤ v.num ∧ v.num ≤ 999999 ∧ v.text = ByteArray.empty) ∨ (v.kind = 2 ∧ v.num = 0 ∧ vTx v.text)
noncomputable instance (v : I_Value) : Decidable (vV v) := Classical.propDecidable _
section
variable {N : Nat} (hN : 100000000 ≤ N)
include hN
theorem vTxI {u : ByteArray} (h : u.size ≤ 5000000) : m_I_validText N u = some (decide (vTx u)) := by
  refine bool_eq ?_
  unfold m_I_validText
  refine ok.ite (fun hc => ok.some ⟨fun e => (by cases e), fun e => (by have := e.1; omega)⟩) fun h2 => ?_
  refine ok.call (text_ok (u := u) 32 126 (by omega) (by omega) (fun i hi => ?_) ?_) ?_
  · show m_I_validText_b1 N u (i : Int) = _
    unfold m_I_validText_b1
    rw [decide_eq_true (by omega), cond_true, ixS_nat hi]
    simp only [Option.bind_some]
    have e1 : ((32 : UInt8).toNat : Int) = 32 := rfl
    have e2 : ((126 : UInt8).toNat : Int) = 126 := rfl
    rw [e1, e2]
    by_cases c1 : (u[i].toNat : Int) < 32
    · rw [decide_eq_true c1, cond_true, if_neg (by omega)]
    · rw [decide_eq_false c1, cond_false]
      by_cases c2 : (126 : Int) < (u[i].toNat : Int)
      · rw [decide_eq_true c2, cond_true, if_neg (by omega)]
      · rw [decide_eq_false c2, cond_false, if_pos (by omega), chk_eq (by omega)]; rfl
  · show m_I_validText_b1 N u _ = _
    unfold m_I_validText_b1
    rw [decide_eq_false (by omega)]; rfl
  · rintro _ (⟨rfl, h⟩ | ⟨rfl, h⟩)
    · exact ok.some ⟨fun _ => ⟨by omega, h⟩, fun _ => rfl⟩
    · exact ok.some ⟨fun e => (by cases e), fun e => (h e.2).elim⟩
theorem vTxS {u : ByteArray} (h : u.size ≤ 5000000) : m_S_validText N u = some (decide (vTx u)) := by
  refine bool_eq ?_
  unfold m_S_validText
  refine ok.call (text_ok (u := u) 32 126 (by omega) (by omega) (fun i hi => ?_) ?_) ?_
  · show m_S_validText_b1 N u (i : Int) = _
    unfold m_S_validText_b1
    rw [decide_eq_true (by omega), cond_true, ixS_nat hi]
    simp only [Option.bind_some]
    rw [inRange_eq]
    simp only [Option.bind_some]
    by_cases c1 : 32 ≤ (u[i].toNat : Int) ∧ (u[i].toNat : Int) ≤ 126
    · rw [decide_eq_true c1, cond_true, if_pos c1, chk_eq (by omega)]; rfl
    · rw [decide_eq_false c1, cond_false, if_neg c1]
  · show m_S_validText_b1 N u _ = _
    unfold m_S_validText_b1
    rw [decide_eq_false (by omega)]; rfl
  · rintro _ (⟨rfl, h⟩ | ⟨rfl, h⟩)
    · unfold m_S_validText_k1
      refine ok.some ?_
      rw [decide_eq_true_eq]
      exact ⟨fun e => ⟨by omega, h⟩, fun e => by have := e.1; omega⟩
    · exact ok.some ⟨fun e => (by cases e), fun e => (h e.2).elim⟩
theorem vVI {v : I_Value} (h : v.text.size ≤ 5000000) : m_I_ValidValue N v = some (decide (vV v)) := by
  refine bool_eq ?_
  unfold m_I_ValidValue vV
  refine ok.ite (fun k0 => ok.ite (fun n0 => ok.some ?_) fun n0 => ok.some ?_) fun k0 => ok.ite (fun k1 => ok.ite (fun n0 => ok.ite (fun n1 => ok.some ?_) fun n1 => ok.some ?_) fun n0 => ok.some ?_) fun k1 => ok.ite (fun k2 => ok.ite (fun n0 => ok.eq (vTxI hN h) (ok.some ?_)) fun n0 => ok.some ?_) fun k2 => ok.some ?_
  · rw [textEq, decide_eq_true_eq]; exact ⟨fun e => .inl ⟨k0, n0, e⟩, fun e => by rcases e with e | e | e; exact e.2.2; omega; omega⟩
  · exact ⟨fun e => (by cases e), fun e => by omega⟩
  · rw [textEq, decide_eq_true_eq]; exact ⟨fun e => .inr (.inl ⟨k1, n0, n1, e⟩), fun e => by rcases e with e | e | e; omega; exact e.2.2.2; omega⟩
  · exact ⟨fun e => (by cases e), fun e => by omega⟩
  · exact ⟨fun e => (by cases e), fun e => by omega⟩
  · rw [decide_eq_true_eq]; exact ⟨fun e => .inr (.inr ⟨k2, n0, e⟩), fun e => by rcases e with e | e | e; omega; omega; exact e.2.2⟩
  · exact ⟨fun e => (by cases e), fun e => by omega⟩
  · exact ⟨fun e => (by cases e), fun e => by omega⟩
theorem vVS {v : I_Value} (h : v.text.size ≤ 5000000) : m_S_validValue N v = some (decide (vV v)) := by
  refine bool_eq ?_
  unfold m_S_validValue vV
  refine ok.ite (fun k0 => ok.ite (fun n0 => ok.some ?_) fun n0 => ok.some ?_) fun k0 => ok.ite (fun k1 => ok.eq (inRange_eq N _ _ _) (ok.ite (fun n0 => ok.some ?_) fun n0 => ok.some ?_)) fun k1 => ok.ite (fun k2 => ok.ite (fun n0 => ok.eq (vTxS hN h) (ok.some ?_)) fun n0 => ok.some ?_) fun k2 => ok.some ?_
  · rw [textEq, decide_eq_true_eq]; exact ⟨fun e => .inl ⟨k0, n0, e⟩, fun e => by rcases e with e | e | e; exact e.2.2; omega; omega⟩
  · exact ⟨fun e => (by cases e), fun e => by omega⟩
  · rw [textEq, decide_eq_true_eq]; exact ⟨fun e => .inr (.inl ⟨k1, n0.1, n0.2, e⟩), fun e => by rcases e with e | e | e; omega; exact e.2.2.2; omega⟩
  · exact ⟨fun e => (by cases e), fun e => by omega⟩
  · rw [decide_eq_true_eq]; exact ⟨fun e => .inr (.inr ⟨k2, n0, e⟩), fun e => by rcases e with e | e | e; omega; omega; exact e.2.2⟩
  · exact ⟨fun e => (by cases e), fun e => by omega⟩
  · exact ⟨fun e => (by cases e), fun e => by omega⟩
end
theorem b2s_data (xs : List UInt8) : (b2s xs).size = xs.length := rfl
theorem b2s_app2 (xs ys : List UInt8) : b2s xs ++ b2s ys = b2s (xs ++ ys) := by
  apply ByteArray.ext
  rw [ByteArray.data_append]
  unfold b2s
  simp
theorem nd_le : ∀ (k u : Nat), u < 10 ^ (k + 1) → Lib.nDigits u ≤ k + 1
  | 0, u, h => by rw [Lib.nDigits_small (by simpa using h)]; omega
  | k + 1, u, h => by
    by_cases a : u < 10
    · rw [Lib.nDigits_small a]; omega
    · rw [Lib.nDigits_big a]
      have := nd_le k (u / 10) (by rw [Nat.pow_succ] at h; omega)
      omega
theorem decimal_nat : ∀ (k N : Nat) (u : Nat), k < N → u < 10 ^ (k + 1) → u ≤ 1000000000 → m_S_decimal N (u : Int) = some (b2s (Lib.decDigits u))
  | k, 0, u, h, _, _ => by omega
  | k, N + 1, u, h, hu, hb => by
    refine ok.val ?_
    unfold m_S_decimal
    refine ok.iff (by omega) (ok.ite (fun h1 => ?_) fun h1 => ?_)
    · refine ok.chk (by omega) (ok.some ?_)
      rw [Lib.decDigits, dif_pos (by omega)]
      congr 2
      unfold i2b
      congr 1; omega
    · refine ok.eq (quoM_eq (by omega)) ?_
      obtain ⟨k, rfl⟩ : ∃ j, k = j + 1 := by
        rcases k with _ | j
        · simp at hu; omega
        · exact ⟨j, rfl⟩
      have e : (u : Int) / 10 = ((u / 10 : Nat) : Int) := by omega
      rw [e]
      refine ok.eq (decimal_nat k N (u / 10) (by omega) (by rw [Nat.pow_succ] at hu; omega) (by omega)) ?_
      refine ok.eq (remM_eq (by omega)) (ok.chk (by omega) (ok.eq (addS_eq ?_) (ok.some ?_)))
      · have := nd_le 9 (u / 10) (by omega)
        rw [b2s_data, b2s_data, Lib.decDigits_length]; simp; omega
      · rw [b2s_app2]
        conv => rhs; rw [Lib.decDigits, dif_neg (by omega)]
        congr 3
        unfold i2b
        congr 1; omega
theorem decimal_ok {N : Nat} (hN : 100 ≤ N) {n : Int} (h : -1000000000 ≤ n ∧ n ≤ 1000000000) : m_S_decimal N n = some (itoaB n) := by
  by_cases h0 : n < 0
  · obtain ⟨u, rfl⟩ : ∃ u : Nat, n = -(u : Int) := ⟨n.natAbs, by omega⟩
    obtain ⟨M, rfl⟩ : ∃ M, N = M + 1 := ⟨N - 1, by omega⟩
    refine ok.val ?_
    unfold m_S_decimal itoaB
    refine ok.ift h0 (ok.chk (by omega) (ok.iff (by omega) (ok.chk (by omega) ?_)))
    rw [Int.neg_neg]
    refine ok.eq (decimal_nat 9 M u (by omega) (by omega) (by omega)) (ok.eq (addS_eq ?_) (ok.some ?_))
    · have := nd_le 9 u (by omega)
      rw [b2s_data, Lib.decDigits_length]
      have : (ByteArray.mk #[45]).size = 1 := rfl
      omega
    · rw [Lib.itoa_neg u (by omega)]
      exact b2s_app2 [45] (Lib.decDigits u)
  · obtain ⟨u, rfl⟩ : ∃ u : Nat, n = (u : Int) := ⟨n.toNat, by omega⟩
    rw [decimal_nat 9 N u (by omega) (by omega) (by omega)]
    unfold itoaB
    rw [Lib.itoa_nonneg]; rfl
theorem itoaB_ok {n : Int} (h : -999999 ≤ n ∧ n ≤ 999999) : vTx (itoaB n) := by
  have hd : ∀ u : Nat, u ≤ 999999 → (Lib.decDigits u).length ≤ 6 ∧ ∀ x ∈ Lib.decDigits u, 48 ≤ x.toNat ∧ x.toNat ≤ 57 := by
    intro u hu
    constructor
    · rw [Lib.decDigits_length]
      exact nd_le 5 u (by omega)
    · intro x hx
      rw [Lib.decDigits_eq, List.mem_map] at hx
      obtain ⟨j, _, rfl⟩ := hx
      unfold Lib.dg
      have : u / 10 ^ (Lib.nDigits u - 1 - j) % 10 < 10 := Nat.mod_lt _ (by decide)
      generalize u / 10 ^ (Lib.nDigits u - 1 - j) % 10 = v at this
      have : (UInt8.ofNat (48 + v)).toNat = 48 + v := by rw [UInt8.toNat_ofNat']; omega
      omega
  have hall : (Lib.itoa n).length ≤ 12 ∧ ∀ x ∈ Lib.itoa n, 32 ≤ x.toNat ∧ x.toNat ≤ 126 := by
    by_cases h0 : n < 0
    · obtain ⟨u, rfl⟩ : ∃ u : Nat, n = -(u : Int) := ⟨n.natAbs, by omega⟩
      have := hd u (by omega)
      rw [Lib.itoa_neg u (by omega)]
      refine ⟨by rw [List.length_cons]; omega, fun x hx => ?_⟩
      rcases List.mem_cons.1 hx with rfl | hx
      · decide
      · have := this.2 x hx; omega
    · obtain ⟨u, rfl⟩ : ∃ u : Nat, n = (u : Int) := ⟨n.toNat, by omega⟩
      have := hd u (by omega)
      rw [Lib.itoa_nonneg]
      exact ⟨by omega, fun x hx => by have := this.2 x hx; omega⟩
  unfold vTx itoaB
  refine ⟨by show (Lib.itoa n).toArray.size ≤ 12; rw [List.size_toArray]; exact hall.1, fun i hi => ?_⟩
  have : (ByteArray.mk (Lib.itoa n).toArray)[i] ∈ Lib.itoa n := by
    show (Lib.itoa n).toArray[i] ∈ _
    rw [List.getElem_toArray]; exact List.getElem_mem _
  have := hall.2 _ this
  omega
end V
end Go.Proofs.YthhlkedkeefgnaaDoor
namespace Go.Proofs.YthhlkedkeefgnaaDoor
namespace V
set_option linter.unusedVariables false
set_option linter.unusedSimpArgs false
set_option maxHeartbeats 1000000
/-- A column that is valid. -/
def cV (c : I_Column) : Prop := (c.kind = 1 ∨ c.kind = 2) ∧ vV c.default ∧ (c.default.kind = 0 ∨ c.default.kind = c.kind)
noncomputable instance (c : I_Column) : Decidable (cV c) := Classical.propDecidable _
/-- A format that is valid. -/
def vF (f : List I_Column) : Prop := (1 ≤ f.length ∧ f.length ≤ 5) ∧ ∀ i (h : i < f.length), cV f[i]
noncomputable instance (f : List I_Column) : Decidable (vF f) := Classical.propDecidable _
/-- A change that is possible. -/
def poss (f : List I_Column) (c : I_Change) : Prop := (c.kind = 1 ∧ 0 ≤ c.at_ ∧ c.at_ ≤ f.length ∧ f.length < 5 ∧ cV c.column) ∨ (c.kind = 2 ∧ 0 ≤ c.at_ ∧ c.at_ < f.length ∧ 1 < f.length) ∨ (c.kind = 3 ∧ 0 ≤ c.at_ ∧ ∃ h : c.at_.toNat < f.length, f[c.at_.toNat].kind = 1)
noncomputable instance (f : List I_Column) (c : I_Change) : Decidable (poss f c) := Classical.propDecidable _
/-- A number made a text. -/
def wid (v : I_Value) : I_Value := if v.kind = 1 then ⟨2, 0, itoaB v.num⟩ else v
/-- A format after a change. -/
def chF (f : List I_Column) (c : I_Change) : List I_Column := if c.kind = 1 then f.insertIdx c.at_.toNat c.column else if c.kind = 2 then f.eraseIdx c.at_.toNat else f.modify c.at_.toNat fun x => ⟨2, wid x.default⟩
/-- A row after a change. -/
def mv (r : List I_Value) (c : I_Change) : List I_Value := if c.kind = 1 then r.insertIdx c.at_.toNat c.column.default else if c.kind = 2 then r.eraseIdx c.at_.toNat else r.modify c.at_.toNat wid
/-- A row has a format. -/
def fitP (f : List I_Column) (r : List I_Value) : Prop := r.length = f.length ∧ ∀ i (h : i < r.length) (h' : i < f.length), vV r[i] ∧ (r[i].kind = 0 ∨ r[i].kind = f[i].kind)
noncomputable instance (f : List I_Column) (r : List I_Value) : Decidable (fitP f r) := Classical.propDecidable _
/-- Texts are not too long. -/
def bS (f : List I_Column) : Prop := f.length ≤ 5000000 ∧ ∀ c ∈ f, c.default.text.size ≤ 5000000
/-- Numbers are not too large. -/
def bN (f : List I_Column) : Prop := ∀ c ∈ f, -1000000000 ≤ c.default.num ∧ c.default.num ≤ 1000000000
theorem vV_size {v : I_Value} (h : vV v) : v.text.size ≤ 12 := by
  rcases h with h | h | h
  · rw [h.2.2]; exact Nat.zero_le _
  · rw [h.2.2.2]; exact Nat.zero_le _
  · exact h.2.2.1
theorem vV_num {v : I_Value} (h : vV v) : -999999 ≤ v.num ∧ v.num ≤ 999999 := by rcases h with h | h | h <;> omega
theorem vV_wid {v : I_Value} (h : vV v) : vV (wid v) ∧ ((wid v).kind = 0 ∨ (wid v).kind = 2) := by
  unfold wid
  split
  · rename_i hk
    exact ⟨.inr (.inr ⟨rfl, rfl, itoaB_ok (vV_num h)⟩), .inr rfl⟩
  · rename_i hk
    exact ⟨h, by rcases h with h | h | h <;> omega⟩
theorem vF_bS {f : List I_Column} (h : vF f) : bS f := ⟨by have := h.1; omega, fun c hc => by
  obtain ⟨i, hi, rfl⟩ := List.mem_iff_getElem.1 hc
  have := vV_size (h.2 i hi).2.1; omega⟩
theorem vF_bN {f : List I_Column} (h : vF f) : bN f := fun c hc => by
  obtain ⟨i, hi, rfl⟩ := List.mem_iff_getElem.1 hc
  have := vV_num (h.2 i hi).2.1; omega
theorem wid_num {v : I_Value} (h : -1000000000 ≤ v.num ∧ v.num ≤ 1000000000) : -1000000000 ≤ (wid v).num ∧ (wid v).num ≤ 1000000000 := by
  unfold wid; split
  · dsimp only; omega
  · exact h
theorem poss_at {f : List I_Column} {c : I_Change} (h : poss f c) : 0 ≤ c.at_ ∧ c.at_ ≤ f.length := by
  rcases h with h | h | ⟨h1, h2, h3, h4⟩ <;> omega
theorem bN_chF {f : List I_Column} {c : I_Change} (h : bN f) (hp : poss f c) : bN (chF f c) := by
  intro x hx
  unfold chF at hx
  rcases hp with ⟨k, h1, h2, h3, h4⟩ | ⟨k, h1, h2, h3⟩ | ⟨k, h1, h2, h3⟩
  · rw [if_pos k, List.mem_insertIdx (by omega)] at hx
    rcases hx with rfl | hx
    · have := vV_num h4.2.1; omega
    · exact h x hx
  · rw [if_neg (by omega), if_pos k] at hx
    exact h x (List.mem_of_mem_eraseIdx hx)
  · rw [if_neg (by omega), if_neg (by omega)] at hx
    obtain ⟨i, hi, rfl⟩ := List.mem_iff_getElem.1 hx
    rw [List.getElem_modify]
    split
    · exact wid_num (h _ (List.getElem_mem _))
    · exact h _ (List.getElem_mem _)
theorem vF_chF {f : List I_Column} {c : I_Change} (h : vF f) (hp : poss f c) : vF (chF f c) := by
  unfold chF
  obtain ⟨hl, h⟩ := h
  rcases hp with ⟨k, h1, h2, h3, h4⟩ | ⟨k, h1, h2, h3⟩ | ⟨k, h1, h2, h3⟩
  · rw [if_pos k]
    refine ⟨by rw [List.length_insertIdx]; split <;> omega, fun i hi => ?_⟩
    rw [List.getElem_insertIdx]
    split
    · exact h _ _
    · split
      · exact h4
      · exact h _ _
  · rw [if_neg (by omega), if_pos k]
    refine ⟨by rw [List.length_eraseIdx]; split <;> omega, fun i hi => ?_⟩
    rw [List.getElem_eraseIdx]
    split <;> exact h _ _
  · rw [if_neg (by omega), if_neg (by omega)]
    refine ⟨by rw [List.length_modify]; omega, fun i hi => ?_⟩
    rw [List.getElem_modify]
    split
    · have := vV_wid (h i (by rw [List.length_modify] at hi; exact hi)).2.1
      exact ⟨.inr rfl, this.1, this.2⟩
    · exact h _ _
theorem fit_mv {f : List I_Column} {c : I_Change} {r : List I_Value} (h : fitP f r) (hp : poss f c) : fitP (chF f c) (mv r c) := by
  obtain ⟨hl, h⟩ := h
  unfold chF mv
  rcases hp with ⟨k, h1, h2, h3, h4⟩ | ⟨k, h1, h2, h3⟩ | ⟨k, h1, h2, h3⟩
  · rw [if_pos k, if_pos k]
    refine ⟨by rw [List.length_insertIdx, List.length_insertIdx, hl], fun i hi hi' => ?_⟩
    rw [List.length_insertIdx, if_pos (by omega)] at hi hi'
    rw [List.getElem_insertIdx, List.getElem_insertIdx]
    by_cases a1 : i < c.at_.toNat
    · rw [dif_pos a1, dif_pos a1]; exact h _ _ _
    · rw [dif_neg a1, dif_neg a1]
      by_cases a2 : i = c.at_.toNat
      · rw [dif_pos a2, dif_pos a2]; exact ⟨h4.2.1, h4.2.2⟩
      · rw [dif_neg a2, dif_neg a2]; exact h _ _ _
  · rw [if_neg (by omega), if_pos k, if_neg (by omega), if_pos k]
    refine ⟨by rw [List.length_eraseIdx, List.length_eraseIdx, hl], fun i hi hi' => ?_⟩
    rw [List.getElem_eraseIdx, List.getElem_eraseIdx]
    split <;> exact h _ _ _
  · rw [if_neg (by omega), if_neg (by omega), if_neg (by omega), if_neg (by omega)]
    refine ⟨by rw [List.length_modify, List.length_modify, hl], fun i hi hi' => ?_⟩
    rw [List.length_modify] at hi hi'
    rw [List.getElem_modify, List.getElem_modify]
    by_cases a : c.at_.toNat = i
    · rw [if_pos a, if_pos a]
      exact vV_wid (h i hi hi').1
    · rw [if_neg a, if_neg a]; exact h _ _ _
theorem mod_eq {α : Type} {xs : List α} {i : Nat} {f : α → α} (h : i < xs.length) : xs.modify i f = xs.set i (f xs[i]) := by
  apply List.ext_getElem
  · rw [List.length_modify, List.length_set]
  · intro k h1 h2
    rw [List.getElem_modify, List.getElem_set]
    by_cases a : i = k
    · subst a; simp
    · rw [if_neg a, if_neg a]
theorem ins_eq {α : Type} {xs : List α} {i : Nat} {a : α} (h : i ≤ xs.length) : xs.take i ++ a :: xs.drop i = xs.insertIdx i a := by
  apply List.ext_getElem
  · rw [List.length_insertIdx, if_pos h]; simp; omega
  · intro k h1 h2
    rw [List.getElem_insertIdx]
    by_cases a1 : k < i
    · rw [dif_pos a1, List.getElem_append_left (by simp; omega), List.getElem_take]
    · rw [dif_neg a1, List.getElem_append_right (by simp; omega)]
      simp only [List.length_take, Nat.min_eq_left h]
      by_cases a2 : k = i
      · subst a2; simp
      · rw [dif_neg a2]
        obtain ⟨m, hm⟩ : ∃ m, k - i = m + 1 := ⟨k - i - 1, by omega⟩
        simp only [hm, List.getElem_cons_succ, List.getElem_drop]
        congr 1; omega
theorem insM_eq {α : Type} {w : Nat} {xs : List α} {i : Int} {a : α} (h : 0 ≤ i ∧ i ≤ (xs.length : Int)) (hw : (xs.length + 1) * w ≤ 140737488355328 ∧ xs.length + 1 ≤ 4611686018427387904) : insM w xs i a = some (xs.insertIdx i.toNat a) := by
  unfold insM; rw [if_pos ⟨h.1, h.2, hw.1, hw.2⟩, ins_eq (by omega)]
theorem delM_eq {α : Type} {xs : List α} {i : Int} (h : 0 ≤ i ∧ i < (xs.length : Int)) : delM xs i (i + 1) = some (xs.eraseIdx i.toNat) := by
  unfold delM; rw [if_pos ⟨h.1, by omega, by omega, by omega⟩, List.eraseIdx_eq_take_drop_succ]
  congr 3; omega
theorem appM0 {α : Type} {w : Nat} {xs : List α} (h : xs.length * w ≤ 140737488355328 ∧ xs.length ≤ 4611686018427387904) : appM w [] xs = some xs := by
  rw [appM_eq (by simpa using h)]; rfl
section
variable {N : Nat} (hN : 100000000 ≤ N)
include hN
theorem cVI {c : I_Column} (h : c.default.text.size ≤ 5000000) : m_I_Column_valid N c = some (decide (cV c)) := by
  refine bool_eq ?_
  unfold m_I_Column_valid cV
  refine ok.ite (fun k1 => ok.eq (vVI hN h) (ok.ite (fun n0 => ok.ite (fun n1 => ok.some ?_) fun n1 => ok.some ?_) fun n0 => ok.some ?_)) fun k1 => ok.ite (fun k2 => ok.eq (vVI hN h) (ok.ite (fun n0 => ok.ite (fun n1 => ok.some ?_) fun n1 => ok.some ?_) fun n0 => ok.some ?_)) fun k2 => ok.some ?_
  · exact ⟨fun _ => ⟨.inl k1, n0, .inr n1⟩, fun _ => rfl⟩
  · rw [decide_eq_true_eq]; exact ⟨fun e => ⟨.inl k1, n0, .inl e⟩, fun e => by rcases e.2.2 with e | e; exact e; exact (n1 e).elim⟩
  · exact ⟨fun e => (by cases e), fun e => (n0 e.2.1).elim⟩
  · exact ⟨fun _ => ⟨.inr k2, n0, .inr n1⟩, fun _ => rfl⟩
  · rw [decide_eq_true_eq]; exact ⟨fun e => ⟨.inr k2, n0, .inl e⟩, fun e => by rcases e.2.2 with e | e; exact e; exact (n1 e).elim⟩
  · exact ⟨fun e => (by cases e), fun e => (n0 e.2.1).elim⟩
  · exact ⟨fun e => (by cases e), fun e => by rcases e.1 with e | e; exact (k1 e).elim; exact (k2 e).elim⟩
theorem cVS {c : I_Column} (h : c.default.text.size ≤ 5000000) : m_S_validColumn N c = some (decide (cV c)) := by
  refine bool_eq ?_
  unfold m_S_validColumn cV
  refine ok.eq (inRange_eq N _ _ _) (ok.ite (fun k1 => ok.eq (vVS hN h) (ok.ite (fun n0 => ok.ite (fun n1 => ok.some ?_) fun n1 => ok.some ?_) fun n0 => ok.some ?_)) fun k2 => ok.some ?_)
  · exact ⟨fun _ => ⟨by omega, n0, .inl n1⟩, fun _ => rfl⟩
  · rw [decide_eq_true_eq]; exact ⟨fun e => ⟨by omega, n0, .inr e⟩, fun e => by rcases e.2.2 with e | e; exact (n1 e).elim; exact e⟩
  · exact ⟨fun e => (by cases e), fun e => (n0 e.2.1).elim⟩
  · exact ⟨fun e => (by cases e), fun e => by omega⟩
theorem vFI {f : List I_Column} (h : bS f) : m_I_ValidFormat N f = some (decide (vF f)) := by
  have hl := h.1
  refine bool_eq ?_
  unfold m_I_ValidFormat vF
  refine ok.ite (fun h1 => ok.some ⟨fun e => (by cases e), fun e => by omega⟩) fun h1 => ok.ite (fun h2 => ok.some ⟨fun e => (by cases e), fun e => by omega⟩) fun h2 => ?_
  refine ok.call (all_ok (n := f.length) 0 (fun i => ∀ h : i < f.length, cV f[i]) (by omega) (fun i hi _ => ?_) ?_) ?_
  · rw [Int.add_zero]
    show ok (m_I_ValidFormat_b1 N f (i : Int)) _
    unfold m_I_ValidFormat_b1
    refine ok.ift (by omega) (ok.eq (ixI_nat hi) (ok.eq (cVI hN (h.2 _ (List.getElem_mem _))) (ok.ite (fun hc => ok.chk (by omega) (ok.some (.inl ⟨rfl, fun _ => hc⟩))) fun hc => ok.some (.inr ⟨rfl, fun e => hc (e hi)⟩))))
  · rw [Int.add_zero]
    show m_I_ValidFormat_b1 N f _ = _
    unfold m_I_ValidFormat_b1
    rw [decide_eq_false (by omega)]; rfl
  · rintro o (⟨rfl, hh⟩ | ⟨rfl, hh⟩)
    · exact ok.some ⟨fun _ => ⟨by omega, fun i hi => hh i hi hi⟩, fun _ => rfl⟩
    · exact ok.some ⟨fun e => (by cases e), fun e => (hh fun k hk h => e.2 k h).elim⟩
theorem vFS {f : List I_Column} (h : bS f) : m_S_validFormat N f = some (decide (vF f)) := by
  have hl := h.1
  refine bool_eq ?_
  unfold m_S_validFormat vF
  refine ok.call (all_ok (n := f.length) 0 (fun i => ∀ h : i < f.length, cV f[i]) (by omega) (fun i hi _ => ?_) ?_) ?_
  · rw [Int.add_zero]
    show ok (m_S_validFormat_b1 N f (i : Int)) _
    unfold m_S_validFormat_b1
    refine ok.ift (by omega) (ok.eq (ixI_nat hi) (ok.eq (cVS hN (h.2 _ (List.getElem_mem _))) (ok.ite (fun hc => ok.chk (by omega) (ok.some (.inl ⟨rfl, fun _ => hc⟩))) fun hc => ok.some (.inr ⟨rfl, fun e => hc (e hi)⟩))))
  · rw [Int.add_zero]
    show m_S_validFormat_b1 N f _ = _
    unfold m_S_validFormat_b1
    rw [decide_eq_false (by omega)]; rfl
  · rintro o (⟨rfl, hh⟩ | ⟨rfl, hh⟩)
    · refine ok.eq (inRange_eq N _ _ _) (ok.some ?_)
      rw [decide_eq_true_eq]
      exact ⟨fun e => ⟨by omega, fun i hi => hh i hi hi⟩, fun e => by omega⟩
    · exact ok.some ⟨fun e => (by cases e), fun e => (hh fun k hk h => e.2 k h).elim⟩
theorem possI {f : List I_Column} {c : I_Change} (h : c.column.default.text.size ≤ 5000000) : m_I_Change_possible N c f = some (decide (poss f c)) := by
  refine bool_eq ?_
  unfold m_I_Change_possible poss
  refine ok.ite (fun k1 => ok.ite (fun a1 => ok.ite (fun a2 => ok.ite (fun a3 => ok.eq (cVI hN h) (ok.some ?_)) fun a3 => ok.some ?_) fun a2 => ok.some ?_) fun a1 => ok.some ?_) fun k1 => ok.ite (fun k2 => ok.ite (fun a1 => ok.ite (fun a2 => ok.some ?_) fun a2 => ok.some ?_) fun a1 => ok.some ?_) fun k2 => ok.ite (fun k3 => ok.ite (fun a1 => ok.ite (fun a2 => ok.ix a1 a2 fun n hn he => ok.some ?_) fun a2 => ok.some ?_) fun a1 => ok.some ?_) fun k3 => ok.some ?_
  · rw [decide_eq_true_eq]; exact ⟨fun e => .inl ⟨k1, a1, a2, by omega, e⟩, fun e => by rcases e with e | e | e; exact e.2.2.2.2; omega; omega⟩
  · exact ⟨fun e => (by cases e), fun e => by omega⟩
  · exact ⟨fun e => (by cases e), fun e => by omega⟩
  · exact ⟨fun e => (by cases e), fun e => by omega⟩
  · rw [decide_eq_true_eq]; exact ⟨fun e => .inr (.inl ⟨k2, a1, a2, by omega⟩), fun e => by omega⟩
  · exact ⟨fun e => (by cases e), fun e => by omega⟩
  · exact ⟨fun e => (by cases e), fun e => by omega⟩
  · have he' : c.at_.toNat = n := by omega
    subst he'
    rw [decide_eq_true_eq]; exact ⟨fun e => .inr (.inr ⟨k3, a1, hn, e⟩), fun e => by rcases e with e | e | ⟨e1, e2, e3, e4⟩; omega; omega; exact e4⟩
  · exact ⟨fun e => (by cases e), fun e => by rcases e with e | e | ⟨e1, e2, e3, e4⟩ <;> omega⟩
  · exact ⟨fun e => (by cases e), fun e => by omega⟩
  · exact ⟨fun e => (by cases e), fun e => by omega⟩
theorem widI {v : I_Value} (h : vV v) : m_I_WidenValue N v = some (wid v) := by
  have hs := vV_size h
  have hn := vV_num h
  refine ok.val ?_
  unfold m_I_WidenValue wid
  refine ok.eq (vVI hN (by omega)) (ok.ift h (ok.ite (fun k => ok.eq (v := itoaB v.num) ?_ (ok.some ?_)) fun k => ok.some ?_))
  · unfold m_strconv_Itoa; rw [if_pos (by omega)]
  · rw [if_pos k]
  · rw [if_neg k]
theorem widS {v : I_Value} (h : -1000000000 ≤ v.num ∧ v.num ≤ 1000000000) : m_S_widen N v = some (wid v) := by
  refine ok.val ?_
  unfold m_S_widen wid
  refine ok.ite (fun k => ok.eq (decimal_ok (by omega) h) (ok.some ?_)) fun k => ok.some ?_
  · rw [if_pos k]
  · rw [if_neg k]
theorem chFI {f : List I_Column} {c : I_Change} (h : bS f) (hc : c.column.default.text.size ≤ 5000000) : m_I_ChangeFormat N f c = some (if vF f ∧ poss f c then (chF f c, true) else ([], false)) := by
  refine ok.val ?_
  unfold m_I_ChangeFormat
  refine ok.eq (vFI hN h) (ok.ite (fun hv => ok.eq (possI hN hc) (ok.ite (fun hp => ?_) fun hp => ok.some ?_)) fun hv => ok.some ?_)
  · rw [if_pos ⟨hv, hp⟩]
    have hl := hv.1
    refine ok.eq (show m_slices_Clone_I_Column N f = some f from appM0 (by omega)) ?_
    unfold chF
    rcases hp with ⟨k, h1, h2, h3, h4⟩ | ⟨k, h1, h2, h3⟩ | ⟨k, h1, h2, h3⟩
    · refine ok.ift k (ok.eq (insM_eq ⟨h1, h2⟩ (by omega)) (ok.some ?_))
      rw [if_pos k]
    · refine ok.iff (by omega) (ok.ift k (ok.chk (by omega) (ok.eq (delM_eq ⟨h1, h2⟩) (ok.some ?_))))
      rw [if_neg (by omega), if_pos k]
    · refine ok.iff (by omega) (ok.iff (by omega) (ok.eq (ixI_eq (n := c.at_.toNat) (by omega) h2) (ok.eq (widI hN (hv.2 _ _).2.1) (ok.some ?_))))
      rw [if_neg (by omega), if_neg (by omega), mod_eq h2]
  · rw [if_neg fun e => hp e.2]
  · rw [if_neg fun e => hv e.1]
theorem chFS {f : List I_Column} {c : I_Change} (hl : f.length ≤ 5000000) (h : bN f) (hc : c.column.default.text.size ≤ 5000000) : m_S_change N f c = some (if poss f c then (chF f c, true) else ([], false)) := by
  refine ok.val ?_
  unfold m_S_change
  have hcp : ∀ g : List I_Column, g.length ≤ 5000000 → m_S_copyColumns N g = some g := fun g hg => by
    unfold m_S_copyColumns
    rw [appM0 (by omega)]; rfl
  refine ok.ite (fun k => ok.eq (inRange_eq N _ _ _) (ok.ite (fun a => ok.eq (cVS hN hc) (ok.ite (fun b => ok.ite (fun l => ?_) fun l => ok.some ?_) fun b => ok.some ?_)) fun a => ok.some ?_)) fun k => ok.ite (fun k2 => ok.chk (by omega) (ok.eq (inRange_eq N _ _ _) (ok.ite (fun a => ok.ite (fun l => ?_) fun l => ok.some ?_) fun a => ok.some ?_))) fun k2 => ok.ite (fun k3 => ok.chk (by omega) (ok.eq (inRange_eq N _ _ _) (ok.ite (fun a => ok.ix (by omega) (by omega) fun n hn he => ok.ite (fun k1 => ok.eq (hcp _ hl) (ok.eq (ixI_eq he hn) (ok.eq (widS hN (h _ (List.getElem_mem _))) (ok.eq (ixI_eq he hn) (ok.some ?_))))) fun k1 => ok.some ?_) fun a => ok.some ?_))) fun k3 => ok.some ?_
  · have hp : poss f c := .inl ⟨k, a.1, a.2, by omega, b⟩
    rw [if_pos hp]
    refine ok.eq (subM_eq (by omega)) (ok.eq (hcp _ (by simp; omega)) (ok.app (by simp; omega) (ok.eq (subM_eq (by omega)) (ok.app (by simp; omega) (ok.some ?_)))))
    unfold chF
    rw [if_pos k, ← ins_eq (by omega)]
    simp only [Int.toNat_zero, List.drop_zero, Nat.sub_zero, List.append_assoc, List.singleton_append]
    congr 4
    exact List.take_of_length_le (by simp)
  · rw [if_neg]; rintro (e | e | ⟨e1, e2, e3, e4⟩) <;> omega
  · rw [if_neg]; rintro (e | e | ⟨e1, e2, e3, e4⟩); exact b e.2.2.2.2; omega; omega
  · rw [if_neg]; rintro (e | e | ⟨e1, e2, e3, e4⟩) <;> omega
  · have hp : poss f c := .inr (.inl ⟨k2, a.1, by omega, by omega⟩)
    rw [if_pos hp]
    refine ok.eq (subM_eq (by omega)) (ok.eq (hcp _ (by simp; omega)) (ok.chk (by omega) (ok.eq (subM_eq (by omega)) (ok.app (by simp; omega) (ok.some ?_)))))
    unfold chF
    rw [if_neg (by omega), if_pos k2, List.eraseIdx_eq_take_drop_succ]
    simp only [Int.toNat_zero, List.drop_zero, Nat.sub_zero]
    have e : (c.at_ + 1).toNat = c.at_.toNat + 1 := by omega
    rw [e]
    congr 2
    exact List.take_of_length_le (by simp)
  · rw [if_neg]; rintro (e | e | ⟨e1, e2, e3, e4⟩) <;> omega
  · rw [if_neg]; rintro (e | e | ⟨e1, e2, e3, e4⟩) <;> omega
  · obtain rfl : n = c.at_.toNat := by omega
    have hp : poss f c := .inr (.inr ⟨k3, by omega, hn, k1⟩)
    rw [if_pos hp]
    unfold chF
    rw [if_neg (by omega), if_neg (by omega), mod_eq hn]
  · obtain rfl : n = c.at_.toNat := by omega
    rw [if_neg]; rintro (e | e | ⟨e1, e2, e3, e4⟩); omega; omega; exact k1 e4
  · rw [if_neg]; rintro (e | e | ⟨e1, e2, e3, e4⟩) <;> omega
  · rw [if_neg]; rintro (e | e | ⟨e1, e2, e3, e4⟩) <;> omega
end
end V
end Go.Proofs.YthhlkedkeefgnaaDoor
namespace Go.Proofs.YthhlkedkeefgnaaDoor
namespace V
set_option linter.unusedVariables false
set_option linter.unusedSimpArgs false
set_option maxHeartbeats 1000000
/-- Format i of a chain. -/
def fA (f : List I_Column) (l : List I_Change) (i : Nat) : List I_Column := (l.take i).foldl chF f
theorem fA_succ (f : List I_Column) {l : List I_Change} {i : Nat} (h : i < l.length) : fA f l (i + 1) = chF (fA f l i) l[i] := by
  unfold fA; rw [take_succ1 h, List.foldl_append]; rfl
/-- All changes are possible. -/
def gC (f : List I_Column) (l : List I_Change) : Prop := ∀ i (h : i < l.length), poss (fA f l i) l[i]
noncomputable instance (f : List I_Column) (l : List I_Change) : Decidable (gC f l) := Classical.propDecidable _
/-- A chain of formats. -/
def cO (f : List I_Column) (l : List I_Change) : Prop := vF f ∧ l.length ≤ 8 ∧ gC f l
noncomputable instance (f : List I_Column) (l : List I_Change) : Decidable (cO f l) := Classical.propDecidable _
/-- The formats of a chain. -/
def chs (f : List I_Column) (l : List I_Change) : List (List I_Column) := (List.range (l.length + 1)).map (fA f l)
theorem chs_len (f : List I_Column) (l : List I_Change) : (chs f l).length = l.length + 1 := by unfold chs; simp
theorem chs_get {f : List I_Column} {l : List I_Change} {i : Nat} (h : i < (chs f l).length) : (chs f l)[i] = fA f l i := by show ((List.range (l.length + 1)).map (fA f l))[i]'(by simpa [chs] using h) = _; simp
theorem chs_ix {f : List I_Column} {l : List I_Change} {i : Int} {n : Nat} (h : i = n) (hn : n ≤ l.length) : ixI (chs f l) i = some (fA f l n) := by
  rw [ixI_eq h (by rw [chs_len]; omega), chs_get]
/-- Texts of changes are not too long. -/
def bCs (l : List I_Change) : Prop := l.length ≤ 5000000 ∧ ∀ c ∈ l, c.column.default.text.size ≤ 5000000
/-- A row that is valid. -/
def vRow (r : List I_Value) : Prop := r.length ≤ 5 ∧ ∀ i (h : i < r.length), vV r[i]
noncomputable instance (r : List I_Value) : Decidable (vRow r) := Classical.propDecidable _
/-- A row is not too large. -/
def bR (r : List I_Value) : Prop := r.length ≤ 5000000 ∧ ∀ v ∈ r, v.text.size ≤ 5000000
theorem fit_bR {f : List I_Column} {r : List I_Value} (h : fitP f r) (hl : f.length ≤ 5000000) : bR r := ⟨by have := h.1; omega, fun v hv => by
  obtain ⟨i, hi, rfl⟩ := List.mem_iff_getElem.1 hv
  have := vV_size (h.2 i hi (by have := h.1; omega)).1; omega⟩
theorem len_chF {f : List I_Column} {c : I_Change} (h : f.length ≤ 5000000) (hp : poss f c) : (chF f c).length ≤ 5000000 := by
  unfold chF
  split
  · rcases hp with e | e | ⟨e1, e2, e3, e4⟩
    · rw [List.length_insertIdx]; split <;> omega
    · omega
    · omega
  · split
    · rw [List.length_eraseIdx]; split <;> omega
    · rw [List.length_modify]; exact h
theorem vF_fA {f : List I_Column} {l : List I_Change} (h : vF f) : ∀ (i : Nat), i ≤ l.length → (∀ k (h : k < l.length), k < i → poss (fA f l k) l[k]) → vF (fA f l i)
  | 0, _, _ => h
  | i + 1, hi, hg => by
    rw [fA_succ f (by omega)]
    exact vF_chF (vF_fA h i (by omega) fun k hk hki => hg k hk (by omega)) (hg i (by omega) (by omega))
theorem bN_fA {f : List I_Column} {l : List I_Change} (h : bN f) (hl : f.length ≤ 5000000) : ∀ (i : Nat), i ≤ l.length → (∀ k (h : k < l.length), k < i → poss (fA f l k) l[k]) → bN (fA f l i) ∧ (fA f l i).length ≤ 5000000
  | 0, _, _ => ⟨h, hl⟩
  | i + 1, hi, hg => by
    rw [fA_succ f (by omega)]
    have h1 := bN_fA h hl i (by omega) fun k hk hki => hg k hk (by omega)
    have h2 := hg i (by omega) (by omega)
    exact ⟨bN_chF h1.1 h2, len_chF h1.2 h2⟩
theorem cO_fA {f : List I_Column} {l : List I_Change} (h : cO f l) {i : Nat} (hi : i ≤ l.length) : vF (fA f l i) := vF_fA h.1 i hi fun k hk _ => h.2.2 k hk
theorem ext_fA {f : List I_Column} {l : List I_Change} {i : Nat} (h : i < l.length) : (List.range (i + 1 + 1)).map (fA f l) = (List.range (i + 1)).map (fA f l) ++ [chF (fA f l i) l[i]] := by
  rw [List.range_succ (n := i + 1), List.map_append, ← fA_succ f h]; rfl
theorem rng_ix {f : List I_Column} {l : List I_Change} {i m : Nat} (h : i ≤ m) : ixI ((List.range (m + 1)).map (fA f l)) (i : Int) = some (fA f l i) := by
  rw [ixI_nat (by simp; omega)]; simp
/-- A row moved from format a to format i. -/
def mA (r : List I_Value) (l : List I_Change) (a i : Nat) : List I_Value := ((l.take i).drop a).foldl mv r
theorem mA_self (r : List I_Value) (l : List I_Change) (a : Nat) : mA r l a a = r := by
  unfold mA; rw [List.drop_eq_nil_of_le (by rw [List.length_take]; omega)]; rfl
theorem mA_succ (r : List I_Value) {l : List I_Change} {a i : Nat} (ha : a ≤ i) (h : i < l.length) : mA r l a (i + 1) = mv (mA r l a i) l[i] := by
  unfold mA; rw [take_succ1 h, List.drop_append_of_le_length (by rw [List.length_take]; omega), List.foldl_append]; rfl
theorem fit_mA {f : List I_Column} {l : List I_Change} {r : List I_Value} {a : Nat} (hg : gC f l) (h : fitP (fA f l a) r) : ∀ (i : Nat), a ≤ i → i ≤ l.length → fitP (fA f l i) (mA r l a i)
  | i, ha, hi => by
    rcases Nat.lt_or_eq_of_le ha with hlt | rfl
    · obtain ⟨i, rfl⟩ : ∃ j, i = j + 1 := ⟨i - 1, by omega⟩
      rw [fA_succ f (by omega), mA_succ r (by omega) (by omega)]
      exact fit_mv (fit_mA hg h i (by omega) (by omega)) (hg i (by omega))
    · rw [mA_self]; exact h
section
variable {N : Nat} (hN : 100000000 ≤ N)
include hN
omit hN in
theorem copyS {g : List I_Column} (hg : g.length ≤ 5000000) : m_S_copyColumns N g = some g := by
  unfold m_S_copyColumns
  rw [appM0 (by omega)]; rfl
theorem formatsS {f : List I_Column} {l : List I_Change} (hl : f.length ≤ 5000000) (hb : bN f) (hc : bCs l) : m_S_formats N f l = some (if gC f l then (chs f l, true) else ([], false)) := by
  have hcl := hc.1
  refine ok.val ?_
  unfold m_S_formats
  refine ok.eq (copyS hl) (ok.call (P := fun o => (o = .inl (chs f l) ∧ gC f l) ∨ (o = .inr ([], false) ∧ ¬ gC f l)) (ok.each l.length (fun i s => s = ((i : Int), (List.range (i + 1)).map (fA f l)) ∧ ∀ k (h : k < l.length), k < i → poss (fA f l k) l[k]) _ ?_ ?_ N 0 _ (Nat.zero_le _) ⟨rfl, fun k h hk => by omega⟩ (by omega)) ?_)
  · rintro i s hi ⟨rfl, hg⟩
    have hf := bN_fA hb hl i (by omega) hg
    show ok (m_S_formats_b1 N l (i : Int) _) _
    unfold m_S_formats_b1
    refine ok.ift (by omega) (ok.eq (rng_ix (Nat.le_refl _)) (ok.eq (ixI_nat hi) (ok.eq (chFS hN hf.2 hf.1 (hc.2 _ (List.getElem_mem _))) ?_)))
    by_cases hp : poss (fA f l i) l[i]
    · rw [if_pos hp]
      refine ok.bt rfl (ok.app (by simp; omega) (ok.chk (by omega) (ok.some ⟨?_, fun k hk hki => ?_⟩)))
      · rw [ext_fA hi]; simp
      · rcases Nat.lt_succ_iff_lt_or_eq.1 hki with h | rfl
        · exact hg k hk h
        · exact hp
    · rw [if_neg hp]
      exact ok.bf rfl (ok.some (.inr ⟨rfl, fun h => hp (h i hi)⟩))
  · rintro s ⟨rfl, hg⟩
    show ok (m_S_formats_b1 N l _ _) _
    unfold m_S_formats_b1
    exact ok.iff (by omega) (ok.some (.inl ⟨rfl, fun k hk => hg k hk hk⟩))
  · rintro o (⟨rfl, h⟩ | ⟨rfl, h⟩)
    · rw [if_pos h]; exact ok.some rfl
    · rw [if_neg h]; exact ok.some rfl
theorem chainI {f : List I_Column} {l : List I_Change} (hb : bS f) (hc : bCs l) : m_I_ChainOf N f l = some (if cO f l then (chs f l, true) else ([], false)) := by
  have hcl := hc.1
  have hl := hb.1
  refine ok.val ?_
  unfold m_I_ChainOf
  refine ok.eq (vFI hN hb) (ok.ite (fun hv => ok.ite (fun h8 => ok.some ?_) fun h8 => ?_) fun hv => ok.some ?_)
  · rw [if_neg fun e : cO f l => by have := e.2.1; omega]
  · refine ok.eq (show m_slices_Clone_I_Column N f = some f from appM0 (by omega)) (ok.call (P := fun o => (o = .inl (chs f l) ∧ gC f l) ∨ (o = .inr ([], false) ∧ ¬ gC f l)) (ok.each l.length (fun i s => s = ((i : Int), (List.range (i + 1)).map (fA f l)) ∧ ∀ k (h : k < l.length), k < i → poss (fA f l k) l[k]) _ ?_ ?_ N 0 _ (Nat.zero_le _) ⟨rfl, fun k h hk => by omega⟩ (by omega)) ?_)
    · rintro i s hi ⟨rfl, hg⟩
      have hf := vF_fA hv i (by omega) hg
      show ok (m_I_ChainOf_b1 N l (i : Int) _) _
      unfold m_I_ChainOf_b1
      refine ok.ift (by omega) (ok.eq (ixI_nat hi) (ok.eq (rng_ix (Nat.le_refl _)) (ok.eq (chFI hN (vF_bS hf) (hc.2 _ (List.getElem_mem _))) ?_)))
      by_cases hp : poss (fA f l i) l[i]
      · rw [if_pos ⟨hf, hp⟩]
        refine ok.bt rfl (ok.app (by simp; omega) (ok.chk (by omega) (ok.some ⟨?_, fun k hk hki => ?_⟩)))
        · rw [ext_fA hi]; simp
        · rcases Nat.lt_succ_iff_lt_or_eq.1 hki with h | rfl
          · exact hg k hk h
          · exact hp
      · rw [if_neg fun e => hp e.2]
        exact ok.bf rfl (ok.some (.inr ⟨rfl, fun h => hp (h i hi)⟩))
    · rintro s ⟨rfl, hg⟩
      show ok (m_I_ChainOf_b1 N l _ _) _
      unfold m_I_ChainOf_b1
      exact ok.iff (by omega) (ok.some (.inl ⟨rfl, fun k hk => hg k hk hk⟩))
    · rintro o (⟨rfl, h⟩ | ⟨rfl, h⟩)
      · rw [if_pos (show cO f l from ⟨hv, by omega, h⟩)]; exact ok.some rfl
      · rw [if_neg fun e : cO f l => h e.2.2]; exact ok.some rfl
  · rw [if_neg fun e : cO f l => hv e.1]
theorem vchainS {f : List I_Column} {l : List I_Change} (hb : bS f) (hc : bCs l) : m_S_validChain N f l = some (decide (cO f l)) := by
  refine bool_eq ?_
  unfold m_S_validChain
  refine ok.eq (vFS hN hb) (ok.ite (fun hv => ok.ite (fun h8 => ok.some ?_) fun h8 => ok.eq (formatsS hN hb.1 (vF_bN hv) hc) (ok.some ?_)) fun hv => ok.some ?_)
  · exact ⟨fun e => (by cases e), fun e => by have := e.2.1; omega⟩
  · by_cases hg : gC f l
    · rw [if_pos hg]; exact ⟨fun _ => ⟨hv, by omega, hg⟩, fun _ => rfl⟩
    · rw [if_neg hg]; exact ⟨fun e => (by cases e), fun e => (hg e.2.2).elim⟩
  · exact ⟨fun e => (by cases e), fun e => (hv e.1).elim⟩
theorem fitI {f : List I_Column} {r : List I_Value} (hb : bS f) (hr : bR r) : m_I_RowFits N f r = some (decide (vF f ∧ fitP f r)) := by
  have hrl := hr.1
  refine bool_eq ?_
  unfold m_I_RowFits fitP
  refine ok.eq (vFI hN hb) (ok.ite (fun hv => ok.ite (fun hl => ?_) fun hl => ok.some ⟨fun e => (by cases e), fun e => by have := e.2.1; omega⟩) fun hv => ok.some ⟨fun e => (by cases e), fun e => (hv e.1).elim⟩)
  refine ok.call (all_ok (n := r.length) 0 (fun i => ∀ (h : i < r.length) (h' : i < f.length), vV r[i] ∧ (r[i].kind = 0 ∨ r[i].kind = f[i].kind)) (by omega) (fun i hi _ => ?_) ?_) ?_
  · rw [Int.add_zero]
    have hi' : i < f.length := by omega
    show ok (m_I_RowFits_b1 N f r (i : Int)) _
    unfold m_I_RowFits_b1
    refine ok.ift (by omega) (ok.eq (ixI_nat hi) (ok.eq (vVI hN (hr.2 _ (List.getElem_mem _))) (ok.ite (fun hc => ok.ite (fun k0 => ok.chk (by omega) (ok.some (.inl ⟨rfl, fun _ _ => ⟨hc, .inl k0⟩⟩))) fun k0 => ok.eq (ixI_nat hi') (ok.ite (fun k1 => ok.chk (by omega) (ok.some (.inl ⟨rfl, fun _ _ => ⟨hc, .inr k1⟩⟩))) fun k1 => ok.some (.inr ⟨rfl, fun e => ?_⟩))) fun hc => ok.some (.inr ⟨rfl, fun e => hc (e hi hi').1⟩))))
    rcases (e hi hi').2 with e | e
    · exact k0 e
    · exact k1 e
  · rw [Int.add_zero]
    show m_I_RowFits_b1 N f r _ = _
    unfold m_I_RowFits_b1
    rw [decide_eq_false (by omega)]; rfl
  · rintro o (⟨rfl, hh⟩ | ⟨rfl, hh⟩)
    · exact ok.some ⟨fun _ => ⟨hv, by omega, fun i hi => hh i hi hi⟩, fun _ => rfl⟩
    · exact ok.some ⟨fun e => (by cases e), fun e => (hh fun k hk h => e.2.2 k h).elim⟩
theorem vrowS {r : List I_Value} (hr : bR r) : m_S_validRow N r = some (decide (vRow r)) := by
  have hrl := hr.1
  refine bool_eq ?_
  unfold m_S_validRow vRow
  refine ok.call (all_ok (n := r.length) 0 (fun i => ∀ (h : i < r.length), vV r[i]) (by omega) (fun i hi _ => ?_) ?_) ?_
  · rw [Int.add_zero]
    show ok (m_S_validRow_b1 N r (i : Int)) _
    unfold m_S_validRow_b1
    refine ok.ift (by omega) (ok.eq (ixI_nat hi) (ok.eq (vVS hN (hr.2 _ (List.getElem_mem _))) (ok.ite (fun hc => ok.chk (by omega) (ok.some (.inl ⟨rfl, fun _ => hc⟩))) fun hc => ok.some (.inr ⟨rfl, fun e => hc (e hi)⟩))))
  · rw [Int.add_zero]
    show m_S_validRow_b1 N r _ = _
    unfold m_S_validRow_b1
    rw [decide_eq_false (by omega)]; rfl
  · rintro o (⟨rfl, hh⟩ | ⟨rfl, hh⟩)
    · refine ok.some ?_
      rw [decide_eq_true_eq]
      exact ⟨fun e => ⟨by omega, fun i hi => hh i hi hi⟩, fun e => by have := e.1; omega⟩
    · exact ok.some ⟨fun e => (by cases e), fun e => (hh fun k hk h => e.2 k h).elim⟩
theorem fitS {f : List I_Column} {r : List I_Value} (hr : bR r) (hf : f.length ≤ 5) : m_S_fits N f r = some (decide (fitP f r)) := by
  have hrl := hr.1
  refine bool_eq ?_
  unfold m_S_fits
  refine ok.ite (fun hl => ?_) fun hl => ok.some ⟨fun e => (by cases e), fun e => by have := e.1; omega⟩
  refine ok.eq (vrowS hN hr) (ok.ite (fun hv => ?_) fun hv => ok.some ⟨fun e => (by cases e), fun e => (hv ⟨by omega, fun i hi => (e.2 i hi (by omega)).1⟩).elim⟩)
  unfold fitP
  refine ok.call (all_ok (n := r.length) 0 (fun i => ∀ (h : i < r.length) (h' : i < f.length), vV r[i] ∧ (r[i].kind = 0 ∨ r[i].kind = f[i].kind)) (by omega) (fun i hi _ => ?_) ?_) ?_
  · rw [Int.add_zero]
    have hi' : i < f.length := by omega
    have hc := hv.2 i hi
    show ok (m_S_fits_b1 N f r (i : Int)) _
    unfold m_S_fits_b1
    refine ok.ift (by omega) (ok.eq (ixI_nat hi) (ok.ite (fun k0 => ok.chk (by omega) (ok.some (.inl ⟨rfl, fun _ _ => ⟨hc, .inl k0⟩⟩))) fun k0 => ok.eq (ixI_nat hi) (ok.eq (ixI_nat hi') (ok.ite (fun k1 => ok.chk (by omega) (ok.some (.inl ⟨rfl, fun _ _ => ⟨hc, .inr k1⟩⟩))) fun k1 => ok.some (.inr ⟨rfl, fun e => ?_⟩)))))
    rcases (e hi hi').2 with e | e
    · exact k0 e
    · exact k1 e
  · rw [Int.add_zero]
    show m_S_fits_b1 N f r _ = _
    unfold m_S_fits_b1
    rw [decide_eq_false (by omega)]; rfl
  · rintro o (⟨rfl, hh⟩ | ⟨rfl, hh⟩)
    · exact ok.some ⟨fun _ => ⟨by omega, fun i hi => hh i hi hi⟩, fun _ => rfl⟩
    · exact ok.some ⟨fun e => (by cases e), fun e => (hh fun k hk h => e.2 k h).elim⟩
theorem chrowI {f : List I_Column} {r : List I_Value} {c : I_Change} (hv : vF f) (hf : fitP f r) (hp : poss f c) (hc : c.column.default.text.size ≤ 5000000) : m_I_ChangeRow N f r c = some (mv r c, true) := by
  have hl := hv.1
  have hrl := hf.1
  refine ok.val ?_
  unfold m_I_ChangeRow
  refine ok.eq (fitI hN (vF_bS hv) (fit_bR hf (by omega))) (ok.ift ⟨hv, hf⟩ (ok.eq (possI hN hc) (ok.ift hp (ok.eq (show m_slices_Clone_I_Value N r = some r from appM0 (by omega)) ?_))))
  unfold mv
  rcases hp with ⟨k, h1, h2, h3, h4⟩ | ⟨k, h1, h2, h3⟩ | ⟨k, h1, h2, h3⟩
  · refine ok.ift k (ok.eq (insM_eq ⟨h1, by omega⟩ (by omega)) (ok.some ?_))
    rw [if_pos k]
  · refine ok.iff (by omega) (ok.ift k (ok.chk (by omega) (ok.eq (delM_eq ⟨h1, by omega⟩) (ok.some ?_))))
    rw [if_neg (by omega), if_pos k]
  · have h2' : c.at_.toNat < r.length := by omega
    refine ok.iff (by omega) (ok.iff (by omega) (ok.eq (ixI_eq (n := c.at_.toNat) (by omega) h2') (ok.eq (widI hN (hf.2 _ h2' h2).1) (ok.some ?_))))
    rw [if_neg (by omega), if_neg (by omega), mod_eq h2']
theorem moveS {f : List I_Column} {r : List I_Value} {c : I_Change} (hv : vF f) (hf : fitP f r) (hp : poss f c) : m_S_move N r c = some (mv r c) := by
  have hl := hv.1
  have hrl := hf.1
  have hat := poss_at hp
  refine ok.val ?_
  unfold m_S_move
  refine ok.eq (subM_eq (by omega)) (ok.eq (appM0 (by simp; omega)) ?_)
  unfold mv
  rcases hp with ⟨k, h1, h2, h3, h4⟩ | ⟨k, h1, h2, h3⟩ | ⟨k, h1, h2, h3⟩
  · refine ok.ift k (ok.app (by simp; omega) (ok.eq (subM_eq (by omega)) (ok.app (by simp; omega) (ok.some ?_))))
    rw [if_pos k, ← ins_eq (by omega)]
    simp only [Int.toNat_zero, List.drop_zero, Nat.sub_zero, List.append_assoc, List.singleton_append]
    congr 2
    exact List.take_of_length_le (by simp)
  · refine ok.iff (by omega) (ok.iff (by omega) (ok.chk (by omega) (ok.eq (subM_eq (by omega)) (ok.app (by simp; omega) (ok.some ?_)))))
    rw [if_neg (by omega), if_pos k, List.eraseIdx_eq_take_drop_succ]
    have e : (c.at_ + 1).toNat = c.at_.toNat + 1 := by omega
    simp only [Int.toNat_zero, List.drop_zero, Nat.sub_zero, e]
    congr 1
    exact List.take_of_length_le (by simp)
  · have h2' : c.at_.toNat < r.length := by omega
    have hn := vV_num (hf.2 _ h2' h2).1
    refine ok.iff (by omega) (ok.ift k (ok.eq (ixI_eq (n := c.at_.toNat) (by omega) h2') (ok.eq (widS hN (by omega)) (ok.app (by simp; omega) (ok.chk (by omega) (ok.eq (subM_eq (by omega)) (ok.app (by simp; omega) (ok.some ?_))))))))
    rw [if_neg (by omega), if_neg (by omega), List.modify_eq_take_cons_drop h2']
    have e : (c.at_ + 1).toNat = c.at_.toNat + 1 := by omega
    simp only [Int.toNat_zero, List.drop_zero, Nat.sub_zero, e, List.append_assoc, List.singleton_append]
    congr 2
    exact List.take_of_length_le (by simp)
theorem readI {f : List I_Column} {l : List I_Change} {r : List I_Value} {a : Int} {n : Nat} (ho : cO f l) (hc : bCs l) (ha : a = n) (hn : n ≤ l.length) (hf : fitP (fA f l n) r) : m_I_ReadRow N f l a (l.length : Int) r = some (mA r l n l.length, true) := by
  subst ha
  have hcl := hc.1
  have hvn := cO_fA ho hn
  have hrl := hf.1
  have hvl := hvn.1
  refine ok.val ?_
  unfold m_I_ReadRow
  refine ok.eq (chainI hN (vF_bS ho.1) hc) ?_
  rw [if_pos ho]
  have hlen := chs_len f l
  refine ok.bt rfl (ok.iff (by omega) (ok.iff (by omega) (ok.iff (by dsimp only; omega) (ok.eq (chs_ix rfl hn) (ok.eq (fitI hN (vF_bS hvn) (fit_bR hf (by omega))) (ok.ift ⟨hvn, hf⟩ (ok.eq (show m_slices_Clone_I_Value N r = some r from appM0 (by omega)) ?_)))))))
  refine ok.call (P := fun o => o = .inl (mA r l n l.length)) (ok.each (l.length - n) (fun i s => s = (((n + i : Nat) : Int), mA r l n (n + i))) _ ?_ ?_ N 0 _ (Nat.zero_le _) (by rw [Nat.add_zero, mA_self]) (by omega)) ?_
  · rintro i s hi rfl
    show ok (m_I_ReadRow_b1 N l _ _ _ _) _
    unfold m_I_ReadRow_b1
    refine ok.ift (by omega) (ok.eq (chs_ix rfl (by omega)) (ok.eq (ixI_nat (by omega)) (ok.eq (chrowI hN (cO_fA ho (by omega)) (fit_mA ho.2.2 hf _ (by omega) (by omega)) (ho.2.2 (n + i) (by omega)) (hc.2 _ (List.getElem_mem _))) (ok.bt rfl (ok.chk (by omega) (ok.some ?_))))))
    rw [show n + (i + 1) = n + i + 1 from rfl, mA_succ r (by omega) (by omega)]; simp
  · rintro s rfl
    show ok (m_I_ReadRow_b1 N l _ _ _ _) _
    unfold m_I_ReadRow_b1
    refine ok.iff (by omega) (ok.some ?_)
    rw [show n + (l.length - n) = l.length by omega]
  · rintro o rfl
    exact ok.some rfl
end
end V
end Go.Proofs.YthhlkedkeefgnaaDoor
namespace Go.Proofs.YthhlkedkeefgnaaDoor
namespace V
set_option linter.unusedVariables false
set_option linter.unusedSimpArgs false
set_option maxHeartbeats 1000000
/-- A row of a table that is valid. -/
def rV (t : I_Table) (r : I_Tagged) : Prop := 0 ≤ r.tag ∧ r.tag ≤ t.changes.length ∧ fitP (fA t.first t.changes r.tag.toNat) r.row
noncomputable instance (t : I_Table) (r : I_Tagged) : Decidable (rV t r) := Classical.propDecidable _
/-- A table that is valid. -/
def tV (t : I_Table) : Prop := cO t.first t.changes ∧ t.rows.length ≤ 10 ∧ ∀ i (h : i < t.rows.length), rV t t.rows[i]
noncomputable instance (t : I_Table) : Decidable (tV t) := Classical.propDecidable _
/-- A table is not too large. -/
structure bT (t : I_Table) : Prop where
  f : bS t.first
  c : bCs t.changes
  rl : t.rows.length ≤ 5000000
  r : ∀ i (h : i < t.rows.length), bR t.rows[i].row
/-- The last format. -/
def fL (t : I_Table) : List I_Column := fA t.first t.changes t.changes.length
theorem fL_v {t : I_Table} (h : tV t) : vF (fL t) := cO_fA h.1 (Nat.le_refl _)
theorem rV_bR {t : I_Table} {r : I_Tagged} (ho : cO t.first t.changes) (h : rV t r) : bR r.row := by
  have := (cO_fA ho (i := r.tag.toNat) (by have := h.2.1; omega)).1
  exact fit_bR h.2.2 (by omega)
theorem tV_bT {t : I_Table} (h : tV t) (hc : bCs t.changes) : bT t := ⟨vF_bS h.1.1, hc, by have := h.2.1; omega, fun i hi => rV_bR h.1 (h.2.2 i hi)⟩
/-- A row in the last format. -/
def adv (t : I_Table) (r : I_Tagged) : List I_Value := mA r.row t.changes r.tag.toNat t.changes.length
theorem adv_fit {t : I_Table} {r : I_Tagged} (h : tV t) (hr : rV t r) : fitP (fL t) (adv t r) := fit_mA h.1.2.2 hr.2.2 _ (by have := hr.2.1; omega) (Nat.le_refl _)
/-- A row is not in the last format. -/
def oldB (t : I_Table) (r : I_Tagged) : Bool := decide (r.tag ≠ t.changes.length)
/-- A row rewritten. -/
def toL (t : I_Table) (r : I_Tagged) : I_Tagged := ⟨t.changes.length, adv t r⟩
theorem toL_v {t : I_Table} {r : I_Tagged} (h : tV t) (hr : rV t r) : rV t (toL t r) := ⟨Int.natCast_nonneg _, Int.le_refl _, adv_fit h hr⟩
section
variable {α β : Type} (o : α → Bool) (a : α → α)
def rwL : Nat → List α → List α
  | _, [] => []
  | n, x :: xs => if o x = true ∧ 0 < n then a x :: rwL (n - 1) xs else x :: rwL n xs
theorem rwL_len : ∀ (n : Nat) (xs : List α), (rwL o a n xs).length = xs.length
  | _, [] => rfl
  | n, x :: xs => by
    unfold rwL
    split <;> simp [rwL_len _ xs]
theorem rwL_pos {n : Nat} {x : α} {xs : List α} (h : o x = true ∧ 0 < n) : rwL o a n (x :: xs) = a x :: rwL o a (n - 1) xs := by rw [rwL, if_pos h]
theorem rwL_neg {n : Nat} {x : α} {xs : List α} (h : ¬ (o x = true ∧ 0 < n)) : rwL o a n (x :: xs) = x :: rwL o a n xs := by rw [rwL, if_neg h]
theorem rwL_app : ∀ (n : Nat) (xs ys : List α), rwL o a n (xs ++ ys) = rwL o a n xs ++ rwL o a (n - xs.countP o) ys
  | n, [], ys => rfl
  | n, x :: xs, ys => by
    rw [List.cons_append, List.countP_cons]
    by_cases h : o x = true ∧ 0 < n
    · rw [rwL_pos o a h, rwL_pos o a h, rwL_app (n - 1) xs ys, if_pos h.1, List.cons_append]
      congr 3; omega
    · rw [rwL_neg o a h, rwL_neg o a h, rwL_app n xs ys, List.cons_append]
      by_cases hx : o x = true
      · have : n = 0 := by
          rcases Nat.eq_zero_or_pos n with h1 | h1
          · exact h1
          · exact (h ⟨hx, h1⟩).elim
        subst this; simp
      · rw [if_neg hx]; simp
theorem rwL_get : ∀ (n : Nat) (xs : List α) (i : Nat) (h : i < xs.length) (h' : i < (rwL o a n xs).length), (rwL o a n xs)[i] = xs[i] ∨ (rwL o a n xs)[i] = a xs[i]
  | n, x :: xs, 0, h, h' => by
    simp only [rwL]
    split
    · exact .inr rfl
    · exact .inl rfl
  | n, x :: xs, i + 1, h, h' => by
    by_cases hc : o x = true ∧ 0 < n
    · have e : rwL o a n (x :: xs) = a x :: rwL o a (n - 1) xs := by rw [rwL, if_pos hc]
      simp only [e, List.getElem_cons_succ]
      exact rwL_get (n - 1) xs i _ _
    · have e : rwL o a n (x :: xs) = x :: rwL o a n xs := by rw [rwL, if_neg hc]
      simp only [e, List.getElem_cons_succ]
      exact rwL_get n xs i _ _
theorem rwL_one (n : Nat) (x : α) : rwL o a n [x] = [if o x = true ∧ 0 < n then a x else x] := by
  simp only [rwL]
  split <;> rfl
end
/-- Some rows rewritten. -/
def rwT (t : I_Table) (n : Nat) : I_Table := ⟨t.first, t.changes, rwL (oldB t) (toL t) n t.rows⟩
theorem rwT_v {t : I_Table} (h : tV t) (n : Nat) : tV (rwT t n) := by
  refine ⟨h.1, ?_, fun i hi => ?_⟩
  · show (rwL _ _ _ _).length ≤ 10
    rw [rwL_len]; exact h.2.1
  · have hi' : i < (rwL (oldB t) (toL t) n t.rows).length := hi
    rw [rwL_len] at hi'
    show rV t (rwL (oldB t) (toL t) n t.rows)[i]
    rcases rwL_get (oldB t) (toL t) n t.rows i hi' hi with e | e
    · rw [e]; exact h.2.2 i hi'
    · rw [e]; exact toL_v h (h.2.2 i hi')
/-- How many rows are not in the last format. -/
noncomputable def oldN (t : I_Table) : Int := if tV t then (t.rows.countP (oldB t) : Int) else -1
def noT : I_Table := ⟨[], [], []⟩
/-- The rows of a table in the last format. -/
noncomputable def tR (t : I_Table) : List (List I_Value) := if tV t then t.rows.map (adv t) else []
/-- A table with another row. -/
def insT (t : I_Table) (r : List I_Value) : I_Table := ⟨t.first, t.changes, t.rows ++ [⟨t.changes.length, r⟩]⟩
/-- A table with another change. -/
def altT (t : I_Table) (c : I_Change) : I_Table := ⟨t.first, t.changes ++ [c], t.rows⟩
def canI (t : I_Table) (r : List I_Value) : Prop := tV t ∧ t.rows.length ≠ 10 ∧ fitP (fL t) r
noncomputable instance (t : I_Table) (r : List I_Value) : Decidable (canI t r) := Classical.propDecidable _
def canA (t : I_Table) (c : I_Change) : Prop := tV t ∧ t.changes.length ≠ 8 ∧ poss (fL t) c
noncomputable instance (t : I_Table) (c : I_Change) : Decidable (canA t c) := Classical.propDecidable _
theorem insT_v {t : I_Table} {r : List I_Value} (h : canI t r) : tV (insT t r) := by
  obtain ⟨h1, h2, h3⟩ := h
  have hl := h1.2.1
  refine ⟨h1.1, by show (t.rows ++ [_]).length ≤ 10; simp; omega, fun i hi => ?_⟩
  have hi' : i < (t.rows ++ [(⟨t.changes.length, r⟩ : I_Tagged)]).length := hi
  show rV t ((t.rows ++ [⟨t.changes.length, r⟩])[i]'hi')
  have hi'' := hi'
  rw [List.length_append, List.length_singleton] at hi''
  rcases Nat.lt_succ_iff_lt_or_eq.1 hi'' with h | rfl
  · rw [List.getElem_append_left h]; exact h1.2.2 i h
  · rw [List.getElem_append_right (Nat.le_refl _)]
    simp only [Nat.sub_self, List.getElem_cons_zero]
    exact ⟨Int.natCast_nonneg _, Int.le_refl _, h3⟩
theorem fA_app (f : List I_Column) {l : List I_Change} (c : I_Change) {i : Nat} (h : i ≤ l.length) : fA f (l ++ [c]) i = fA f l i := by
  unfold fA; rw [List.take_append_of_le_length h]
theorem gC_app {f : List I_Column} {l : List I_Change} {c : I_Change} : gC f (l ++ [c]) ↔ gC f l ∧ poss (fA f l l.length) c := by
  constructor
  · intro h
    refine ⟨fun i hi => ?_, ?_⟩
    · have := h i (by simp; omega)
      rw [fA_app f c (by omega), List.getElem_append_left hi] at this; exact this
    · have := h l.length (by simp)
      rw [fA_app f c (Nat.le_refl _), List.getElem_append_right (Nat.le_refl _)] at this
      simpa using this
  · rintro ⟨h1, h2⟩ i hi
    rw [List.length_append, List.length_singleton] at hi
    rw [fA_app f c (by omega)]
    rcases Nat.lt_succ_iff_lt_or_eq.1 hi with h | rfl
    · rw [List.getElem_append_left h]; exact h1 i h
    · rw [List.getElem_append_right (Nat.le_refl _)]
      simp only [Nat.sub_self, List.getElem_cons_zero]; exact h2
theorem altT_v {t : I_Table} {c : I_Change} (h : canA t c) : tV (altT t c) := by
  obtain ⟨h1, h2, h3⟩ := h
  have hl := h1.1.2.1
  refine ⟨⟨h1.1.1, by show (t.changes ++ [c]).length ≤ 8; simp; omega, gC_app.2 ⟨h1.1.2.2, h3⟩⟩, h1.2.1, fun i hi => ?_⟩
  have := h1.2.2 i hi
  refine ⟨this.1, ?_, ?_⟩
  · show t.rows[i].tag ≤ ((t.changes ++ [c]).length : Int)
    have := this.2.1
    simp; omega
  · show fitP (fA t.first (t.changes ++ [c]) t.rows[i].tag.toNat) t.rows[i].row
    rw [fA_app _ _ (by have := this.2.1; omega)]; exact this.2.2
theorem altT_adv {t : I_Table} {c : I_Change} {r : I_Tagged} (h : r.tag ≤ t.changes.length) : adv (altT t c) r = mv (adv t r) c := by
  show mA r.row (t.changes ++ [c]) r.tag.toNat (t.changes ++ [c]).length = _
  rw [List.length_append, List.length_singleton, mA_succ _ (by omega) (by simp)]
  congr 1
  · unfold adv mA
    rw [List.take_append_of_le_length (Nat.le_refl _)]
  · simp
section
variable {N : Nat} (hN : 100000000 ≤ N)
include hN
theorem lastI {t : I_Table} (hb : bT t) : m_I_Table_lastFormat N t = some (if tV t then (fL t, true) else ([], false)) := by
  have hcl := hb.c.1
  have hrl := hb.rl
  refine ok.val ?_
  unfold m_I_Table_lastFormat
  refine ok.eq (chainI hN hb.f hb.c) ?_
  by_cases ho : cO t.first t.changes
  · rw [if_pos ho]
    have hlen := chs_len t.first t.changes
    refine ok.bt rfl (ok.ite (fun h10 => ok.some ?_) fun h10 => ?_)
    · rw [if_neg fun e : tV t => by have := e.2.1; omega]
    · refine ok.call (P := fun o => (o = .inl () ∧ ∀ i (h : i < t.rows.length), rV t t.rows[i]) ∨ (o = .inr ([], false) ∧ ¬ ∀ i (h : i < t.rows.length), rV t t.rows[i])) (ok.each t.rows.length (fun i s => s = (i : Int) ∧ ∀ k (h : k < t.rows.length), k < i → rV t t.rows[k]) _ ?_ ?_ N 0 _ (Nat.zero_le _) ⟨rfl, fun k h hk => by omega⟩ (by omega)) ?_
      · rintro i s hi ⟨rfl, hg⟩
        show ok (m_I_Table_lastFormat_b1 N t _ (i : Int)) _
        unfold m_I_Table_lastFormat_b1
        refine ok.ift (by omega) (ok.eq (ixI_nat hi) (ok.ite (fun c1 => ok.some (.inr ⟨rfl, fun e => by have := (e i hi).1; omega⟩)) fun c1 => ok.ite (fun c2 => ok.some (.inr ⟨rfl, fun e => ?_⟩)) fun c2 => ?_))
        · have := (e i hi).2.1
          dsimp only at c2; omega
        · have hr := hb.r i hi
          dsimp only at c2
          have hv := cO_fA ho (i := t.rows[i].tag.toNat) (by omega)
          refine ok.eq (chs_ix (n := t.rows[i].tag.toNat) (by omega) (by omega)) (ok.eq (fitI hN (vF_bS hv) hr) (ok.ite (fun c3 => ok.chk (by omega) (ok.some ⟨by simp, fun k hk hki => ?_⟩)) fun c3 => ok.some (.inr ⟨rfl, fun e => c3 ⟨hv, (e i hi).2.2⟩⟩)))
          rcases Nat.lt_succ_iff_lt_or_eq.1 hki with h | rfl
          · exact hg k hk h
          · exact ⟨by omega, by omega, c3.2⟩
      · rintro s ⟨rfl, hg⟩
        show ok (m_I_Table_lastFormat_b1 N t _ _) _
        unfold m_I_Table_lastFormat_b1
        exact ok.iff (by omega) (ok.some (.inl ⟨rfl, fun k hk => hg k hk hk⟩))
      · rintro o (⟨rfl, h⟩ | ⟨rfl, h⟩)
        · rw [if_pos (show tV t from ⟨ho, by omega, h⟩)]
          show ok (m_I_Table_lastFormat_k1 N t _) _
          unfold m_I_Table_lastFormat_k1
          refine ok.eq (show m_I_Table_last N t = some (t.changes.length : Int) from rfl) (ok.eq (chs_ix rfl (Nat.le_refl _)) (ok.some rfl))
        · rw [if_neg fun e : tV t => h e.2.2]; exact ok.some rfl
  · rw [if_neg ho, if_neg fun e : tV t => ho e.1]
    exact ok.bf rfl (ok.some rfl)
theorem validTI {t : I_Table} (hb : bT t) : m_I_ValidTable N t = some (decide (tV t)) := by
  refine ok.val ?_
  unfold m_I_ValidTable
  refine ok.eq (lastI hN hb) (ok.some ?_)
  by_cases h : tV t
  · rw [if_pos h, decide_eq_true h]
  · rw [if_neg h, decide_eq_false h]
theorem validTS {t : I_Table} (hb : bT t) : m_S_validTable N t = some (decide (tV t)) := by
  have hcl := hb.c.1
  have hrl := hb.rl
  refine bool_eq ?_
  unfold m_S_validTable
  refine ok.eq (vchainS hN hb.f hb.c) (ok.ite (fun ho => ok.ite (fun h10 => ok.some ⟨fun e => (by cases e), fun e => by have := e.2.1; omega⟩) fun h10 => ?_) fun ho => ok.some ⟨fun e => (by cases e), fun e => (ho e.1).elim⟩)
  refine ok.eq (formatsS hN hb.f.1 (vF_bN ho.1) hb.c) ?_
  rw [if_pos ho.2.2]
  refine ok.call (all_ok (n := t.rows.length) 0 (fun i => ∀ (h : i < t.rows.length), rV t t.rows[i]) (by omega) (fun i hi _ => ?_) ?_) ?_
  · rw [Int.add_zero]
    show ok (m_S_validTable_b1 N t _ (i : Int)) _
    unfold m_S_validTable_b1
    refine ok.ift (by omega) (ok.eq (ixI_nat hi) (ok.eq (inRange_eq N _ _ _) (ok.ite (fun c1 => ?_) fun c1 => ok.some (.inr ⟨rfl, fun e => c1 ⟨(e hi).1, (e hi).2.1⟩⟩))))
    have hr := hb.r i hi
    have hv := cO_fA ho (i := t.rows[i].tag.toNat) (by omega)
    refine ok.eq (ixI_nat hi) (ok.eq (chs_ix (n := t.rows[i].tag.toNat) (by omega) (by omega)) (ok.eq (ixI_nat hi) (ok.eq (fitS hN hr hv.1.2) (ok.ite (fun c3 => ok.chk (by omega) (ok.some (.inl ⟨rfl, fun _ => ⟨c1.1, c1.2, c3⟩⟩))) fun c3 => ok.some (.inr ⟨rfl, fun e => c3 (e hi).2.2⟩)))))
  · rw [Int.add_zero]
    show m_S_validTable_b1 N t _ _ = _
    unfold m_S_validTable_b1
    rw [decide_eq_false (by omega)]; rfl
  · rintro o (⟨rfl, hh⟩ | ⟨rfl, hh⟩)
    · exact ok.some ⟨fun _ => ⟨ho, by omega, fun i hi => hh i hi hi⟩, fun _ => rfl⟩
    · exact ok.some ⟨fun e => (by cases e), fun e => (hh fun k hk h => e.2.2 k h).elim⟩
theorem read1I {t : I_Table} {r : I_Tagged} (h : tV t) (hc : bCs t.changes) (hr : rV t r) : m_I_Table_read N t r = some (adv t r) := by
  unfold m_I_Table_read
  refine ok.val ?_
  refine ok.eq (show m_I_Table_last N t = some (t.changes.length : Int) from rfl) (ok.eq (readI hN h.1 hc (n := r.tag.toNat) (by have := hr.1; omega) (by have := hr.2.1; omega) hr.2.2) (ok.some rfl))
omit hN in
theorem map_take {α β : Type} (f : α → β) {xs : List α} {i : Nat} (h : i < xs.length) : (xs.take (i + 1)).map f = (xs.take i).map f ++ [f xs[i]] := by rw [take_succ1 h, List.map_append]; rfl
theorem rowsI {t : I_Table} (hb : bT t) : m_I_TableRows N t = some (tR t) := by
  have hrl := hb.rl
  refine ok.val ?_
  unfold m_I_TableRows tR
  refine ok.eq (validTI hN hb) (ok.ite (fun h => ?_) fun h => ok.some (by rw [if_neg h]))
  rw [if_pos h]
  refine ok.call (P := fun o => o = t.rows.map (adv t)) (ok.each t.rows.length (fun i s => s = ((i : Int), (t.rows.take i).map (adv t))) _ ?_ ?_ N 0 _ (Nat.zero_le _) rfl (by omega)) ?_
  · rintro i s hi rfl
    show ok (m_I_TableRows_b1 N t (i : Int) _) _
    unfold m_I_TableRows_b1
    refine ok.ift (by omega) (ok.eq (ixI_nat hi) (ok.eq (read1I hN h hb.c (h.2.2 i hi)) (ok.app (by simp; omega) (ok.chk (by omega) (ok.some ?_)))))
    rw [map_take _ hi]; simp
  · rintro s rfl
    show ok (m_I_TableRows_b1 N t _ _) _
    unfold m_I_TableRows_b1
    refine ok.iff (by omega) (ok.some ?_)
    rw [List.take_length]
  · rintro o rfl
    exact ok.some rfl
omit hN in
theorem count_take {α : Type} (p : α → Bool) {xs : List α} {i : Nat} (h : i < xs.length) : (xs.take (i + 1)).countP p = (xs.take i).countP p + if p xs[i] = true then 1 else 0 := by
  rw [take_succ1 h, List.countP_append, List.countP_singleton]
omit hN in
theorem count_le {α : Type} (p : α → Bool) (xs : List α) (i : Nat) : (xs.take i).countP p ≤ i := by
  have := List.countP_le_length (p := p) (l := xs.take i)
  rw [List.length_take] at this; omega
theorem oldI {t : I_Table} (hb : bT t) : m_I_OldRows N t = some (oldN t) := by
  have hrl := hb.rl
  refine ok.val ?_
  unfold m_I_OldRows oldN
  refine ok.eq (validTI hN hb) (ok.ite (fun h => ?_) fun h => ok.some (by rw [if_neg h]))
  rw [if_pos h]
  refine ok.call (P := fun o => o = (t.rows.countP (oldB t) : Int)) (ok.each t.rows.length (fun i s => s = ((i : Int), ((t.rows.take i).countP (oldB t) : Int))) _ ?_ ?_ N 0 _ (Nat.zero_le _) rfl (by omega)) ?_
  · rintro i s hi rfl
    show ok (m_I_OldRows_b1 N t (i : Int) _) _
    unfold m_I_OldRows_b1
    have hle := count_le (oldB t) t.rows i
    refine ok.ift (by omega) (ok.eq (ixI_nat hi) (ok.eq (show m_I_Table_last N t = some (t.changes.length : Int) from rfl) (ok.ite (fun c => ok.chk (by omega) (ok.some ?_)) fun c => ok.chk (by dsimp only; omega) (ok.chk (by omega) (ok.some ?_)))))
    · rw [count_take _ hi, if_neg (by unfold oldB; simp [c])]; simp
    · rw [count_take _ hi, if_pos (by unfold oldB; simp [c])]; simp
  · rintro s rfl
    show ok (m_I_OldRows_b1 N t _ _) _
    unfold m_I_OldRows_b1
    refine ok.iff (by omega) (ok.some ?_)
    rw [List.take_length]
  · rintro o rfl
    exact ok.some rfl
end
end V
end Go.Proofs.YthhlkedkeefgnaaDoor
