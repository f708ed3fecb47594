/- Edits: the helpers of the exact law. No condition. -/
import Derived.Test.YtaiifcnjmbpbjaaEda
namespace Go.Proofs.Ytaiifcnjmbpbjaa
namespace V
open Enc (enc)
set_option linter.unusedVariables false
set_option linter.unusedSimpArgs false
set_option maxHeartbeats 4000000
set_option maxRecDepth 100000
open Go.RowKit
attribute [local irreducible] thA inA FinA eL

structure L_Edit where
  owner : Int
  thing : Int
  old_ : Int
  new_ : Int
deriving DecidableEq
instance : Enc L_Edit := ⟨fun x => [.v (.int .i64 x.owner), .v (.int .i64 x.thing), .v (.int .i64 x.old_), .v (.int .i64 x.new_)], 4, fun _ => rfl⟩
instance : EncF L_Edit := ⟨fun _ c h => by simp [enc] at h; rcases h with h | h | h | h <;> exact ⟨_, h⟩⟩
def m_L_toIntS_k1 (N : Nat) (v12 : (List Int)) : Option ((List Int)) :=
  some v12
def m_L_toIntS_b1 (N : Nat) (p_a : (List Int)) (i3 : Int) (v4 : (List Int)) : Option ((Int × (List Int)) ⊕ (List Int)) :=
  cond (decide (i3 < (p_a.length : Int)))
    ((ixI p_a i3).bind fun x19 =>
    (ixI v4 i3).bind fun x21 =>
    (chk (i3 + (1 : Int))).bind fun n23 =>
    some (.inl (n23, (v4.set i3.toNat x19))))
    (some (.inr v4))
def m_L_toIntS (N : Nat) (p_a : (List Int)) : Option ((List Int)) :=
  (mkM 8 (0 : Int) (p_a.length : Int)).bind fun xs1 =>
  (loopM (β := (List Int)) (fun s : Int × (List Int) => m_L_toIntS_b1 N p_a s.1 s.2) N ((0 : Int), xs1)).bind fun e =>
  m_L_toIntS_k1 N e
theorem w_L_toIntS (N : Nat) (p_a : (List Int)) (r : (List Int)) (hh0 : m_L_toIntS N p_a = some r) : FnX Try.prog 6 [] [sL p_a] (RE (.os 0 0 r.length) [⟨.tr (eL r), 3, 1⟩]) := by
  unfold m_L_toIntS at hh0
  refine FnX.mk Try.func6 rfl rfl ?_
  intro s hs
  refine PC.seq ?_
  refine PC.region ?_
  refine PL.op rfl (Rd.asnT rfl) ?_
  refine PL.nil ?_
  refine thA_n ?_
  refine PC.seq ?_
  obtain ⟨xs1, h_2, hh0⟩ := bind_some hh0
  refine PC.region ?_
  refine PL.op rfl (Rd.moveT rfl) ?_
  refine PL.op rfl (Rd.lenT rfl) ?_
  refine PL.ef rfl (Ef.makeM (0 : Int) rfl rfl h_2 rfl rfl rfl (by exact ⟨.inl ⟨rfl, rfl⟩, trivial⟩)) ?_
  refine PL.nm (.os 0 0 xs1.length) [some ⟨.tr (eL xs1), 3, 1⟩] rfl rfl ?_
  refine PL.op rfl (Rd.asnO rfl) ?_
  refine PL.nil ?_
  refine thA_n ?_
  refine PC.seq ?_
  refine PC.seq ?_
  refine PC.region ?_
  refine PL.op rfl (Rd.asnT rfl) ?_
  refine PL.nil ?_
  refine thA_n ?_
  obtain ⟨o13, h_14, hh0⟩ := bind_some hh0
  refine PC.cutE hs (fun x : (List Int) => [(3, .os 0 0 x.length)]) (fun x => [⟨.tr (eL x), 3, 1⟩]) (fun x => m_L_toIntS_k1 N x = some r) ?_ ?_
  · refine PC.block ?_
    refine PC.loop hs (fun x : Nat × (Int × (List Int)) => [(0, sL p_a), (3, .os 0 0 x.2.2.length), (4, iA x.2.1)]) (fun x => [⟨.tr (eL x.2.2), 3, 1⟩]) (fun x => loopM (β := (List Int)) (fun s : Int × (List Int) => m_L_toIntS_b1 N p_a s.1 s.2) x.1 x.2 = some o13) (fun x => x.1) (N, ((0 : Int), xs1)) [some 0] ⟨rfl, rfl, ⟨⟨_, rfl, rfl, rfl, .tr _⟩, trivial⟩, ⟨.t _, .os rfl, .t _, trivial⟩⟩ h_14 ?_
    rintro ⟨f15_, i3, v4⟩ h_17
    obtain ⟨f15, y16, rfl, hh1, kk1⟩ := loopM_some h_17
    replace hh1 : m_L_toIntS_b1 N p_a i3 v4 = some y16 := hh1
    unfold m_L_toIntS_b1 at hh1
    refine PC.seq ?_
    refine PC.seq ?_
    refine PC.region ?_
    refine PL.op rfl (Rd.moveT rfl) ?_
    refine PL.op rfl (Rd.moveT rfl) ?_
    refine PL.op rfl (Rd.lenT rfl) ?_
    refine PL.op rfl (Rd.lss rfl rfl) ?_
    refine PL.nil ?_
    refine thA_n ?_
    rcases cond_some hh1 with ⟨h_18, hh1⟩ | ⟨h_18, hh1⟩
    rotate_left
    · refine PC.cond_false rfl h_18 ?_
      refine PC.exit ?_
      refine thA_e ?_
      refine thA_e ?_
      refine inA_eq rfl ?_
      refine thA_n ?_
      obtain rfl := some_in hh1
      obtain rfl : (v4 : (List Int)) = o13 := kk1
      exact ⟨v4, hh0, [some 0], ⟨rfl, rfl, ⟨⟨_, rfl, rfl, rfl, .tr _⟩, trivial⟩, ⟨.os rfl, trivial⟩⟩⟩
    refine PC.cond_true rfl h_18 ?_
    refine PC.skip ?_
    refine thA_n ?_
    refine PC.seq ?_
    refine PC.block ?_
    obtain ⟨x19, h_20, hh1⟩ := bind_some hh1
    obtain ⟨x21, h_22, hh1⟩ := bind_some hh1
    refine PC.region ?_
    refine PL.op rfl (Rd.moveO rfl) ?_
    refine PL.op rfl (Rd.moveT rfl) ?_
    refine PL.op rfl (Rd.moveT rfl) ?_
    refine PL.op rfl (Rd.moveT rfl) ?_
    refine PL.op rfl (Rd.ixM rfl rfl h_20) ?_
    refine PL.op rfl (Rd.elM1 rfl h_20 rfl rfl) ?_
    refine PL.op rfl (Rd.ixOM rfl rfl rfl (ixI_lt h_22)) ?_
    refine PL.stRM x19 rfl rfl rfl rfl rfl h_22 rfl ?_
    refine PL.nO [some ⟨.tr (eL (v4.set i3.toNat x19)), 3, 1⟩] rfl ?_
    refine PL.nil ?_
    refine inA_n ?_
    refine thA_n ?_
    obtain ⟨n23, h_24, hh1⟩ := bind_some hh1
    refine PC.region ?_
    refine PL.op rfl (Rd.moveT rfl) ?_
    refine PL.op rfl (Rd.addM rfl rfl h_24) ?_
    refine PL.op rfl (Rd.asnT rfl) ?_
    refine PL.nil ?_
    obtain rfl := some_in hh1
    refine thA_n ?_
    exact ⟨(f15, (n23, (v4.set i3.toNat x19))), Nat.lt_succ_self _, kk1, [some 0], ⟨rfl, rfl, ⟨⟨_, rfl, rfl, rfl, .tr _⟩, trivial⟩, ⟨.t _, .osE rfl (by simp only [List.length_set]), .t _, trivial⟩⟩⟩
  clear hh0
  rintro v12 hh0
  replace hh0 : m_L_toIntS_k1 N v12 = some r := hh0
  unfold m_L_toIntS_k1 at hh0
  refine thA_n ?_
  refine PC.seq ?_
  refine PC.region ?_
  refine PL.op rfl (Rd.moveO rfl) ?_
  refine PL.op rfl (Rd.asnO rfl) ?_
  refine PL.nil ?_
  refine thA_n ?_
  refine PC.ret ?_
  obtain rfl := some_in hh0
  exact FinA.mk (r := .os 0 0 v12.length) (bl := [⟨.tr (eL v12), 3, 1⟩]) [some 0] (.inl rfl) rfl (rl := [.tmp 2]) (.tmp .nil) rfl rfl rfl (.os rfl) ⟨⟨_, rfl, rfl, rfl, .tr _⟩, trivial⟩ ⟨rfl, rfl⟩

def m_L_eqIntS_k1 (N : Nat) : Option (Bool) :=
  some true
def m_L_eqIntS_b1 (N : Nat) (p_a : (List Int)) (p_b : (List Int)) (i2 : Int) : Option (Int ⊕ (Unit ⊕ Bool)) :=
  cond (decide (i2 < (p_a.length : Int)))
    ((ixI p_a i2).bind fun x17 =>
    (ixI p_b i2).bind fun x19 =>
    cond (decide (x17 = x19))
      ((chk (i2 + (1 : Int))).bind fun n22 =>
      some (.inl n22))
      (some (.inr (.inr false))))
    (some (.inr (.inl ())))
def m_L_eqIntS (N : Nat) (p_a : (List Int)) (p_b : (List Int)) : Option (Bool) :=
  cond (decide ((p_a.length : Int) = (p_b.length : Int)))
    ((loopM (β := Unit ⊕ Bool) (fun s : Int => m_L_eqIntS_b1 N p_a p_b s) N (0 : Int)).bind fun o => match o with
    | .inl e =>
      m_L_eqIntS_k1 N 
    | .inr v =>
      some v)
    (some false)
theorem w_L_eqIntS (N : Nat) (p_a : (List Int)) (p_b : (List Int)) (r : Bool) (hh0 : m_L_eqIntS N p_a p_b = some r) : FnX Try.prog 9 [] [sL p_a, sL p_b] (RE (bA r) []) := by
  unfold m_L_eqIntS at hh0
  refine FnX.mk Try.func9 rfl rfl ?_
  intro s hs
  refine PC.seq ?_
  refine PC.region ?_
  refine PL.op rfl (Rd.asnT rfl) ?_
  refine PL.nil ?_
  refine thA_n ?_
  refine PC.seq ?_
  refine PC.seq ?_
  refine PC.region ?_
  refine PL.op rfl (Rd.moveT rfl) ?_
  refine PL.op rfl (Rd.lenT rfl) ?_
  refine PL.op rfl (Rd.moveT rfl) ?_
  refine PL.op rfl (Rd.lenT rfl) ?_
  refine PL.op rfl (Rd.neq rfl rfl) ?_
  refine PL.nil ?_
  refine thA_n ?_
  rcases cond_some hh0 with ⟨h_1, hh0⟩ | ⟨h_1, hh0⟩
  rotate_left
  · refine PC.cond_true rfl (not_f h_1) ?_
    refine PC.seq ?_
    refine PC.region ?_
    refine PL.op rfl (Rd.asnT rfl) ?_
    refine PL.nil ?_
    refine thA_n ?_
    refine PC.ret ?_
    refine thA_r ?_
    obtain rfl := some_in hh0
    exact FinA.mk (r := bA false) (bl := []) [] (.inl rfl) rfl (rl := [.tmp 4]) (.tmp .nil) rfl rfl rfl (.t _) trivial ⟨rfl, rfl⟩
  refine PC.cond_false rfl (not_t h_1) ?_
  refine PC.skip ?_
  refine thA_n ?_
  refine PC.seq ?_
  refine PC.seq ?_
  refine PC.region ?_
  refine PL.op rfl (Rd.asnT rfl) ?_
  refine PL.nil ?_
  refine thA_n ?_
  obtain ⟨o11, h_12, hh0⟩ := bind_some hh0
  refine PC.cutE hs (fun x : Unit => []) (fun x => []) (fun x => m_L_eqIntS_k1 N  = some r) ?_ ?_
  · refine PC.block ?_
    refine PC.loop hs (fun x : Nat × (Int) => [(0, sL p_a), (1, sL p_b), (5, iA x.2)]) (fun x => []) (fun x => loopM (β := Unit ⊕ Bool) (fun s : Int => m_L_eqIntS_b1 N p_a p_b s) x.1 x.2 = some o11) (fun x => x.1) (N, (0 : Int)) [] ⟨rfl, rfl, trivial, ⟨.t _, .t _, .t _, trivial⟩⟩ h_12 ?_
    rintro ⟨f13_, i2⟩ h_15
    obtain ⟨f13, y14, rfl, hh1, kk1⟩ := loopM_some h_15
    replace hh1 : m_L_eqIntS_b1 N p_a p_b i2 = some y14 := hh1
    unfold m_L_eqIntS_b1 at hh1
    refine PC.seq ?_
    refine PC.seq ?_
    refine PC.region ?_
    refine PL.op rfl (Rd.moveT rfl) ?_
    refine PL.op rfl (Rd.moveT rfl) ?_
    refine PL.op rfl (Rd.lenT rfl) ?_
    refine PL.op rfl (Rd.lss rfl rfl) ?_
    refine PL.nil ?_
    refine thA_n ?_
    rcases cond_some hh1 with ⟨h_16, hh1⟩ | ⟨h_16, hh1⟩
    rotate_left
    · refine PC.cond_false rfl h_16 ?_
      refine PC.exit ?_
      refine thA_e ?_
      refine thA_e ?_
      refine inA_eq rfl ?_
      refine thA_n ?_
      obtain rfl := some_in hh1
      obtain rfl : (.inl () : Unit ⊕ Bool) = o11 := kk1
      exact ⟨(), hh0, [], ⟨rfl, rfl, trivial, trivial⟩⟩
    refine PC.cond_true rfl h_16 ?_
    refine PC.skip ?_
    refine thA_n ?_
    refine PC.seq ?_
    refine PC.block ?_
    refine PC.seq ?_
    obtain ⟨x17, h_18, hh1⟩ := bind_some hh1
    obtain ⟨x19, h_20, hh1⟩ := bind_some hh1
    refine PC.any (id := 6) 9 (.seg [0, 1, 2, 3, 4, 5, 6, 7, 8] .done) [] rfl (by kernel_rfl) rfl ?_
    refine PT.seg ?_
    refine PR.op rfl (Rd.moveT rfl) ?_
    refine PR.op rfl (Rd.moveT rfl) ?_
    refine PR.op rfl (Rd.ixM rfl rfl h_18) ?_
    refine PR.op rfl (Rd.elM1 rfl h_18 rfl rfl) ?_
    refine PR.op rfl (Rd.moveT rfl) ?_
    refine PR.op rfl (Rd.moveT rfl) ?_
    refine PR.op rfl (Rd.ixM rfl rfl h_20) ?_
    refine PR.op rfl (Rd.elM1 rfl h_20 rfl rfl) ?_
    refine PR.op rfl (Rd.neq rfl rfl) ?_
    refine PR.nil ?_
    refine PT.done ?_
    refine PL.nil ?_
    refine thA_n ?_
    rcases cond_some hh1 with ⟨h_21, hh1⟩ | ⟨h_21, hh1⟩
    · refine PC.cond_false rfl (not_t h_21) ?_
      refine PC.skip ?_
      refine inA_n ?_
      refine thA_n ?_
      obtain ⟨n22, h_23, hh1⟩ := bind_some hh1
      refine PC.region ?_
      refine PL.op rfl (Rd.moveT rfl) ?_
      refine PL.op rfl (Rd.addM rfl rfl h_23) ?_
      refine PL.op rfl (Rd.asnT rfl) ?_
      refine PL.nil ?_
      obtain rfl := some_in hh1
      refine thA_n ?_
      exact ⟨(f13, n22), Nat.lt_succ_self _, kk1, [], ⟨rfl, rfl, trivial, ⟨.t _, .t _, .t _, trivial⟩⟩⟩
    refine PC.cond_true rfl (not_f h_21) ?_
    refine PC.seq ?_
    refine PC.region ?_
    refine PL.op rfl (Rd.asnT rfl) ?_
    refine PL.nil ?_
    refine thA_n ?_
    refine PC.ret ?_
    refine inA_r ?_
    refine thA_r ?_
    refine thA_r ?_
    refine inA_r ?_
    refine thA_r ?_
    obtain rfl := some_in hh1
    obtain rfl : (.inr false : Unit ⊕ Bool) = o11 := kk1
    refine thA_r ?_
    obtain rfl := some_in hh0
    exact FinA.mk (r := bA false) (bl := []) [] (.inl rfl) rfl (rl := [.tmp 4]) (.tmp .nil) rfl rfl rfl (.t _) trivial ⟨rfl, rfl⟩
  clear hh0
  rintro ⟨⟩ hh0
  replace hh0 : m_L_eqIntS_k1 N  = some r := hh0
  unfold m_L_eqIntS_k1 at hh0
  refine thA_n ?_
  refine PC.seq ?_
  refine PC.region ?_
  refine PL.op rfl (Rd.asnT rfl) ?_
  refine PL.nil ?_
  refine thA_n ?_
  refine PC.ret ?_
  obtain rfl := some_in hh0
  exact FinA.mk (r := bA true) (bl := []) [] (.inl rfl) rfl (rl := [.tmp 4]) (.tmp .nil) rfl rfl rfl (.t _) trivial ⟨rfl, rfl⟩

def m_L_markIntS_k1 (N : Nat) (k11 : Int) (v12 : (List Int)) : Option (Int × (List Int)) :=
  some (k11, v12)
def m_L_markIntS_b1 (N : Nat) (k1 : Int) (i2 : Int) (v3 : (List Int)) : Option ((Int × Int × (List Int)) ⊕ (Int × (List Int))) :=
  cond (decide (i2 < (v3.length : Int)))
    ((ixI v3 i2).bind fun x19 =>
    (chk (k1 + (1 : Int))).bind fun n21 =>
    (chk (i2 + (1 : Int))).bind fun n23 =>
    some (.inl (n21, n23, (v3.set i2.toNat k1))))
    (some (.inr (k1, v3)))
def m_L_markIntS (N : Nat) (p_a : (List Int)) (p_k : Int) : Option (Int × (List Int)) :=
  (loopM (β := Int × (List Int)) (fun s : Int × Int × (List Int) => m_L_markIntS_b1 N s.1 s.2.1 s.2.2) N (p_k, (0 : Int), p_a)).bind fun e =>
  m_L_markIntS_k1 N e.1 e.2
theorem w_L_markIntS (N : Nat) (p_a : (List Int)) (p_k : Int) (r : Int × (List Int)) (hh0 : m_L_markIntS N p_a p_k = some r) : FnX Try.prog 11 [⟨.tr (eL p_a), 3, 1⟩] [.os 0 0 p_a.length, iA p_k] (RE (iA r.1) [⟨.tr (eL r.2), 3, 1⟩]) := by
  unfold m_L_markIntS at hh0
  refine FnX.mk Try.func11 rfl rfl ?_
  intro s hs
  refine PC.seq ?_
  refine PC.region ?_
  refine PL.op rfl (Rd.asnT rfl) ?_
  refine PL.nil ?_
  refine thA_n ?_
  refine PC.seq ?_
  refine PC.seq ?_
  refine PC.region ?_
  refine PL.op rfl (Rd.asnT rfl) ?_
  refine PL.nil ?_
  refine thA_n ?_
  obtain ⟨o13, h_14, hh0⟩ := bind_some hh0
  refine PC.cutE hs (fun x : Int × (List Int) => [(1, iA x.1)]) (fun x => [⟨.tr (eL x.2), 3, 1⟩]) (fun x => m_L_markIntS_k1 N x.1 x.2 = some r) ?_ ?_
  · refine PC.block ?_
    refine PC.loop hs (fun x : Nat × (Int × Int × (List Int)) => [(0, .os 0 0 x.2.2.2.length), (1, iA x.2.1), (5, iA x.2.2.1)]) (fun x => [⟨.tr (eL x.2.2.2), 3, 1⟩]) (fun x => loopM (β := Int × (List Int)) (fun s : Int × Int × (List Int) => m_L_markIntS_b1 N s.1 s.2.1 s.2.2) x.1 x.2 = some o13) (fun x => x.1) (N, (p_k, (0 : Int), p_a)) [some 0] ⟨rfl, rfl, ⟨⟨_, rfl, rfl, rfl, .tr _⟩, trivial⟩, ⟨.os rfl, .t _, .t _, trivial⟩⟩ h_14 ?_
    rintro ⟨f15_, k1, i2, v3⟩ h_17
    obtain ⟨f15, y16, rfl, hh1, kk1⟩ := loopM_some h_17
    replace hh1 : m_L_markIntS_b1 N k1 i2 v3 = some y16 := hh1
    unfold m_L_markIntS_b1 at hh1
    refine PC.seq ?_
    refine PC.seq ?_
    refine PC.region ?_
    refine PL.op rfl (Rd.moveT rfl) ?_
    refine PL.op rfl (Rd.moveO rfl) ?_
    refine PL.op rfl (Rd.lenO rfl rfl) ?_
    refine PL.op rfl (Rd.lss rfl rfl) ?_
    refine PL.nil ?_
    refine thA_n ?_
    rcases cond_some hh1 with ⟨h_18, hh1⟩ | ⟨h_18, hh1⟩
    rotate_left
    · refine PC.cond_false rfl h_18 ?_
      refine PC.exit ?_
      refine thA_e ?_
      refine thA_e ?_
      refine inA_eq rfl ?_
      refine thA_n ?_
      obtain rfl := some_in hh1
      obtain rfl : ((k1, v3) : Int × (List Int)) = o13 := kk1
      exact ⟨(k1, v3), hh0, [some 0], ⟨rfl, rfl, ⟨⟨_, rfl, rfl, rfl, .tr _⟩, trivial⟩, ⟨.t _, trivial⟩⟩⟩
    refine PC.cond_true rfl h_18 ?_
    refine PC.skip ?_
    refine thA_n ?_
    refine PC.seq ?_
    refine PC.block ?_
    refine PC.seq ?_
    obtain ⟨x19, h_20, hh1⟩ := bind_some hh1
    refine PC.region ?_
    refine PL.op rfl (Rd.moveO rfl) ?_
    refine PL.op rfl (Rd.moveT rfl) ?_
    refine PL.op rfl (Rd.moveT rfl) ?_
    refine PL.op rfl (Rd.ixOM rfl rfl rfl (ixI_lt h_20)) ?_
    refine PL.stRM k1 rfl rfl rfl rfl rfl h_20 rfl ?_
    refine PL.nO [some ⟨.tr (eL (v3.set i2.toNat k1)), 3, 1⟩] rfl ?_
    refine PL.nil ?_
    refine thA_n ?_
    obtain ⟨n21, h_22, hh1⟩ := bind_some hh1
    refine PC.region ?_
    refine PL.op rfl (Rd.moveT rfl) ?_
    refine PL.op rfl (Rd.addM rfl rfl h_22) ?_
    refine PL.op rfl (Rd.asnT rfl) ?_
    refine PL.nil ?_
    refine inA_n ?_
    refine thA_n ?_
    obtain ⟨n23, h_24, hh1⟩ := bind_some hh1
    refine PC.region ?_
    refine PL.op rfl (Rd.moveT rfl) ?_
    refine PL.op rfl (Rd.addM rfl rfl h_24) ?_
    refine PL.op rfl (Rd.asnT rfl) ?_
    refine PL.nil ?_
    obtain rfl := some_in hh1
    refine thA_n ?_
    exact ⟨(f15, (n21, n23, (v3.set i2.toNat k1))), Nat.lt_succ_self _, kk1, [some 0], ⟨rfl, rfl, ⟨⟨_, rfl, rfl, rfl, .tr _⟩, trivial⟩, ⟨.osE rfl (by simp only [List.length_set]), .t _, .t _, trivial⟩⟩⟩
  clear hh0
  rintro ⟨k11, v12⟩ hh0
  replace hh0 : m_L_markIntS_k1 N k11 v12 = some r := hh0
  unfold m_L_markIntS_k1 at hh0
  refine thA_n ?_
  refine PC.seq ?_
  refine PC.region ?_
  refine PL.op rfl (Rd.moveT rfl) ?_
  refine PL.op rfl (Rd.asnT rfl) ?_
  refine PL.nil ?_
  refine thA_n ?_
  refine PC.ret ?_
  obtain rfl := some_in hh0
  exact FinA.mk (r := iA ((k11, v12).1)) (bl := [⟨.tr (eL ((k11, v12).2)), 3, 1⟩]) [some 0] (.inl rfl) rfl (rl := [.tmp 4]) (.tmp .nil) rfl rfl rfl (.t _) ⟨⟨_, rfl, rfl, rfl, .tr _⟩, trivial⟩ ⟨rfl, rfl⟩

def m_L_heldIntS_k1 (N : Nat) (k11 : Int) : Option (Int) :=
  some k11
def m_L_heldIntS_b1 (N : Nat) (p_a : (List Int)) (k1 : Int) (i2 : Int) : Option ((Int × Int) ⊕ (Int ⊕ Int)) :=
  cond (decide (i2 < (p_a.length : Int)))
    ((ixI p_a i2).bind fun x18 =>
    cond (decide (x18 = k1))
      ((chk (k1 + (1 : Int))).bind fun n21 =>
      (chk (i2 + (1 : Int))).bind fun n23 =>
      some (.inl (n21, n23)))
      (some (.inr (.inr (-1 : Int)))))
    (some (.inr (.inl k1)))
def m_L_heldIntS (N : Nat) (p_a : (List Int)) (p_k : Int) : Option (Int) :=
  (loopM (β := Int ⊕ Int) (fun s : Int × Int => m_L_heldIntS_b1 N p_a s.1 s.2) N (p_k, (0 : Int))).bind fun o => match o with
  | .inl e =>
    m_L_heldIntS_k1 N e
  | .inr v =>
    some v
theorem w_L_heldIntS (N : Nat) (p_a : (List Int)) (p_k : Int) (r : Int) (hh0 : m_L_heldIntS N p_a p_k = some r) : FnX Try.prog 13 [] [sL p_a, iA p_k] (RE (iA r) []) := by
  unfold m_L_heldIntS at hh0
  refine FnX.mk Try.func13 rfl rfl ?_
  intro s hs
  refine PC.seq ?_
  refine PC.region ?_
  refine PL.op rfl (Rd.asnT rfl) ?_
  refine PL.nil ?_
  refine thA_n ?_
  refine PC.seq ?_
  refine PC.seq ?_
  refine PC.region ?_
  refine PL.op rfl (Rd.asnT rfl) ?_
  refine PL.nil ?_
  refine thA_n ?_
  obtain ⟨o12, h_13, hh0⟩ := bind_some hh0
  refine PC.cutE hs (fun x : Int => [(1, iA x)]) (fun x => []) (fun x => m_L_heldIntS_k1 N x = some r) ?_ ?_
  · refine PC.block ?_
    refine PC.loop hs (fun x : Nat × (Int × Int) => [(0, sL p_a), (1, iA x.2.1), (5, iA x.2.2)]) (fun x => []) (fun x => loopM (β := Int ⊕ Int) (fun s : Int × Int => m_L_heldIntS_b1 N p_a s.1 s.2) x.1 x.2 = some o12) (fun x => x.1) (N, (p_k, (0 : Int))) [] ⟨rfl, rfl, trivial, ⟨.t _, .t _, .t _, trivial⟩⟩ h_13 ?_
    rintro ⟨f14_, k1, i2⟩ h_16
    obtain ⟨f14, y15, rfl, hh1, kk1⟩ := loopM_some h_16
    replace hh1 : m_L_heldIntS_b1 N p_a k1 i2 = some y15 := hh1
    unfold m_L_heldIntS_b1 at hh1
    refine PC.seq ?_
    refine PC.seq ?_
    refine PC.region ?_
    refine PL.op rfl (Rd.moveT rfl) ?_
    refine PL.op rfl (Rd.moveT rfl) ?_
    refine PL.op rfl (Rd.lenT rfl) ?_
    refine PL.op rfl (Rd.lss rfl rfl) ?_
    refine PL.nil ?_
    refine thA_n ?_
    rcases cond_some hh1 with ⟨h_17, hh1⟩ | ⟨h_17, hh1⟩
    rotate_left
    · refine PC.cond_false rfl h_17 ?_
      refine PC.exit ?_
      refine thA_e ?_
      refine thA_e ?_
      refine inA_eq rfl ?_
      refine thA_n ?_
      obtain rfl := some_in hh1
      obtain rfl : (.inl k1 : Int ⊕ Int) = o12 := kk1
      exact ⟨k1, hh0, [], ⟨rfl, rfl, trivial, ⟨.t _, trivial⟩⟩⟩
    refine PC.cond_true rfl h_17 ?_
    refine PC.skip ?_
    refine thA_n ?_
    refine PC.seq ?_
    refine PC.block ?_
    refine PC.seq ?_
    refine PC.seq ?_
    obtain ⟨x18, h_19, hh1⟩ := bind_some hh1
    refine PC.region ?_
    refine PL.op rfl (Rd.moveT rfl) ?_
    refine PL.op rfl (Rd.moveT rfl) ?_
    refine PL.op rfl (Rd.ixM rfl rfl h_19) ?_
    refine PL.op rfl (Rd.elM1 rfl h_19 rfl rfl) ?_
    refine PL.op rfl (Rd.moveT rfl) ?_
    refine PL.op rfl (Rd.neq rfl rfl) ?_
    refine PL.nil ?_
    refine thA_n ?_
    rcases cond_some hh1 with ⟨h_20, hh1⟩ | ⟨h_20, hh1⟩
    rotate_left
    · refine PC.cond_true rfl (not_f h_20) ?_
      refine PC.seq ?_
      refine PC.region ?_
      refine PL.op rfl (Rd.asnT rfl) ?_
      refine PL.nil ?_
      refine thA_n ?_
      refine PC.ret ?_
      refine thA_r ?_
      refine inA_r ?_
      refine thA_r ?_
      refine thA_r ?_
      refine inA_r ?_
      refine thA_r ?_
      obtain rfl := some_in hh1
      obtain rfl : (.inr (-1 : Int) : Int ⊕ Int) = o12 := kk1
      refine thA_r ?_
      obtain rfl := some_in hh0
      exact FinA.mk (r := iA (-1 : Int)) (bl := []) [] (.inl rfl) rfl (rl := [.tmp 4]) (.tmp .nil) rfl rfl rfl (.t _) trivial ⟨rfl, rfl⟩
    refine PC.cond_false rfl (not_t h_20) ?_
    refine PC.skip ?_
    refine thA_n ?_
    obtain ⟨n21, h_22, hh1⟩ := bind_some hh1
    refine PC.region ?_
    refine PL.op rfl (Rd.moveT rfl) ?_
    refine PL.op rfl (Rd.addM rfl rfl h_22) ?_
    refine PL.op rfl (Rd.asnT rfl) ?_
    refine PL.nil ?_
    refine inA_n ?_
    refine thA_n ?_
    obtain ⟨n23, h_24, hh1⟩ := bind_some hh1
    refine PC.region ?_
    refine PL.op rfl (Rd.moveT rfl) ?_
    refine PL.op rfl (Rd.addM rfl rfl h_24) ?_
    refine PL.op rfl (Rd.asnT rfl) ?_
    refine PL.nil ?_
    obtain rfl := some_in hh1
    refine thA_n ?_
    exact ⟨(f14, (n21, n23)), Nat.lt_succ_self _, kk1, [], ⟨rfl, rfl, trivial, ⟨.t _, .t _, .t _, trivial⟩⟩⟩
  clear hh0
  rintro k11 hh0
  replace hh0 : m_L_heldIntS_k1 N k11 = some r := hh0
  unfold m_L_heldIntS_k1 at hh0
  refine thA_n ?_
  refine PC.seq ?_
  refine PC.region ?_
  refine PL.op rfl (Rd.moveT rfl) ?_
  refine PL.op rfl (Rd.asnT rfl) ?_
  refine PL.nil ?_
  refine thA_n ?_
  refine PC.ret ?_
  obtain rfl := some_in hh0
  exact FinA.mk (r := iA k11) (bl := []) [] (.inl rfl) rfl (rl := [.tmp 4]) (.tmp .nil) rfl rfl rfl (.t _) trivial ⟨rfl, rfl⟩

def m_L_szEditS (N : Nat) (p_a : (List L_Edit)) (p_left : Int) : Option (Int) :=
  (chk (p_left - (p_a.length : Int))).bind fun n1 =>
  cond (decide (n1 < (0 : Int)))
    (some (-1 : Int))
    (some n1)
theorem w_L_szEditS (N : Nat) (p_a : (List L_Edit)) (p_left : Int) (r : Int) (hh0 : m_L_szEditS N p_a p_left = some r) : FnX Try.prog 4 [] [sL p_a, iA p_left] (RE (iA r) []) := by
  unfold m_L_szEditS at hh0
  refine FnX.mk Try.func4 rfl rfl ?_
  intro s hs
  refine PC.seq ?_
  refine PC.region ?_
  refine PL.op rfl (Rd.asnT rfl) ?_
  refine PL.nil ?_
  refine thA_n ?_
  refine PC.seq ?_
  obtain ⟨n1, h_2, hh0⟩ := bind_some hh0
  refine PC.region ?_
  refine PL.op rfl (Rd.moveT rfl) ?_
  refine PL.op rfl (Rd.moveT rfl) ?_
  refine PL.op rfl (Rd.lenT rfl) ?_
  refine PL.op rfl (Rd.subM rfl rfl h_2) ?_
  refine PL.op rfl (Rd.asnT rfl) ?_
  refine PL.nil ?_
  refine thA_n ?_
  refine PC.seq ?_
  refine PC.seq ?_
  refine PC.region ?_
  refine PL.op rfl (Rd.moveT rfl) ?_
  refine PL.op rfl (Rd.lss rfl rfl) ?_
  refine PL.nil ?_
  refine thA_n ?_
  rcases cond_some hh0 with ⟨h_3, hh0⟩ | ⟨h_3, hh0⟩
  · refine PC.cond_true rfl h_3 ?_
    refine PC.seq ?_
    refine PC.region ?_
    refine PL.op rfl (Rd.asnT rfl) ?_
    refine PL.nil ?_
    refine thA_n ?_
    refine PC.ret ?_
    refine thA_r ?_
    obtain rfl := some_in hh0
    exact FinA.mk (r := iA (-1 : Int)) (bl := []) [] (.inl rfl) rfl (rl := [.tmp 4]) (.tmp .nil) rfl rfl rfl (.t _) trivial ⟨rfl, rfl⟩
  refine PC.cond_false rfl h_3 ?_
  refine PC.skip ?_
  refine thA_n ?_
  refine PC.seq ?_
  refine PC.region ?_
  refine PL.op rfl (Rd.moveT rfl) ?_
  refine PL.op rfl (Rd.asnT rfl) ?_
  refine PL.nil ?_
  refine thA_n ?_
  refine PC.ret ?_
  obtain rfl := some_in hh0
  exact FinA.mk (r := iA n1) (bl := []) [] (.inl rfl) rfl (rl := [.tmp 4]) (.tmp .nil) rfl rfl rfl (.t _) trivial ⟨rfl, rfl⟩

def m_L_toEdit (N : Nat) (p_a : L_Edit) : Option (I_Edit) :=
  some (I_Edit.mk p_a.owner p_a.thing p_a.old_ p_a.new_)
theorem w_L_toEdit (N : Nat) (p_a : L_Edit) (r : I_Edit) (hh0 : m_L_toEdit N p_a = some r) : FnX Try.prog 16 [] [.agg [iA p_a.owner, iA p_a.thing, iA p_a.old_, iA p_a.new_]] (RE (.agg [iA r.owner, iA r.thing, iA r.old_, iA r.new_]) []) := by
  unfold m_L_toEdit at hh0
  refine FnX.mk Try.func16 rfl rfl ?_
  intro s hs
  refine PC.seq ?_
  refine PC.region ?_
  refine PL.ef rfl (Ef.box rfl rfl rfl) ?_
  refine PL.nm (.op 0 0) [some ⟨.mx [iA p_a.owner, iA p_a.thing, iA p_a.old_, iA p_a.new_], 40, 0⟩] rfl rfl ?_
  refine PL.ef rfl (Ef.alloc rfl rfl) ?_
  refine PL.nm (.op 1 0) [some ⟨.mx [iA p_a.owner, iA p_a.thing, iA p_a.old_, iA p_a.new_], 40, 0⟩, some ⟨.mx [iA (0 : Int), iA (0 : Int), iA (0 : Int), iA (0 : Int)], 38, 0⟩] rfl rfl ?_
  refine PL.nil ?_
  refine thA_n ?_
  refine PC.seq ?_
  refine PC.region ?_
  refine PL.ef rfl (Ef.alloc rfl rfl) ?_
  refine PL.nm (.op 2 0) [some ⟨.mx [iA p_a.owner, iA p_a.thing, iA p_a.old_, iA p_a.new_], 40, 0⟩, some ⟨.mx [iA (0 : Int), iA (0 : Int), iA (0 : Int), iA (0 : Int)], 38, 0⟩, some ⟨.mx [iA (0 : Int), iA (0 : Int), iA (0 : Int), iA (0 : Int)], 38, 0⟩] rfl rfl ?_
  refine PL.nil ?_
  refine thA_n ?_
  refine PC.seq ?_
  refine PC.region ?_
  refine PL.op rfl (Rd.fieldO rfl rfl) ?_
  refine PL.op rfl (Rd.loadO rfl rfl rfl) ?_
  refine PL.op rfl (Rd.fieldO rfl rfl) ?_
  refine PL.store rfl rfl rfl rfl rfl rfl rfl ?_
  refine PL.nO [some ⟨.mx [iA p_a.owner, iA p_a.thing, iA p_a.old_, iA p_a.new_], 40, 0⟩, some ⟨.mx [iA (0 : Int), iA (0 : Int), iA (0 : Int), iA (0 : Int)], 38, 0⟩, some ⟨.mx [iA p_a.owner, iA (0 : Int), iA (0 : Int), iA (0 : Int)], 38, 0⟩] rfl ?_
  refine PL.nil ?_
  refine thA_n ?_
  refine PC.seq ?_
  refine PC.region ?_
  refine PL.op rfl (Rd.fieldO rfl rfl) ?_
  refine PL.op rfl (Rd.loadO rfl rfl rfl) ?_
  refine PL.op rfl (Rd.fieldO rfl rfl) ?_
  refine PL.store rfl rfl rfl rfl rfl rfl rfl ?_
  refine PL.nO [some ⟨.mx [iA p_a.owner, iA p_a.thing, iA p_a.old_, iA p_a.new_], 40, 0⟩, some ⟨.mx [iA (0 : Int), iA (0 : Int), iA (0 : Int), iA (0 : Int)], 38, 0⟩, some ⟨.mx [iA p_a.owner, iA p_a.thing, iA (0 : Int), iA (0 : Int)], 38, 0⟩] rfl ?_
  refine PL.nil ?_
  refine thA_n ?_
  refine PC.seq ?_
  refine PC.region ?_
  refine PL.op rfl (Rd.fieldO rfl rfl) ?_
  refine PL.op rfl (Rd.loadO rfl rfl rfl) ?_
  refine PL.op rfl (Rd.fieldO rfl rfl) ?_
  refine PL.store rfl rfl rfl rfl rfl rfl rfl ?_
  refine PL.nO [some ⟨.mx [iA p_a.owner, iA p_a.thing, iA p_a.old_, iA p_a.new_], 40, 0⟩, some ⟨.mx [iA (0 : Int), iA (0 : Int), iA (0 : Int), iA (0 : Int)], 38, 0⟩, some ⟨.mx [iA p_a.owner, iA p_a.thing, iA p_a.old_, iA (0 : Int)], 38, 0⟩] rfl ?_
  refine PL.nil ?_
  refine thA_n ?_
  refine PC.seq ?_
  refine PC.region ?_
  refine PL.op rfl (Rd.fieldO rfl rfl) ?_
  refine PL.op rfl (Rd.loadO rfl rfl rfl) ?_
  refine PL.op rfl (Rd.fieldO rfl rfl) ?_
  refine PL.store rfl rfl rfl rfl rfl rfl rfl ?_
  refine PL.nO [some ⟨.mx [iA p_a.owner, iA p_a.thing, iA p_a.old_, iA p_a.new_], 40, 0⟩, some ⟨.mx [iA (0 : Int), iA (0 : Int), iA (0 : Int), iA (0 : Int)], 38, 0⟩, some ⟨.mx [iA p_a.owner, iA p_a.thing, iA p_a.old_, iA p_a.new_], 38, 0⟩] rfl ?_
  refine PL.nil ?_
  refine thA_n ?_
  refine PC.seq ?_
  refine PC.region ?_
  refine PL.op rfl (Rd.loadBox rfl rfl rfl) ?_
  refine PL.store rfl rfl rfl rfl rfl rfl rfl ?_
  refine PL.nO [some ⟨.mx [iA p_a.owner, iA p_a.thing, iA p_a.old_, iA p_a.new_], 40, 0⟩, some ⟨.mx [iA p_a.owner, iA p_a.thing, iA p_a.old_, iA p_a.new_], 38, 0⟩, some ⟨.mx [iA p_a.owner, iA p_a.thing, iA p_a.old_, iA p_a.new_], 38, 0⟩] rfl ?_
  refine PL.nil ?_
  refine thA_n ?_
  refine PC.ret ?_
  obtain rfl := some_in hh0
  exact FinA.mk (r := .agg [iA p_a.owner, iA p_a.thing, iA p_a.old_, iA p_a.new_]) (bl := []) [] (.inl rfl) rfl (rl := [.cell 2 38]) (.cellN rfl rfl rfl rfl .nil) rfl rfl rfl (.aggL ⟨.t _, .t _, .t _, .t _, trivial⟩) trivial ⟨rfl, rfl⟩

def m_L_toEditS_k1 (N : Nat) (v14 : (List I_Edit)) : Option ((List I_Edit)) :=
  some v14
def m_L_toEditS_b1 (N : Nat) (p_a : (List L_Edit)) (i3 : Int) (v4 : (List I_Edit)) : Option ((Int × (List I_Edit)) ⊕ (List I_Edit)) :=
  cond (decide (i3 < (p_a.length : Int)))
    ((ixI p_a i3).bind fun x21 =>
    (m_L_toEdit N x21).bind fun r23 =>
    (ixI v4 i3).bind fun x25 =>
    (chk (i3 + (1 : Int))).bind fun n27 =>
    some (.inl (n27, (v4.set i3.toNat r23))))
    (some (.inr v4))
def m_L_toEditS (N : Nat) (p_a : (List L_Edit)) : Option ((List I_Edit)) :=
  (mkM 32 (I_Edit.mk (0 : Int) (0 : Int) (0 : Int) (0 : Int)) (p_a.length : Int)).bind fun xs1 =>
  (loopM (β := (List I_Edit)) (fun s : Int × (List I_Edit) => m_L_toEditS_b1 N p_a s.1 s.2) N ((0 : Int), xs1)).bind fun e =>
  m_L_toEditS_k1 N e
theorem w_L_toEditS (N : Nat) (p_a : (List L_Edit)) (r : (List I_Edit)) (hh0 : m_L_toEditS N p_a = some r) : FnX Try.prog 7 [] [sL p_a] (RE (.os 0 0 r.length) [⟨.tr (eL r), 38, 4⟩]) := by
  unfold m_L_toEditS at hh0
  refine FnX.mk Try.func7 rfl rfl ?_
  intro s hs
  refine PC.seq ?_
  refine PC.region ?_
  refine PL.op rfl (Rd.asnT rfl) ?_
  refine PL.nil ?_
  refine thA_n ?_
  refine PC.seq ?_
  obtain ⟨xs1, h_2, hh0⟩ := bind_some hh0
  refine PC.region ?_
  refine PL.op rfl (Rd.moveT rfl) ?_
  refine PL.op rfl (Rd.lenT rfl) ?_
  refine PL.ef rfl (Ef.makeM (I_Edit.mk (0 : Int) (0 : Int) (0 : Int) (0 : Int)) rfl rfl h_2 rfl rfl rfl (by exact ⟨.inl ⟨rfl, rfl⟩, .inl ⟨rfl, rfl⟩, .inl ⟨rfl, rfl⟩, .inl ⟨rfl, rfl⟩, trivial⟩)) ?_
  refine PL.nm (.os 0 0 xs1.length) [some ⟨.tr (eL xs1), 38, 4⟩] rfl rfl ?_
  refine PL.op rfl (Rd.asnO rfl) ?_
  refine PL.nil ?_
  refine thA_n ?_
  refine PC.seq ?_
  refine PC.seq ?_
  refine PC.region ?_
  refine PL.op rfl (Rd.asnT rfl) ?_
  refine PL.nil ?_
  refine thA_n ?_
  obtain ⟨o15, h_16, hh0⟩ := bind_some hh0
  refine PC.cutE hs (fun x : (List I_Edit) => [(3, .os 0 0 x.length)]) (fun x => [⟨.tr (eL x), 38, 4⟩]) (fun x => m_L_toEditS_k1 N x = some r) ?_ ?_
  · refine PC.block ?_
    refine PC.loop hs (fun x : Nat × (Int × (List I_Edit)) => [(0, sL p_a), (3, .os 0 0 x.2.2.length), (4, iA x.2.1)]) (fun x => [⟨.tr (eL x.2.2), 38, 4⟩]) (fun x => loopM (β := (List I_Edit)) (fun s : Int × (List I_Edit) => m_L_toEditS_b1 N p_a s.1 s.2) x.1 x.2 = some o15) (fun x => x.1) (N, ((0 : Int), xs1)) [some 0] ⟨rfl, rfl, ⟨⟨_, rfl, rfl, rfl, .tr _⟩, trivial⟩, ⟨.t _, .os rfl, .t _, trivial⟩⟩ h_16 ?_
    rintro ⟨f17_, i3, v4⟩ h_19
    obtain ⟨f17, y18, rfl, hh1, kk1⟩ := loopM_some h_19
    replace hh1 : m_L_toEditS_b1 N p_a i3 v4 = some y18 := hh1
    unfold m_L_toEditS_b1 at hh1
    refine PC.seq ?_
    refine PC.seq ?_
    refine PC.region ?_
    refine PL.op rfl (Rd.moveT rfl) ?_
    refine PL.op rfl (Rd.moveT rfl) ?_
    refine PL.op rfl (Rd.lenT rfl) ?_
    refine PL.op rfl (Rd.lss rfl rfl) ?_
    refine PL.nil ?_
    refine thA_n ?_
    rcases cond_some hh1 with ⟨h_20, hh1⟩ | ⟨h_20, hh1⟩
    rotate_left
    · refine PC.cond_false rfl h_20 ?_
      refine PC.exit ?_
      refine thA_e ?_
      refine thA_e ?_
      refine inA_eq rfl ?_
      refine thA_n ?_
      obtain rfl := some_in hh1
      obtain rfl : (v4 : (List I_Edit)) = o15 := kk1
      exact ⟨v4, hh0, [some 0], ⟨rfl, rfl, ⟨⟨_, rfl, rfl, rfl, .tr _⟩, trivial⟩, ⟨.os rfl, trivial⟩⟩⟩
    refine PC.cond_true rfl h_20 ?_
    refine PC.skip ?_
    refine thA_n ?_
    refine PC.seq ?_
    refine PC.block ?_
    obtain ⟨x21, h_22, hh1⟩ := bind_some hh1
    obtain ⟨r23, h_24, hh1⟩ := bind_some hh1
    obtain ⟨x25, h_26, hh1⟩ := bind_some hh1
    refine PC.region ?_
    refine PL.op rfl (Rd.moveO rfl) ?_
    refine PL.op rfl (Rd.moveT rfl) ?_
    refine PL.op rfl (Rd.moveT rfl) ?_
    refine PL.op rfl (Rd.moveT rfl) ?_
    refine PL.op rfl (Rd.ixM rfl rfl h_22) ?_
    refine PL.op rfl (Rd.elMR rfl h_22 rfl rfl) ?_
    refine PL.callM false [] (w_L_toEdit N x21 r23 h_24) rfl Try.call16 rfl ⟨.aggL ⟨.t _, .t _, .t _, .t _, trivial⟩, trivial⟩ rfl trivial (fun h => by cases h) ?_
    refine PL.op rfl (Rd.ixOM rfl rfl rfl (ixI_lt h_26)) ?_
    refine PL.stRM r23 rfl rfl rfl rfl rfl h_26 rfl ?_
    refine PL.nO [some ⟨.tr (eL (v4.set i3.toNat r23)), 38, 4⟩] rfl ?_
    refine PL.nil ?_
    refine inA_n ?_
    refine thA_n ?_
    obtain ⟨n27, h_28, hh1⟩ := bind_some hh1
    refine PC.region ?_
    refine PL.op rfl (Rd.moveT rfl) ?_
    refine PL.op rfl (Rd.addM rfl rfl h_28) ?_
    refine PL.op rfl (Rd.asnT rfl) ?_
    refine PL.nil ?_
    obtain rfl := some_in hh1
    refine thA_n ?_
    exact ⟨(f17, (n27, (v4.set i3.toNat r23))), Nat.lt_succ_self _, kk1, [some 0], ⟨rfl, rfl, ⟨⟨_, rfl, rfl, rfl, .tr _⟩, trivial⟩, ⟨.t _, .osE rfl (by simp only [List.length_set]), .t _, trivial⟩⟩⟩
  clear hh0
  rintro v14 hh0
  replace hh0 : m_L_toEditS_k1 N v14 = some r := hh0
  unfold m_L_toEditS_k1 at hh0
  refine thA_n ?_
  refine PC.seq ?_
  refine PC.region ?_
  refine PL.op rfl (Rd.moveO rfl) ?_
  refine PL.op rfl (Rd.asnO rfl) ?_
  refine PL.nil ?_
  refine thA_n ?_
  refine PC.ret ?_
  obtain rfl := some_in hh0
  exact FinA.mk (r := .os 0 0 v14.length) (bl := [⟨.tr (eL v14), 38, 4⟩]) [some 0] (.inl rfl) rfl (rl := [.tmp 2]) (.tmp .nil) rfl rfl rfl (.os rfl) ⟨⟨_, rfl, rfl, rfl, .tr _⟩, trivial⟩ ⟨rfl, rfl⟩

def m_L_eqEdit (N : Nat) (p_a : I_Edit) (p_b : I_Edit) : Option (Bool) :=
  cond (decide (p_a.owner = p_b.owner))
    (cond (decide (p_a.thing = p_b.thing))
      (cond (decide (p_a.old_ = p_b.old_))
        (cond (decide (p_a.new_ = p_b.new_))
          (some true)
          (some false))
        (some false))
      (some false))
    (some false)
theorem w_L_eqEdit (N : Nat) (p_a : I_Edit) (p_b : I_Edit) (r : Bool) (hh0 : m_L_eqEdit N p_a p_b = some r) : FnX Try.prog 20 [] [.agg [iA p_a.owner, iA p_a.thing, iA p_a.old_, iA p_a.new_], .agg [iA p_b.owner, iA p_b.thing, iA p_b.old_, iA p_b.new_]] (RE (bA r) []) := by
  unfold m_L_eqEdit at hh0
  refine FnX.mk Try.func20 rfl rfl ?_
  intro s hs
  refine PC.seq ?_
  refine PC.region ?_
  refine PL.ef rfl (Ef.box rfl rfl rfl) ?_
  refine PL.nm (.op 0 0) [some ⟨.mx [iA p_a.owner, iA p_a.thing, iA p_a.old_, iA p_a.new_], 38, 0⟩] rfl rfl ?_
  refine PL.ef rfl (Ef.box rfl rfl rfl) ?_
  refine PL.nm (.op 1 0) [some ⟨.mx [iA p_a.owner, iA p_a.thing, iA p_a.old_, iA p_a.new_], 38, 0⟩, some ⟨.mx [iA p_b.owner, iA p_b.thing, iA p_b.old_, iA p_b.new_], 38, 0⟩] rfl rfl ?_
  refine PL.op rfl (Rd.asnT rfl) ?_
  refine PL.nil ?_
  refine thA_n ?_
  refine PC.seq ?_
  refine PC.seq ?_
  refine PC.region ?_
  refine PL.op rfl (Rd.fieldO rfl rfl) ?_
  refine PL.op rfl (Rd.loadO rfl rfl rfl) ?_
  refine PL.op rfl (Rd.fieldO rfl rfl) ?_
  refine PL.op rfl (Rd.loadO rfl rfl rfl) ?_
  refine PL.op rfl (Rd.neq rfl rfl) ?_
  refine PL.nil ?_
  refine thA_n ?_
  rcases cond_some hh0 with ⟨h_1, hh0⟩ | ⟨h_1, hh0⟩
  rotate_left
  · refine PC.cond_true rfl (not_f h_1) ?_
    refine PC.seq ?_
    refine PC.region ?_
    refine PL.op rfl (Rd.asnT rfl) ?_
    refine PL.nil ?_
    refine thA_n ?_
    refine PC.ret ?_
    refine thA_r ?_
    obtain rfl := some_in hh0
    exact FinA.mk (r := bA false) (bl := []) [] (.inl rfl) rfl (rl := [.tmp 4]) (.tmp .nil) rfl rfl rfl (.t _) trivial ⟨rfl, rfl⟩
  refine PC.cond_false rfl (not_t h_1) ?_
  refine PC.skip ?_
  refine thA_n ?_
  refine PC.seq ?_
  refine PC.seq ?_
  refine PC.region ?_
  refine PL.op rfl (Rd.fieldO rfl rfl) ?_
  refine PL.op rfl (Rd.loadO rfl rfl rfl) ?_
  refine PL.op rfl (Rd.fieldO rfl rfl) ?_
  refine PL.op rfl (Rd.loadO rfl rfl rfl) ?_
  refine PL.op rfl (Rd.neq rfl rfl) ?_
  refine PL.nil ?_
  refine thA_n ?_
  rcases cond_some hh0 with ⟨h_2, hh0⟩ | ⟨h_2, hh0⟩
  rotate_left
  · refine PC.cond_true rfl (not_f h_2) ?_
    refine PC.seq ?_
    refine PC.region ?_
    refine PL.op rfl (Rd.asnT rfl) ?_
    refine PL.nil ?_
    refine thA_n ?_
    refine PC.ret ?_
    refine thA_r ?_
    obtain rfl := some_in hh0
    exact FinA.mk (r := bA false) (bl := []) [] (.inl rfl) rfl (rl := [.tmp 4]) (.tmp .nil) rfl rfl rfl (.t _) trivial ⟨rfl, rfl⟩
  refine PC.cond_false rfl (not_t h_2) ?_
  refine PC.skip ?_
  refine thA_n ?_
  refine PC.seq ?_
  refine PC.seq ?_
  refine PC.region ?_
  refine PL.op rfl (Rd.fieldO rfl rfl) ?_
  refine PL.op rfl (Rd.loadO rfl rfl rfl) ?_
  refine PL.op rfl (Rd.fieldO rfl rfl) ?_
  refine PL.op rfl (Rd.loadO rfl rfl rfl) ?_
  refine PL.op rfl (Rd.neq rfl rfl) ?_
  refine PL.nil ?_
  refine thA_n ?_
  rcases cond_some hh0 with ⟨h_3, hh0⟩ | ⟨h_3, hh0⟩
  rotate_left
  · refine PC.cond_true rfl (not_f h_3) ?_
    refine PC.seq ?_
    refine PC.region ?_
    refine PL.op rfl (Rd.asnT rfl) ?_
    refine PL.nil ?_
    refine thA_n ?_
    refine PC.ret ?_
    refine thA_r ?_
    obtain rfl := some_in hh0
    exact FinA.mk (r := bA false) (bl := []) [] (.inl rfl) rfl (rl := [.tmp 4]) (.tmp .nil) rfl rfl rfl (.t _) trivial ⟨rfl, rfl⟩
  refine PC.cond_false rfl (not_t h_3) ?_
  refine PC.skip ?_
  refine thA_n ?_
  refine PC.seq ?_
  refine PC.seq ?_
  refine PC.region ?_
  refine PL.op rfl (Rd.fieldO rfl rfl) ?_
  refine PL.op rfl (Rd.loadO rfl rfl rfl) ?_
  refine PL.op rfl (Rd.fieldO rfl rfl) ?_
  refine PL.op rfl (Rd.loadO rfl rfl rfl) ?_
  refine PL.op rfl (Rd.neq rfl rfl) ?_
  refine PL.nil ?_
  refine thA_n ?_
  rcases cond_some hh0 with ⟨h_4, hh0⟩ | ⟨h_4, hh0⟩
  rotate_left
  · refine PC.cond_true rfl (not_f h_4) ?_
    refine PC.seq ?_
    refine PC.region ?_
    refine PL.op rfl (Rd.asnT rfl) ?_
    refine PL.nil ?_
    refine thA_n ?_
    refine PC.ret ?_
    refine thA_r ?_
    obtain rfl := some_in hh0
    exact FinA.mk (r := bA false) (bl := []) [] (.inl rfl) rfl (rl := [.tmp 4]) (.tmp .nil) rfl rfl rfl (.t _) trivial ⟨rfl, rfl⟩
  refine PC.cond_false rfl (not_t h_4) ?_
  refine PC.skip ?_
  refine thA_n ?_
  refine PC.seq ?_
  refine PC.region ?_
  refine PL.op rfl (Rd.asnT rfl) ?_
  refine PL.nil ?_
  refine thA_n ?_
  refine PC.ret ?_
  obtain rfl := some_in hh0
  exact FinA.mk (r := bA true) (bl := []) [] (.inl rfl) rfl (rl := [.tmp 4]) (.tmp .nil) rfl rfl rfl (.t _) trivial ⟨rfl, rfl⟩

def m_L_eqEditS_k1 (N : Nat) : Option (Bool) :=
  some true
def m_L_eqEditS_b1 (N : Nat) (p_a : (List I_Edit)) (p_b : (List I_Edit)) (i2 : Int) : Option (Int ⊕ (Unit ⊕ Bool)) :=
  cond (decide (i2 < (p_a.length : Int)))
    ((ixI p_a i2).bind fun x19 =>
    (ixI p_b i2).bind fun x21 =>
    (m_L_eqEdit N x19 x21).bind fun r23 =>
    cond r23
      ((chk (i2 + (1 : Int))).bind fun n26 =>
      some (.inl n26))
      (some (.inr (.inr false))))
    (some (.inr (.inl ())))
def m_L_eqEditS (N : Nat) (p_a : (List I_Edit)) (p_b : (List I_Edit)) : Option (Bool) :=
  cond (decide ((p_a.length : Int) = (p_b.length : Int)))
    ((loopM (β := Unit ⊕ Bool) (fun s : Int => m_L_eqEditS_b1 N p_a p_b s) N (0 : Int)).bind fun o => match o with
    | .inl e =>
      m_L_eqEditS_k1 N 
    | .inr v =>
      some v)
    (some false)
theorem w_L_eqEditS (N : Nat) (p_a : (List I_Edit)) (p_b : (List I_Edit)) (r : Bool) (hh0 : m_L_eqEditS N p_a p_b = some r) : FnX Try.prog 10 [] [sL p_a, sL p_b] (RE (bA r) []) := by
  unfold m_L_eqEditS at hh0
  refine FnX.mk Try.func10 rfl rfl ?_
  intro s hs
  refine PC.seq ?_
  refine PC.region ?_
  refine PL.op rfl (Rd.asnT rfl) ?_
  refine PL.nil ?_
  refine thA_n ?_
  refine PC.seq ?_
  refine PC.seq ?_
  refine PC.region ?_
  refine PL.op rfl (Rd.moveT rfl) ?_
  refine PL.op rfl (Rd.lenT rfl) ?_
  refine PL.op rfl (Rd.moveT rfl) ?_
  refine PL.op rfl (Rd.lenT rfl) ?_
  refine PL.op rfl (Rd.neq rfl rfl) ?_
  refine PL.nil ?_
  refine thA_n ?_
  rcases cond_some hh0 with ⟨h_1, hh0⟩ | ⟨h_1, hh0⟩
  rotate_left
  · refine PC.cond_true rfl (not_f h_1) ?_
    refine PC.seq ?_
    refine PC.region ?_
    refine PL.op rfl (Rd.asnT rfl) ?_
    refine PL.nil ?_
    refine thA_n ?_
    refine PC.ret ?_
    refine thA_r ?_
    obtain rfl := some_in hh0
    exact FinA.mk (r := bA false) (bl := []) [] (.inl rfl) rfl (rl := [.tmp 4]) (.tmp .nil) rfl rfl rfl (.t _) trivial ⟨rfl, rfl⟩
  refine PC.cond_false rfl (not_t h_1) ?_
  refine PC.skip ?_
  refine thA_n ?_
  refine PC.seq ?_
  refine PC.seq ?_
  refine PC.region ?_
  refine PL.op rfl (Rd.asnT rfl) ?_
  refine PL.nil ?_
  refine thA_n ?_
  obtain ⟨o13, h_14, hh0⟩ := bind_some hh0
  refine PC.cutE hs (fun x : Unit => []) (fun x => []) (fun x => m_L_eqEditS_k1 N  = some r) ?_ ?_
  · refine PC.block ?_
    refine PC.loop hs (fun x : Nat × (Int) => [(0, sL p_a), (1, sL p_b), (5, iA x.2)]) (fun x => []) (fun x => loopM (β := Unit ⊕ Bool) (fun s : Int => m_L_eqEditS_b1 N p_a p_b s) x.1 x.2 = some o13) (fun x => x.1) (N, (0 : Int)) [] ⟨rfl, rfl, trivial, ⟨.t _, .t _, .t _, trivial⟩⟩ h_14 ?_
    rintro ⟨f15_, i2⟩ h_17
    obtain ⟨f15, y16, rfl, hh1, kk1⟩ := loopM_some h_17
    replace hh1 : m_L_eqEditS_b1 N p_a p_b i2 = some y16 := hh1
    unfold m_L_eqEditS_b1 at hh1
    refine PC.seq ?_
    refine PC.seq ?_
    refine PC.region ?_
    refine PL.op rfl (Rd.moveT rfl) ?_
    refine PL.op rfl (Rd.moveT rfl) ?_
    refine PL.op rfl (Rd.lenT rfl) ?_
    refine PL.op rfl (Rd.lss rfl rfl) ?_
    refine PL.nil ?_
    refine thA_n ?_
    rcases cond_some hh1 with ⟨h_18, hh1⟩ | ⟨h_18, hh1⟩
    rotate_left
    · refine PC.cond_false rfl h_18 ?_
      refine PC.exit ?_
      refine thA_e ?_
      refine thA_e ?_
      refine inA_eq rfl ?_
      refine thA_n ?_
      obtain rfl := some_in hh1
      obtain rfl : (.inl () : Unit ⊕ Bool) = o13 := kk1
      exact ⟨(), hh0, [], ⟨rfl, rfl, trivial, trivial⟩⟩
    refine PC.cond_true rfl h_18 ?_
    refine PC.skip ?_
    refine thA_n ?_
    refine PC.seq ?_
    refine PC.block ?_
    refine PC.seq ?_
    obtain ⟨x19, h_20, hh1⟩ := bind_some hh1
    obtain ⟨x21, h_22, hh1⟩ := bind_some hh1
    obtain ⟨r23, h_24, hh1⟩ := bind_some hh1
    refine PC.any (id := 6) 10 (.seg [0, 1, 2, 3, 4, 5, 6, 7, 8, 9] .done) [] rfl (by kernel_rfl) rfl ?_
    refine PT.seg ?_
    refine PR.op rfl (Rd.moveT rfl) ?_
    refine PR.op rfl (Rd.moveT rfl) ?_
    refine PR.op rfl (Rd.ixM rfl rfl h_20) ?_
    refine PR.op rfl (Rd.elMR rfl h_20 rfl rfl) ?_
    refine PR.op rfl (Rd.moveT rfl) ?_
    refine PR.op rfl (Rd.moveT rfl) ?_
    refine PR.op rfl (Rd.ixM rfl rfl h_22) ?_
    refine PR.op rfl (Rd.elMR rfl h_22 rfl rfl) ?_
    refine PR.callM false [] (w_L_eqEdit N x19 x21 r23 h_24) rfl Try.call20 rfl ⟨.aggL ⟨.t _, .t _, .t _, .t _, trivial⟩, .aggL ⟨.t _, .t _, .t _, .t _, trivial⟩, trivial⟩ rfl trivial (fun h => by cases h) rfl ?_
    refine PR.op rfl (Rd.unnot rfl) ?_
    refine PR.nil ?_
    refine PT.done ?_
    refine PL.nil ?_
    refine thA_n ?_
    rcases cond_some hh1 with ⟨h_25, hh1⟩ | ⟨h_25, hh1⟩
    · refine PC.cond_false rfl (not_t h_25) ?_
      refine PC.skip ?_
      refine inA_n ?_
      refine thA_n ?_
      obtain ⟨n26, h_27, hh1⟩ := bind_some hh1
      refine PC.region ?_
      refine PL.op rfl (Rd.moveT rfl) ?_
      refine PL.op rfl (Rd.addM rfl rfl h_27) ?_
      refine PL.op rfl (Rd.asnT rfl) ?_
      refine PL.nil ?_
      obtain rfl := some_in hh1
      refine thA_n ?_
      exact ⟨(f15, n26), Nat.lt_succ_self _, kk1, [], ⟨rfl, rfl, trivial, ⟨.t _, .t _, .t _, trivial⟩⟩⟩
    refine PC.cond_true rfl (not_f h_25) ?_
    refine PC.seq ?_
    refine PC.region ?_
    refine PL.op rfl (Rd.asnT rfl) ?_
    refine PL.nil ?_
    refine thA_n ?_
    refine PC.ret ?_
    refine inA_r ?_
    refine thA_r ?_
    refine thA_r ?_
    refine inA_r ?_
    refine thA_r ?_
    obtain rfl := some_in hh1
    obtain rfl : (.inr false : Unit ⊕ Bool) = o13 := kk1
    refine thA_r ?_
    obtain rfl := some_in hh0
    exact FinA.mk (r := bA false) (bl := []) [] (.inl rfl) rfl (rl := [.tmp 4]) (.tmp .nil) rfl rfl rfl (.t _) trivial ⟨rfl, rfl⟩
  clear hh0
  rintro ⟨⟩ hh0
  replace hh0 : m_L_eqEditS_k1 N  = some r := hh0
  unfold m_L_eqEditS_k1 at hh0
  refine thA_n ?_
  refine PC.seq ?_
  refine PC.region ?_
  refine PL.op rfl (Rd.asnT rfl) ?_
  refine PL.nil ?_
  refine thA_n ?_
  refine PC.ret ?_
  obtain rfl := some_in hh0
  exact FinA.mk (r := bA true) (bl := []) [] (.inl rfl) rfl (rl := [.tmp 4]) (.tmp .nil) rfl rfl rfl (.t _) trivial ⟨rfl, rfl⟩

def m_L_markEditS_k1 (N : Nat) (k17 : Int) (v18 : (List I_Edit)) : Option (Int × (List I_Edit)) :=
  some (k17, v18)
def m_L_markEditS_b1 (N : Nat) (k1 : Int) (i2 : Int) (v3 : (List I_Edit)) : Option ((Int × Int × (List I_Edit)) ⊕ (Int × (List I_Edit))) :=
  cond (decide (i2 < (v3.length : Int)))
    ((ixI v3 i2).bind fun x25 =>
    (chk (k1 + (1 : Int))).bind fun n27 =>
    (chk (n27 + (1 : Int))).bind fun n29 =>
    (chk (n29 + (1 : Int))).bind fun n31 =>
    (chk (n31 + (1 : Int))).bind fun n33 =>
    (chk (i2 + (1 : Int))).bind fun n35 =>
    some (.inl (n33, n35, ((((v3.set i2.toNat (I_Edit.mk k1 x25.thing x25.old_ x25.new_)).set i2.toNat (I_Edit.mk k1 n27 x25.old_ x25.new_)).set i2.toNat (I_Edit.mk k1 n27 n29 x25.new_)).set i2.toNat (I_Edit.mk k1 n27 n29 n31)))))
    (some (.inr (k1, v3)))
def m_L_markEditS (N : Nat) (p_a : (List I_Edit)) (p_k : Int) : Option (Int × (List I_Edit)) :=
  (loopM (β := Int × (List I_Edit)) (fun s : Int × Int × (List I_Edit) => m_L_markEditS_b1 N s.1 s.2.1 s.2.2) N (p_k, (0 : Int), p_a)).bind fun e =>
  m_L_markEditS_k1 N e.1 e.2
theorem w_L_markEditS (N : Nat) (p_a : (List I_Edit)) (p_k : Int) (r : Int × (List I_Edit)) (hh0 : m_L_markEditS N p_a p_k = some r) : FnX Try.prog 12 [⟨.tr (eL p_a), 38, 4⟩] [.os 0 0 p_a.length, iA p_k] (RE (iA r.1) [⟨.tr (eL r.2), 38, 4⟩]) := by
  unfold m_L_markEditS at hh0
  refine FnX.mk Try.func12 rfl rfl ?_
  intro s hs
  refine PC.seq ?_
  refine PC.region ?_
  refine PL.op rfl (Rd.asnT rfl) ?_
  refine PL.nil ?_
  refine thA_n ?_
  refine PC.seq ?_
  refine PC.seq ?_
  refine PC.region ?_
  refine PL.op rfl (Rd.asnT rfl) ?_
  refine PL.nil ?_
  refine thA_n ?_
  obtain ⟨o19, h_20, hh0⟩ := bind_some hh0
  refine PC.cutE hs (fun x : Int × (List I_Edit) => [(1, iA x.1)]) (fun x => [⟨.tr (eL x.2), 38, 4⟩]) (fun x => m_L_markEditS_k1 N x.1 x.2 = some r) ?_ ?_
  · refine PC.block ?_
    refine PC.loop hs (fun x : Nat × (Int × Int × (List I_Edit)) => [(0, .os 0 0 x.2.2.2.length), (1, iA x.2.1), (5, iA x.2.2.1)]) (fun x => [⟨.tr (eL x.2.2.2), 38, 4⟩]) (fun x => loopM (β := Int × (List I_Edit)) (fun s : Int × Int × (List I_Edit) => m_L_markEditS_b1 N s.1 s.2.1 s.2.2) x.1 x.2 = some o19) (fun x => x.1) (N, (p_k, (0 : Int), p_a)) [some 0] ⟨rfl, rfl, ⟨⟨_, rfl, rfl, rfl, .tr _⟩, trivial⟩, ⟨.os rfl, .t _, .t _, trivial⟩⟩ h_20 ?_
    rintro ⟨f21_, k1, i2, v3⟩ h_23
    obtain ⟨f21, y22, rfl, hh1, kk1⟩ := loopM_some h_23
    replace hh1 : m_L_markEditS_b1 N k1 i2 v3 = some y22 := hh1
    unfold m_L_markEditS_b1 at hh1
    refine PC.seq ?_
    refine PC.seq ?_
    refine PC.region ?_
    refine PL.op rfl (Rd.moveT rfl) ?_
    refine PL.op rfl (Rd.moveO rfl) ?_
    refine PL.op rfl (Rd.lenO rfl rfl) ?_
    refine PL.op rfl (Rd.lss rfl rfl) ?_
    refine PL.nil ?_
    refine thA_n ?_
    rcases cond_some hh1 with ⟨h_24, hh1⟩ | ⟨h_24, hh1⟩
    rotate_left
    · refine PC.cond_false rfl h_24 ?_
      refine PC.exit ?_
      refine thA_e ?_
      refine thA_e ?_
      refine inA_eq rfl ?_
      refine thA_n ?_
      obtain rfl := some_in hh1
      obtain rfl : ((k1, v3) : Int × (List I_Edit)) = o19 := kk1
      exact ⟨(k1, v3), hh0, [some 0], ⟨rfl, rfl, ⟨⟨_, rfl, rfl, rfl, .tr _⟩, trivial⟩, ⟨.t _, trivial⟩⟩⟩
    refine PC.cond_true rfl h_24 ?_
    refine PC.skip ?_
    refine thA_n ?_
    refine PC.seq ?_
    refine PC.block ?_
    refine PC.seq ?_
    obtain ⟨x25, h_26, hh1⟩ := bind_some hh1
    refine PC.region ?_
    refine PL.op rfl (Rd.moveO rfl) ?_
    refine PL.op rfl (Rd.moveT rfl) ?_
    refine PL.op rfl (Rd.moveT rfl) ?_
    refine PL.op rfl (Rd.ixOM rfl rfl rfl (ixI_lt h_26)) ?_
    refine PL.op rfl (Rd.fieldO rfl rfl) ?_
    refine PL.stFM (f := 0) (I_Edit.mk k1 x25.thing x25.old_ x25.new_) rfl rfl rfl rfl h_26 rfl rfl ?_
    refine PL.nO [some ⟨.tr (eL (v3.set i2.toNat (I_Edit.mk k1 x25.thing x25.old_ x25.new_))), 38, 4⟩] rfl ?_
    refine PL.nil ?_
    refine thA_n ?_
    refine PC.seq ?_
    obtain ⟨n27, h_28, hh1⟩ := bind_some hh1
    refine PC.region ?_
    refine PL.op rfl (Rd.moveT rfl) ?_
    refine PL.op rfl (Rd.addM rfl rfl h_28) ?_
    refine PL.op rfl (Rd.asnT rfl) ?_
    refine PL.nil ?_
    refine thA_n ?_
    refine PC.seq ?_
    refine PC.region ?_
    refine PL.op rfl (Rd.moveO rfl) ?_
    refine PL.op rfl (Rd.moveT rfl) ?_
    refine PL.op rfl (Rd.moveT rfl) ?_
    refine PL.op rfl (Rd.ixOM rfl rfl rfl (by have hq := ixI_lt (ixI_set (y := (I_Edit.mk k1 x25.thing x25.old_ x25.new_)) h_26); simp only [List.length_set] at hq ⊢; exact hq)) ?_
    refine PL.op rfl (Rd.fieldO rfl rfl) ?_
    refine PL.stFM (f := 1) (I_Edit.mk k1 n27 x25.old_ x25.new_) rfl rfl rfl rfl (ixI_set (y := (I_Edit.mk k1 x25.thing x25.old_ x25.new_)) h_26) rfl rfl ?_
    refine PL.nO [some ⟨.tr (eL ((v3.set i2.toNat (I_Edit.mk k1 x25.thing x25.old_ x25.new_)).set i2.toNat (I_Edit.mk k1 n27 x25.old_ x25.new_))), 38, 4⟩] rfl ?_
    refine PL.nil ?_
    refine thA_n ?_
    refine PC.seq ?_
    obtain ⟨n29, h_30, hh1⟩ := bind_some hh1
    refine PC.region ?_
    refine PL.op rfl (Rd.moveT rfl) ?_
    refine PL.op rfl (Rd.addM rfl rfl h_30) ?_
    refine PL.op rfl (Rd.asnT rfl) ?_
    refine PL.nil ?_
    refine thA_n ?_
    refine PC.seq ?_
    refine PC.region ?_
    refine PL.op rfl (Rd.moveO rfl) ?_
    refine PL.op rfl (Rd.moveT rfl) ?_
    refine PL.op rfl (Rd.moveT rfl) ?_
    refine PL.op rfl (Rd.ixOM rfl rfl rfl (by have hq := ixI_lt (ixI_set (y := (I_Edit.mk k1 n27 x25.old_ x25.new_)) (ixI_set (y := (I_Edit.mk k1 x25.thing x25.old_ x25.new_)) h_26)); simp only [List.length_set] at hq ⊢; exact hq)) ?_
    refine PL.op rfl (Rd.fieldO rfl rfl) ?_
    refine PL.stFM (f := 2) (I_Edit.mk k1 n27 n29 x25.new_) rfl rfl rfl rfl (ixI_set (y := (I_Edit.mk k1 n27 x25.old_ x25.new_)) (ixI_set (y := (I_Edit.mk k1 x25.thing x25.old_ x25.new_)) h_26)) rfl rfl ?_
    refine PL.nO [some ⟨.tr (eL (((v3.set i2.toNat (I_Edit.mk k1 x25.thing x25.old_ x25.new_)).set i2.toNat (I_Edit.mk k1 n27 x25.old_ x25.new_)).set i2.toNat (I_Edit.mk k1 n27 n29 x25.new_))), 38, 4⟩] rfl ?_
    refine PL.nil ?_
    refine thA_n ?_
    refine PC.seq ?_
    obtain ⟨n31, h_32, hh1⟩ := bind_some hh1
    refine PC.region ?_
    refine PL.op rfl (Rd.moveT rfl) ?_
    refine PL.op rfl (Rd.addM rfl rfl h_32) ?_
    refine PL.op rfl (Rd.asnT rfl) ?_
    refine PL.nil ?_
    refine thA_n ?_
    refine PC.seq ?_
    refine PC.region ?_
    refine PL.op rfl (Rd.moveO rfl) ?_
    refine PL.op rfl (Rd.moveT rfl) ?_
    refine PL.op rfl (Rd.moveT rfl) ?_
    refine PL.op rfl (Rd.ixOM rfl rfl rfl (by have hq := ixI_lt (ixI_set (y := (I_Edit.mk k1 n27 n29 x25.new_)) (ixI_set (y := (I_Edit.mk k1 n27 x25.old_ x25.new_)) (ixI_set (y := (I_Edit.mk k1 x25.thing x25.old_ x25.new_)) h_26))); simp only [List.length_set] at hq ⊢; exact hq)) ?_
    refine PL.op rfl (Rd.fieldO rfl rfl) ?_
    refine PL.stFM (f := 3) (I_Edit.mk k1 n27 n29 n31) rfl rfl rfl rfl (ixI_set (y := (I_Edit.mk k1 n27 n29 x25.new_)) (ixI_set (y := (I_Edit.mk k1 n27 x25.old_ x25.new_)) (ixI_set (y := (I_Edit.mk k1 x25.thing x25.old_ x25.new_)) h_26))) rfl rfl ?_
    refine PL.nO [some ⟨.tr (eL ((((v3.set i2.toNat (I_Edit.mk k1 x25.thing x25.old_ x25.new_)).set i2.toNat (I_Edit.mk k1 n27 x25.old_ x25.new_)).set i2.toNat (I_Edit.mk k1 n27 n29 x25.new_)).set i2.toNat (I_Edit.mk k1 n27 n29 n31))), 38, 4⟩] rfl ?_
    refine PL.nil ?_
    refine thA_n ?_
    obtain ⟨n33, h_34, hh1⟩ := bind_some hh1
    refine PC.region ?_
    refine PL.op rfl (Rd.moveT rfl) ?_
    refine PL.op rfl (Rd.addM rfl rfl h_34) ?_
    refine PL.op rfl (Rd.asnT rfl) ?_
    refine PL.nil ?_
    refine inA_n ?_
    refine thA_n ?_
    obtain ⟨n35, h_36, hh1⟩ := bind_some hh1
    refine PC.region ?_
    refine PL.op rfl (Rd.moveT rfl) ?_
    refine PL.op rfl (Rd.addM rfl rfl h_36) ?_
    refine PL.op rfl (Rd.asnT rfl) ?_
    refine PL.nil ?_
    obtain rfl := some_in hh1
    refine thA_n ?_
    exact ⟨(f21, (n33, n35, ((((v3.set i2.toNat (I_Edit.mk k1 x25.thing x25.old_ x25.new_)).set i2.toNat (I_Edit.mk k1 n27 x25.old_ x25.new_)).set i2.toNat (I_Edit.mk k1 n27 n29 x25.new_)).set i2.toNat (I_Edit.mk k1 n27 n29 n31)))), Nat.lt_succ_self _, kk1, [some 0], ⟨rfl, rfl, ⟨⟨_, rfl, rfl, rfl, .tr _⟩, trivial⟩, ⟨.osE rfl (by simp only [List.length_set]), .t _, .t _, trivial⟩⟩⟩
  clear hh0
  rintro ⟨k17, v18⟩ hh0
  replace hh0 : m_L_markEditS_k1 N k17 v18 = some r := hh0
  unfold m_L_markEditS_k1 at hh0
  refine thA_n ?_
  refine PC.seq ?_
  refine PC.region ?_
  refine PL.op rfl (Rd.moveT rfl) ?_
  refine PL.op rfl (Rd.asnT rfl) ?_
  refine PL.nil ?_
  refine thA_n ?_
  refine PC.ret ?_
  obtain rfl := some_in hh0
  exact FinA.mk (r := iA ((k17, v18).1)) (bl := [⟨.tr (eL ((k17, v18).2)), 38, 4⟩]) [some 0] (.inl rfl) rfl (rl := [.tmp 4]) (.tmp .nil) rfl rfl rfl (.t _) ⟨⟨_, rfl, rfl, rfl, .tr _⟩, trivial⟩ ⟨rfl, rfl⟩

end V
end Go.Proofs.Ytaiifcnjmbpbjaa
