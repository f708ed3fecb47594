/- Space: the helpers of the exact laws. No condition. -/
import Derived.Test.YtambkpacecjheaaSpAa
namespace Go.Proofs.Ytambkpacecjheaa
namespace V
open Enc (enc)
set_option linter.unusedVariables false
set_option linter.unusedSimpArgs false
set_option maxHeartbeats 4000000
set_option maxRecDepth 100000
open Go.RowKit
attribute [local irreducible] thA inA FinA eL

structure L_Hold where
  page : Int
  since : Int
deriving DecidableEq
instance : Enc L_Hold := ⟨fun x => [.v (.int .i64 x.page), .v (.int .i64 x.since)], 2, fun _ => rfl⟩
instance : EncF L_Hold := ⟨fun _ c h => by simp [enc] at h; rcases h with h | h <;> exact ⟨_, h⟩⟩
structure L_Space where
  pages : Int
  free : List Int
  held : List L_Hold
deriving DecidableEq
instance : Enc L_Space := ⟨fun x => [.v (.int .i64 x.pages), .sl x.free.length (eL x.free), .sl x.held.length (eL x.held)], 3, fun _ => rfl⟩
def m_L_szIntS (N : Nat) (p_a : (List Int)) (p_left : Int) : Option (Int) :=
  (chk (p_left - (p_a.length : Int))).bind fun n1 =>
  cond (decide (n1 < (0 : Int)))
    (some (-1 : Int))
    (some n1)
theorem w_L_szIntS (N : Nat) (p_a : (List Int)) (p_left : Int) (r : Int) (hh0 : m_L_szIntS N p_a p_left = some r) : FnX Try.prog 41 [] [sL p_a, iA p_left] (RE (iA r) []) := by
  unfold m_L_szIntS at hh0
  refine FnX.mk Try.func41 rfl rfl ?_
  intro s hs
  refine PC.seq ?_
  refine PC.region ?_
  refine PL.op rfl (Rd.asnT rfl) ?_
  refine PL.nil ?_
  refine thA_n ?_
  refine PC.seq ?_
  obtain ⟨n1, h_2, hh0⟩ := bind_some hh0
  refine PC.region ?_
  refine PL.op rfl (Rd.moveT rfl) ?_
  refine PL.op rfl (Rd.moveT rfl) ?_
  refine PL.op rfl (Rd.lenT rfl) ?_
  refine PL.op rfl (Rd.subM rfl rfl h_2) ?_
  refine PL.op rfl (Rd.asnT rfl) ?_
  refine PL.nil ?_
  refine thA_n ?_
  refine PC.seq ?_
  refine PC.seq ?_
  refine PC.region ?_
  refine PL.op rfl (Rd.moveT rfl) ?_
  refine PL.op rfl (Rd.lss rfl rfl) ?_
  refine PL.nil ?_
  refine thA_n ?_
  rcases cond_some hh0 with ⟨h_3, hh0⟩ | ⟨h_3, hh0⟩
  · refine PC.cond_true rfl h_3 ?_
    refine PC.seq ?_
    refine PC.region ?_
    refine PL.op rfl (Rd.asnT rfl) ?_
    refine PL.nil ?_
    refine thA_n ?_
    refine PC.ret ?_
    refine thA_r ?_
    obtain rfl := some_in hh0
    exact FinA.mk (r := iA (-1 : Int)) (bl := []) [] (.inl rfl) rfl (rl := [.tmp 4]) (.tmp .nil) rfl rfl rfl (.t _) trivial ⟨rfl, rfl⟩
  refine PC.cond_false rfl h_3 ?_
  refine PC.skip ?_
  refine thA_n ?_
  refine PC.seq ?_
  refine PC.region ?_
  refine PL.op rfl (Rd.moveT rfl) ?_
  refine PL.op rfl (Rd.asnT rfl) ?_
  refine PL.nil ?_
  refine thA_n ?_
  refine PC.ret ?_
  obtain rfl := some_in hh0
  exact FinA.mk (r := iA n1) (bl := []) [] (.inl rfl) rfl (rl := [.tmp 4]) (.tmp .nil) rfl rfl rfl (.t _) trivial ⟨rfl, rfl⟩

def m_L_szHoldS (N : Nat) (p_a : (List L_Hold)) (p_left : Int) : Option (Int) :=
  (chk (p_left - (p_a.length : Int))).bind fun n1 =>
  cond (decide (n1 < (0 : Int)))
    (some (-1 : Int))
    (some n1)
theorem w_L_szHoldS (N : Nat) (p_a : (List L_Hold)) (p_left : Int) (r : Int) (hh0 : m_L_szHoldS N p_a p_left = some r) : FnX Try.prog 42 [] [sL p_a, iA p_left] (RE (iA r) []) := by
  unfold m_L_szHoldS at hh0
  refine FnX.mk Try.func42 rfl rfl ?_
  intro s hs
  refine PC.seq ?_
  refine PC.region ?_
  refine PL.op rfl (Rd.asnT rfl) ?_
  refine PL.nil ?_
  refine thA_n ?_
  refine PC.seq ?_
  obtain ⟨n1, h_2, hh0⟩ := bind_some hh0
  refine PC.region ?_
  refine PL.op rfl (Rd.moveT rfl) ?_
  refine PL.op rfl (Rd.moveT rfl) ?_
  refine PL.op rfl (Rd.lenT rfl) ?_
  refine PL.op rfl (Rd.subM rfl rfl h_2) ?_
  refine PL.op rfl (Rd.asnT rfl) ?_
  refine PL.nil ?_
  refine thA_n ?_
  refine PC.seq ?_
  refine PC.seq ?_
  refine PC.region ?_
  refine PL.op rfl (Rd.moveT rfl) ?_
  refine PL.op rfl (Rd.lss rfl rfl) ?_
  refine PL.nil ?_
  refine thA_n ?_
  rcases cond_some hh0 with ⟨h_3, hh0⟩ | ⟨h_3, hh0⟩
  · refine PC.cond_true rfl h_3 ?_
    refine PC.seq ?_
    refine PC.region ?_
    refine PL.op rfl (Rd.asnT rfl) ?_
    refine PL.nil ?_
    refine thA_n ?_
    refine PC.ret ?_
    refine thA_r ?_
    obtain rfl := some_in hh0
    exact FinA.mk (r := iA (-1 : Int)) (bl := []) [] (.inl rfl) rfl (rl := [.tmp 4]) (.tmp .nil) rfl rfl rfl (.t _) trivial ⟨rfl, rfl⟩
  refine PC.cond_false rfl h_3 ?_
  refine PC.skip ?_
  refine thA_n ?_
  refine PC.seq ?_
  refine PC.region ?_
  refine PL.op rfl (Rd.moveT rfl) ?_
  refine PL.op rfl (Rd.asnT rfl) ?_
  refine PL.nil ?_
  refine thA_n ?_
  refine PC.ret ?_
  obtain rfl := some_in hh0
  exact FinA.mk (r := iA n1) (bl := []) [] (.inl rfl) rfl (rl := [.tmp 4]) (.tmp .nil) rfl rfl rfl (.t _) trivial ⟨rfl, rfl⟩

def m_L_szSpace (N : Nat) (p_a : L_Space) (p_left : Int) : Option (Int) :=
  (m_L_szIntS N p_a.free p_left).bind fun r1 =>
  cond (decide (r1 < (0 : Int)))
    (some (-1 : Int))
    ((m_L_szHoldS N p_a.held r1).bind fun r4 =>
    cond (decide (r4 < (0 : Int)))
      (some (-1 : Int))
      (some r4))
theorem w_L_szSpace (N : Nat) (p_a : L_Space) (p_left : Int) (r : Int) (hh0 : m_L_szSpace N p_a p_left = some r) : FnX Try.prog 14 [] [.agg [iA p_a.pages, sL p_a.free, sL p_a.held], iA p_left] (RE (iA r) []) := by
  unfold m_L_szSpace at hh0
  refine FnX.mk Try.func14 rfl rfl ?_
  intro s hs
  refine PC.seq ?_
  refine PC.region ?_
  refine PL.ef rfl (Ef.box rfl rfl rfl) ?_
  refine PL.nm (.op 0 0) [some ⟨.mx [iA p_a.pages, sL p_a.free, sL p_a.held], 25, 0⟩] rfl rfl ?_
  refine PL.op rfl (Rd.asnT rfl) ?_
  refine PL.nil ?_
  refine thA_n ?_
  refine PC.seq ?_
  obtain ⟨r1, h_2, hh0⟩ := bind_some hh0
  refine PC.region ?_
  refine PL.op rfl (Rd.fieldO rfl rfl) ?_
  refine PL.op rfl (Rd.loadO rfl rfl rfl) ?_
  refine PL.op rfl (Rd.moveT rfl) ?_
  refine PL.callM false [] (w_L_szIntS N p_a.free p_left r1 h_2) rfl Try.call41 rfl ⟨.t _, .t _, trivial⟩ rfl trivial (fun h => by cases h) ?_
  refine PL.op rfl (Rd.asnT rfl) ?_
  refine PL.nil ?_
  refine thA_n ?_
  refine PC.seq ?_
  refine PC.seq ?_
  refine PC.region ?_
  refine PL.op rfl (Rd.moveT rfl) ?_
  refine PL.op rfl (Rd.lss rfl rfl) ?_
  refine PL.nil ?_
  refine thA_n ?_
  rcases cond_some hh0 with ⟨h_3, hh0⟩ | ⟨h_3, hh0⟩
  · refine PC.cond_true rfl h_3 ?_
    refine PC.seq ?_
    refine PC.region ?_
    refine PL.op rfl (Rd.asnT rfl) ?_
    refine PL.nil ?_
    refine thA_n ?_
    refine PC.ret ?_
    refine thA_r ?_
    obtain rfl := some_in hh0
    exact FinA.mk (r := iA (-1 : Int)) (bl := []) [] (.inl rfl) rfl (rl := [.tmp 4]) (.tmp .nil) rfl rfl rfl (.t _) trivial ⟨rfl, rfl⟩
  refine PC.cond_false rfl h_3 ?_
  refine PC.skip ?_
  refine thA_n ?_
  refine PC.seq ?_
  obtain ⟨r4, h_5, hh0⟩ := bind_some hh0
  refine PC.region ?_
  refine PL.op rfl (Rd.fieldO rfl rfl) ?_
  refine PL.op rfl (Rd.loadO rfl rfl rfl) ?_
  refine PL.op rfl (Rd.moveT rfl) ?_
  refine PL.callM false [] (w_L_szHoldS N p_a.held r1 r4 h_5) rfl Try.call42 rfl ⟨.t _, .t _, trivial⟩ rfl trivial (fun h => by cases h) ?_
  refine PL.op rfl (Rd.asnT rfl) ?_
  refine PL.nil ?_
  refine thA_n ?_
  refine PC.seq ?_
  refine PC.seq ?_
  refine PC.region ?_
  refine PL.op rfl (Rd.moveT rfl) ?_
  refine PL.op rfl (Rd.lss rfl rfl) ?_
  refine PL.nil ?_
  refine thA_n ?_
  rcases cond_some hh0 with ⟨h_6, hh0⟩ | ⟨h_6, hh0⟩
  · refine PC.cond_true rfl h_6 ?_
    refine PC.seq ?_
    refine PC.region ?_
    refine PL.op rfl (Rd.asnT rfl) ?_
    refine PL.nil ?_
    refine thA_n ?_
    refine PC.ret ?_
    refine thA_r ?_
    obtain rfl := some_in hh0
    exact FinA.mk (r := iA (-1 : Int)) (bl := []) [] (.inl rfl) rfl (rl := [.tmp 4]) (.tmp .nil) rfl rfl rfl (.t _) trivial ⟨rfl, rfl⟩
  refine PC.cond_false rfl h_6 ?_
  refine PC.skip ?_
  refine thA_n ?_
  refine PC.seq ?_
  refine PC.region ?_
  refine PL.op rfl (Rd.moveT rfl) ?_
  refine PL.op rfl (Rd.asnT rfl) ?_
  refine PL.nil ?_
  refine thA_n ?_
  refine PC.ret ?_
  obtain rfl := some_in hh0
  exact FinA.mk (r := iA r4) (bl := []) [] (.inl rfl) rfl (rl := [.tmp 4]) (.tmp .nil) rfl rfl rfl (.t _) trivial ⟨rfl, rfl⟩

def m_L_toIntS_k1 (N : Nat) (v12 : (List Int)) : Option ((List Int)) :=
  some v12
def m_L_toIntS_b1 (N : Nat) (p_a : (List Int)) (i3 : Int) (v4 : (List Int)) : Option ((Int × (List Int)) ⊕ (List Int)) :=
  cond (decide (i3 < (p_a.length : Int)))
    ((ixI p_a i3).bind fun x19 =>
    (ixI v4 i3).bind fun x21 =>
    (chk (i3 + (1 : Int))).bind fun n23 =>
    some (.inl (n23, (v4.set i3.toNat x19))))
    (some (.inr v4))
def m_L_toIntS (N : Nat) (p_a : (List Int)) : Option ((List Int)) :=
  (mkM 8 (0 : Int) (p_a.length : Int)).bind fun xs1 =>
  (loopM (β := (List Int)) (fun s : Int × (List Int) => m_L_toIntS_b1 N p_a s.1 s.2) N ((0 : Int), xs1)).bind fun e =>
  m_L_toIntS_k1 N e
theorem w_L_toIntS (N : Nat) (p_a : (List Int)) (r : (List Int)) (hh0 : m_L_toIntS N p_a = some r) : FnX Try.prog 44 [] [sL p_a] (RE (.os 0 0 r.length) [⟨.tr (eL r), 3, 1⟩]) := by
  unfold m_L_toIntS at hh0
  refine FnX.mk Try.func44 rfl rfl ?_
  intro s hs
  refine PC.seq ?_
  refine PC.region ?_
  refine PL.op rfl (Rd.asnT rfl) ?_
  refine PL.nil ?_
  refine thA_n ?_
  refine PC.seq ?_
  obtain ⟨xs1, h_2, hh0⟩ := bind_some hh0
  refine PC.region ?_
  refine PL.op rfl (Rd.moveT rfl) ?_
  refine PL.op rfl (Rd.lenT rfl) ?_
  refine PL.ef rfl (Ef.makeM (0 : Int) rfl rfl h_2 rfl rfl rfl (by exact ⟨.inl ⟨rfl, rfl⟩, trivial⟩)) ?_
  refine PL.nm (.os 0 0 xs1.length) [some ⟨.tr (eL xs1), 3, 1⟩] rfl rfl ?_
  refine PL.op rfl (Rd.asnO rfl) ?_
  refine PL.nil ?_
  refine thA_n ?_
  refine PC.seq ?_
  refine PC.seq ?_
  refine PC.region ?_
  refine PL.op rfl (Rd.asnT rfl) ?_
  refine PL.nil ?_
  refine thA_n ?_
  obtain ⟨o13, h_14, hh0⟩ := bind_some hh0
  refine PC.cutE hs (fun x : (List Int) => [(3, .os 0 0 x.length)]) (fun x => [⟨.tr (eL x), 3, 1⟩]) (fun x => m_L_toIntS_k1 N x = some r) ?_ ?_
  · refine PC.block ?_
    refine PC.loop hs (fun x : Nat × (Int × (List Int)) => [(0, sL p_a), (3, .os 0 0 x.2.2.length), (4, iA x.2.1)]) (fun x => [⟨.tr (eL x.2.2), 3, 1⟩]) (fun x => loopM (β := (List Int)) (fun s : Int × (List Int) => m_L_toIntS_b1 N p_a s.1 s.2) x.1 x.2 = some o13) (fun x => x.1) (N, ((0 : Int), xs1)) [some 0] ⟨rfl, rfl, ⟨⟨_, rfl, rfl, rfl, .tr _⟩, trivial⟩, ⟨.t _, .os rfl, .t _, trivial⟩⟩ h_14 ?_
    rintro ⟨f15_, i3, v4⟩ h_17
    obtain ⟨f15, y16, rfl, hh1, kk1⟩ := loopM_some h_17
    replace hh1 : m_L_toIntS_b1 N p_a i3 v4 = some y16 := hh1
    unfold m_L_toIntS_b1 at hh1
    refine PC.seq ?_
    refine PC.seq ?_
    refine PC.region ?_
    refine PL.op rfl (Rd.moveT rfl) ?_
    refine PL.op rfl (Rd.moveT rfl) ?_
    refine PL.op rfl (Rd.lenT rfl) ?_
    refine PL.op rfl (Rd.lss rfl rfl) ?_
    refine PL.nil ?_
    refine thA_n ?_
    rcases cond_some hh1 with ⟨h_18, hh1⟩ | ⟨h_18, hh1⟩
    rotate_left
    · refine PC.cond_false rfl h_18 ?_
      refine PC.exit ?_
      refine thA_e ?_
      refine thA_e ?_
      refine inA_eq rfl ?_
      refine thA_n ?_
      obtain rfl := some_in hh1
      obtain rfl : (v4 : (List Int)) = o13 := kk1
      exact ⟨v4, hh0, [some 0], ⟨rfl, rfl, ⟨⟨_, rfl, rfl, rfl, .tr _⟩, trivial⟩, ⟨.os rfl, trivial⟩⟩⟩
    refine PC.cond_true rfl h_18 ?_
    refine PC.skip ?_
    refine thA_n ?_
    refine PC.seq ?_
    refine PC.block ?_
    obtain ⟨x19, h_20, hh1⟩ := bind_some hh1
    obtain ⟨x21, h_22, hh1⟩ := bind_some hh1
    refine PC.region ?_
    refine PL.op rfl (Rd.moveO rfl) ?_
    refine PL.op rfl (Rd.moveT rfl) ?_
    refine PL.op rfl (Rd.moveT rfl) ?_
    refine PL.op rfl (Rd.moveT rfl) ?_
    refine PL.op rfl (Rd.ixM rfl rfl h_20) ?_
    refine PL.op rfl (Rd.elM1 rfl h_20 rfl rfl) ?_
    refine PL.op rfl (Rd.ixOM rfl rfl rfl (ixI_lt h_22)) ?_
    refine PL.stRM x19 rfl rfl rfl rfl rfl h_22 rfl ?_
    refine PL.nO [some ⟨.tr (eL (v4.set i3.toNat x19)), 3, 1⟩] rfl ?_
    refine PL.nil ?_
    refine inA_n ?_
    refine thA_n ?_
    obtain ⟨n23, h_24, hh1⟩ := bind_some hh1
    refine PC.region ?_
    refine PL.op rfl (Rd.moveT rfl) ?_
    refine PL.op rfl (Rd.addM rfl rfl h_24) ?_
    refine PL.op rfl (Rd.asnT rfl) ?_
    refine PL.nil ?_
    obtain rfl := some_in hh1
    refine thA_n ?_
    exact ⟨(f15, (n23, (v4.set i3.toNat x19))), Nat.lt_succ_self _, kk1, [some 0], ⟨rfl, rfl, ⟨⟨_, rfl, rfl, rfl, .tr _⟩, trivial⟩, ⟨.t _, .osE rfl (by simp only [List.length_set]), .t _, trivial⟩⟩⟩
  clear hh0
  rintro v12 hh0
  replace hh0 : m_L_toIntS_k1 N v12 = some r := hh0
  unfold m_L_toIntS_k1 at hh0
  refine thA_n ?_
  refine PC.seq ?_
  refine PC.region ?_
  refine PL.op rfl (Rd.moveO rfl) ?_
  refine PL.op rfl (Rd.asnO rfl) ?_
  refine PL.nil ?_
  refine thA_n ?_
  refine PC.ret ?_
  obtain rfl := some_in hh0
  exact FinA.mk (r := .os 0 0 v12.length) (bl := [⟨.tr (eL v12), 3, 1⟩]) [some 0] (.inl rfl) rfl (rl := [.tmp 2]) (.tmp .nil) rfl rfl rfl (.os rfl) ⟨⟨_, rfl, rfl, rfl, .tr _⟩, trivial⟩ ⟨rfl, rfl⟩

def m_L_toHold (N : Nat) (p_a : L_Hold) : Option (I_Hold) :=
  some (I_Hold.mk p_a.page p_a.since)
theorem w_L_toHold (N : Nat) (p_a : L_Hold) (r : I_Hold) (hh0 : m_L_toHold N p_a = some r) : FnX Try.prog 63 [] [.agg [iA p_a.page, iA p_a.since]] (RE (.agg [iA r.page, iA r.since]) []) := by
  unfold m_L_toHold at hh0
  refine FnX.mk Try.func63 rfl rfl ?_
  intro s hs
  refine PC.seq ?_
  refine PC.region ?_
  refine PL.ef rfl (Ef.box rfl rfl rfl) ?_
  refine PL.nm (.op 0 0) [some ⟨.mx [iA p_a.page, iA p_a.since], 74, 0⟩] rfl rfl ?_
  refine PL.ef rfl (Ef.alloc rfl rfl) ?_
  refine PL.nm (.op 1 0) [some ⟨.mx [iA p_a.page, iA p_a.since], 74, 0⟩, some ⟨.mx [iA (0 : Int), iA (0 : Int)], 42, 0⟩] rfl rfl ?_
  refine PL.nil ?_
  refine thA_n ?_
  refine PC.seq ?_
  refine PC.region ?_
  refine PL.ef rfl (Ef.alloc rfl rfl) ?_
  refine PL.nm (.op 2 0) [some ⟨.mx [iA p_a.page, iA p_a.since], 74, 0⟩, some ⟨.mx [iA (0 : Int), iA (0 : Int)], 42, 0⟩, some ⟨.mx [iA (0 : Int), iA (0 : Int)], 42, 0⟩] rfl rfl ?_
  refine PL.nil ?_
  refine thA_n ?_
  refine PC.seq ?_
  refine PC.region ?_
  refine PL.op rfl (Rd.fieldO rfl rfl) ?_
  refine PL.op rfl (Rd.loadO rfl rfl rfl) ?_
  refine PL.op rfl (Rd.fieldO rfl rfl) ?_
  refine PL.store rfl rfl rfl rfl rfl rfl rfl ?_
  refine PL.nO [some ⟨.mx [iA p_a.page, iA p_a.since], 74, 0⟩, some ⟨.mx [iA (0 : Int), iA (0 : Int)], 42, 0⟩, some ⟨.mx [iA p_a.page, iA (0 : Int)], 42, 0⟩] rfl ?_
  refine PL.nil ?_
  refine thA_n ?_
  refine PC.seq ?_
  refine PC.region ?_
  refine PL.op rfl (Rd.fieldO rfl rfl) ?_
  refine PL.op rfl (Rd.loadO rfl rfl rfl) ?_
  refine PL.op rfl (Rd.fieldO rfl rfl) ?_
  refine PL.store rfl rfl rfl rfl rfl rfl rfl ?_
  refine PL.nO [some ⟨.mx [iA p_a.page, iA p_a.since], 74, 0⟩, some ⟨.mx [iA (0 : Int), iA (0 : Int)], 42, 0⟩, some ⟨.mx [iA p_a.page, iA p_a.since], 42, 0⟩] rfl ?_
  refine PL.nil ?_
  refine thA_n ?_
  refine PC.seq ?_
  refine PC.region ?_
  refine PL.op rfl (Rd.loadBox rfl rfl rfl) ?_
  refine PL.store rfl rfl rfl rfl rfl rfl rfl ?_
  refine PL.nO [some ⟨.mx [iA p_a.page, iA p_a.since], 74, 0⟩, some ⟨.mx [iA p_a.page, iA p_a.since], 42, 0⟩, some ⟨.mx [iA p_a.page, iA p_a.since], 42, 0⟩] rfl ?_
  refine PL.nil ?_
  refine thA_n ?_
  refine PC.ret ?_
  obtain rfl := some_in hh0
  exact FinA.mk (r := .agg [iA p_a.page, iA p_a.since]) (bl := []) [] (.inl rfl) rfl (rl := [.cell 2 42]) (.cellN rfl rfl rfl rfl .nil) rfl rfl rfl (.aggL ⟨.t _, .t _, trivial⟩) trivial ⟨rfl, rfl⟩

def m_L_toHoldS_k1 (N : Nat) (v14 : (List I_Hold)) : Option ((List I_Hold)) :=
  some v14
def m_L_toHoldS_b1 (N : Nat) (p_a : (List L_Hold)) (i3 : Int) (v4 : (List I_Hold)) : Option ((Int × (List I_Hold)) ⊕ (List I_Hold)) :=
  cond (decide (i3 < (p_a.length : Int)))
    ((ixI p_a i3).bind fun x21 =>
    (m_L_toHold N x21).bind fun r23 =>
    (ixI v4 i3).bind fun x25 =>
    (chk (i3 + (1 : Int))).bind fun n27 =>
    some (.inl (n27, (v4.set i3.toNat r23))))
    (some (.inr v4))
def m_L_toHoldS (N : Nat) (p_a : (List L_Hold)) : Option ((List I_Hold)) :=
  (mkM 16 (I_Hold.mk (0 : Int) (0 : Int)) (p_a.length : Int)).bind fun xs1 =>
  (loopM (β := (List I_Hold)) (fun s : Int × (List I_Hold) => m_L_toHoldS_b1 N p_a s.1 s.2) N ((0 : Int), xs1)).bind fun e =>
  m_L_toHoldS_k1 N e
theorem w_L_toHoldS (N : Nat) (p_a : (List L_Hold)) (r : (List I_Hold)) (hh0 : m_L_toHoldS N p_a = some r) : FnX Try.prog 45 [] [sL p_a] (RE (.os 0 0 r.length) [⟨.tr (eL r), 42, 2⟩]) := by
  unfold m_L_toHoldS at hh0
  refine FnX.mk Try.func45 rfl rfl ?_
  intro s hs
  refine PC.seq ?_
  refine PC.region ?_
  refine PL.op rfl (Rd.asnT rfl) ?_
  refine PL.nil ?_
  refine thA_n ?_
  refine PC.seq ?_
  obtain ⟨xs1, h_2, hh0⟩ := bind_some hh0
  refine PC.region ?_
  refine PL.op rfl (Rd.moveT rfl) ?_
  refine PL.op rfl (Rd.lenT rfl) ?_
  refine PL.ef rfl (Ef.makeM (I_Hold.mk (0 : Int) (0 : Int)) rfl rfl h_2 rfl rfl rfl (by exact ⟨.inl ⟨rfl, rfl⟩, .inl ⟨rfl, rfl⟩, trivial⟩)) ?_
  refine PL.nm (.os 0 0 xs1.length) [some ⟨.tr (eL xs1), 42, 2⟩] rfl rfl ?_
  refine PL.op rfl (Rd.asnO rfl) ?_
  refine PL.nil ?_
  refine thA_n ?_
  refine PC.seq ?_
  refine PC.seq ?_
  refine PC.region ?_
  refine PL.op rfl (Rd.asnT rfl) ?_
  refine PL.nil ?_
  refine thA_n ?_
  obtain ⟨o15, h_16, hh0⟩ := bind_some hh0
  refine PC.cutE hs (fun x : (List I_Hold) => [(3, .os 0 0 x.length)]) (fun x => [⟨.tr (eL x), 42, 2⟩]) (fun x => m_L_toHoldS_k1 N x = some r) ?_ ?_
  · refine PC.block ?_
    refine PC.loop hs (fun x : Nat × (Int × (List I_Hold)) => [(0, sL p_a), (3, .os 0 0 x.2.2.length), (4, iA x.2.1)]) (fun x => [⟨.tr (eL x.2.2), 42, 2⟩]) (fun x => loopM (β := (List I_Hold)) (fun s : Int × (List I_Hold) => m_L_toHoldS_b1 N p_a s.1 s.2) x.1 x.2 = some o15) (fun x => x.1) (N, ((0 : Int), xs1)) [some 0] ⟨rfl, rfl, ⟨⟨_, rfl, rfl, rfl, .tr _⟩, trivial⟩, ⟨.t _, .os rfl, .t _, trivial⟩⟩ h_16 ?_
    rintro ⟨f17_, i3, v4⟩ h_19
    obtain ⟨f17, y18, rfl, hh1, kk1⟩ := loopM_some h_19
    replace hh1 : m_L_toHoldS_b1 N p_a i3 v4 = some y18 := hh1
    unfold m_L_toHoldS_b1 at hh1
    refine PC.seq ?_
    refine PC.seq ?_
    refine PC.region ?_
    refine PL.op rfl (Rd.moveT rfl) ?_
    refine PL.op rfl (Rd.moveT rfl) ?_
    refine PL.op rfl (Rd.lenT rfl) ?_
    refine PL.op rfl (Rd.lss rfl rfl) ?_
    refine PL.nil ?_
    refine thA_n ?_
    rcases cond_some hh1 with ⟨h_20, hh1⟩ | ⟨h_20, hh1⟩
    rotate_left
    · refine PC.cond_false rfl h_20 ?_
      refine PC.exit ?_
      refine thA_e ?_
      refine thA_e ?_
      refine inA_eq rfl ?_
      refine thA_n ?_
      obtain rfl := some_in hh1
      obtain rfl : (v4 : (List I_Hold)) = o15 := kk1
      exact ⟨v4, hh0, [some 0], ⟨rfl, rfl, ⟨⟨_, rfl, rfl, rfl, .tr _⟩, trivial⟩, ⟨.os rfl, trivial⟩⟩⟩
    refine PC.cond_true rfl h_20 ?_
    refine PC.skip ?_
    refine thA_n ?_
    refine PC.seq ?_
    refine PC.block ?_
    obtain ⟨x21, h_22, hh1⟩ := bind_some hh1
    obtain ⟨r23, h_24, hh1⟩ := bind_some hh1
    obtain ⟨x25, h_26, hh1⟩ := bind_some hh1
    refine PC.region ?_
    refine PL.op rfl (Rd.moveO rfl) ?_
    refine PL.op rfl (Rd.moveT rfl) ?_
    refine PL.op rfl (Rd.moveT rfl) ?_
    refine PL.op rfl (Rd.moveT rfl) ?_
    refine PL.op rfl (Rd.ixM rfl rfl h_22) ?_
    refine PL.op rfl (Rd.elMR rfl h_22 rfl rfl) ?_
    refine PL.callM false [] (w_L_toHold N x21 r23 h_24) rfl Try.call63 rfl ⟨.aggL ⟨.t _, .t _, trivial⟩, trivial⟩ rfl trivial (fun h => by cases h) ?_
    refine PL.op rfl (Rd.ixOM rfl rfl rfl (ixI_lt h_26)) ?_
    refine PL.stRM r23 rfl rfl rfl rfl rfl h_26 rfl ?_
    refine PL.nO [some ⟨.tr (eL (v4.set i3.toNat r23)), 42, 2⟩] rfl ?_
    refine PL.nil ?_
    refine inA_n ?_
    refine thA_n ?_
    obtain ⟨n27, h_28, hh1⟩ := bind_some hh1
    refine PC.region ?_
    refine PL.op rfl (Rd.moveT rfl) ?_
    refine PL.op rfl (Rd.addM rfl rfl h_28) ?_
    refine PL.op rfl (Rd.asnT rfl) ?_
    refine PL.nil ?_
    obtain rfl := some_in hh1
    refine thA_n ?_
    exact ⟨(f17, (n27, (v4.set i3.toNat r23))), Nat.lt_succ_self _, kk1, [some 0], ⟨rfl, rfl, ⟨⟨_, rfl, rfl, rfl, .tr _⟩, trivial⟩, ⟨.t _, .osE rfl (by simp only [List.length_set]), .t _, trivial⟩⟩⟩
  clear hh0
  rintro v14 hh0
  replace hh0 : m_L_toHoldS_k1 N v14 = some r := hh0
  unfold m_L_toHoldS_k1 at hh0
  refine thA_n ?_
  refine PC.seq ?_
  refine PC.region ?_
  refine PL.op rfl (Rd.moveO rfl) ?_
  refine PL.op rfl (Rd.asnO rfl) ?_
  refine PL.nil ?_
  refine thA_n ?_
  refine PC.ret ?_
  obtain rfl := some_in hh0
  exact FinA.mk (r := .os 0 0 v14.length) (bl := [⟨.tr (eL v14), 42, 2⟩]) [some 0] (.inl rfl) rfl (rl := [.tmp 2]) (.tmp .nil) rfl rfl rfl (.os rfl) ⟨⟨_, rfl, rfl, rfl, .tr _⟩, trivial⟩ ⟨rfl, rfl⟩

def m_L_toSpace (N : Nat) (p_a : L_Space) : Option (I_Space) :=
  (m_L_toIntS N p_a.free).bind fun r1 =>
  (m_L_toHoldS N p_a.held).bind fun r3 =>
  some (I_Space.mk p_a.pages r1 r3)
theorem w_L_toSpace (N : Nat) (p_a : L_Space) (r : I_Space) (hh0 : m_L_toSpace N p_a = some r) : FnX Try.prog 16 [] [.agg [iA p_a.pages, sL p_a.free, sL p_a.held]] (RE (.agg [iA r.pages, .os 0 0 r.free.length, .os 1 0 r.held.length]) [⟨.tr (eL r.free), 3, 1⟩, ⟨.tr (eL r.held), 42, 2⟩]) := by
  unfold m_L_toSpace at hh0
  refine FnX.mk Try.func16 rfl rfl ?_
  intro s hs
  refine PC.seq ?_
  refine PC.region ?_
  refine PL.ef rfl (Ef.box rfl rfl rfl) ?_
  refine PL.nm (.op 0 0) [some ⟨.mx [iA p_a.pages, sL p_a.free, sL p_a.held], 25, 0⟩] rfl rfl ?_
  refine PL.ef rfl (Ef.alloc rfl rfl) ?_
  refine PL.nm (.op 1 0) [some ⟨.mx [iA p_a.pages, sL p_a.free, sL p_a.held], 25, 0⟩, some ⟨.mx [iA (0 : Int), .t (.v (.slice none 0 0)), .t (.v (.slice none 0 0))], 30, 0⟩] rfl rfl ?_
  refine PL.nil ?_
  refine thA_n ?_
  refine PC.seq ?_
  refine PC.region ?_
  refine PL.ef rfl (Ef.alloc rfl rfl) ?_
  refine PL.nm (.op 2 0) [some ⟨.mx [iA p_a.pages, sL p_a.free, sL p_a.held], 25, 0⟩, some ⟨.mx [iA (0 : Int), .t (.v (.slice none 0 0)), .t (.v (.slice none 0 0))], 30, 0⟩, some ⟨.mx [iA (0 : Int), .t (.v (.slice none 0 0)), .t (.v (.slice none 0 0))], 30, 0⟩] rfl rfl ?_
  refine PL.nil ?_
  refine thA_n ?_
  refine PC.seq ?_
  refine PC.region ?_
  refine PL.op rfl (Rd.fieldO rfl rfl) ?_
  refine PL.op rfl (Rd.loadO rfl rfl rfl) ?_
  refine PL.op rfl (Rd.fieldO rfl rfl) ?_
  refine PL.store rfl rfl rfl rfl rfl rfl rfl ?_
  refine PL.nO [some ⟨.mx [iA p_a.pages, sL p_a.free, sL p_a.held], 25, 0⟩, some ⟨.mx [iA (0 : Int), .t (.v (.slice none 0 0)), .t (.v (.slice none 0 0))], 30, 0⟩, some ⟨.mx [iA p_a.pages, .t (.v (.slice none 0 0)), .t (.v (.slice none 0 0))], 30, 0⟩] rfl ?_
  refine PL.nil ?_
  refine thA_n ?_
  refine PC.seq ?_
  obtain ⟨r1, h_2, hh0⟩ := bind_some hh0
  refine PC.region ?_
  refine PL.op rfl (Rd.fieldO rfl rfl) ?_
  refine PL.op rfl (Rd.loadO rfl rfl rfl) ?_
  refine PL.callM false [] (w_L_toIntS N p_a.free r1 h_2) rfl Try.call44 rfl ⟨.t _, trivial⟩ rfl trivial (fun h => by cases h) ?_
  refine PL.nm (.os 3 0 r1.length) [some ⟨.mx [iA p_a.pages, sL p_a.free, sL p_a.held], 25, 0⟩, some ⟨.mx [iA (0 : Int), .t (.v (.slice none 0 0)), .t (.v (.slice none 0 0))], 30, 0⟩, some ⟨.mx [iA p_a.pages, .t (.v (.slice none 0 0)), .t (.v (.slice none 0 0))], 30, 0⟩, some ⟨.tr (eL r1), 3, 1⟩] rfl rfl ?_
  refine PL.op rfl (Rd.fieldO rfl rfl) ?_
  refine PL.store rfl rfl rfl rfl rfl rfl rfl ?_
  refine PL.nO [some ⟨.mx [iA p_a.pages, sL p_a.free, sL p_a.held], 25, 0⟩, some ⟨.mx [iA (0 : Int), .t (.v (.slice none 0 0)), .t (.v (.slice none 0 0))], 30, 0⟩, some ⟨.mx [iA p_a.pages, .os 3 0 r1.length, .t (.v (.slice none 0 0))], 30, 0⟩, some ⟨.tr (eL r1), 3, 1⟩] rfl ?_
  refine PL.nil ?_
  refine thA_n ?_
  refine PC.seq ?_
  obtain ⟨r3, h_4, hh0⟩ := bind_some hh0
  refine PC.region ?_
  refine PL.op rfl (Rd.fieldO rfl rfl) ?_
  refine PL.op rfl (Rd.loadO rfl rfl rfl) ?_
  refine PL.callM false [] (w_L_toHoldS N p_a.held r3 h_4) rfl Try.call45 rfl ⟨.t _, trivial⟩ rfl trivial (fun h => by cases h) ?_
  refine PL.nm (.os 4 0 r3.length) [some ⟨.mx [iA p_a.pages, sL p_a.free, sL p_a.held], 25, 0⟩, some ⟨.mx [iA (0 : Int), .t (.v (.slice none 0 0)), .t (.v (.slice none 0 0))], 30, 0⟩, some ⟨.mx [iA p_a.pages, .os 3 0 r1.length, .t (.v (.slice none 0 0))], 30, 0⟩, some ⟨.tr (eL r1), 3, 1⟩, some ⟨.tr (eL r3), 42, 2⟩] rfl rfl ?_
  refine PL.op rfl (Rd.fieldO rfl rfl) ?_
  refine PL.store rfl rfl rfl rfl rfl rfl rfl ?_
  refine PL.nO [some ⟨.mx [iA p_a.pages, sL p_a.free, sL p_a.held], 25, 0⟩, some ⟨.mx [iA (0 : Int), .t (.v (.slice none 0 0)), .t (.v (.slice none 0 0))], 30, 0⟩, some ⟨.mx [iA p_a.pages, .os 3 0 r1.length, .os 4 0 r3.length], 30, 0⟩, some ⟨.tr (eL r1), 3, 1⟩, some ⟨.tr (eL r3), 42, 2⟩] rfl ?_
  refine PL.nil ?_
  refine thA_n ?_
  refine PC.seq ?_
  refine PC.region ?_
  refine PL.op rfl (Rd.loadBox rfl rfl rfl) ?_
  refine PL.store rfl rfl rfl rfl rfl rfl rfl ?_
  refine PL.nO [some ⟨.mx [iA p_a.pages, sL p_a.free, sL p_a.held], 25, 0⟩, some ⟨.mx [iA p_a.pages, .os 3 0 r1.length, .os 4 0 r3.length], 30, 0⟩, some ⟨.mx [iA p_a.pages, .os 3 0 r1.length, .os 4 0 r3.length], 30, 0⟩, some ⟨.tr (eL r1), 3, 1⟩, some ⟨.tr (eL r3), 42, 2⟩] rfl ?_
  refine PL.nil ?_
  refine thA_n ?_
  refine PC.ret ?_
  obtain rfl := some_in hh0
  exact FinA.mk (r := .agg [iA p_a.pages, .os 0 0 r1.length, .os 1 0 r3.length]) (bl := [⟨.tr (eL r1), 3, 1⟩, ⟨.tr (eL r3), 42, 2⟩]) [some 3, some 4] (.inl rfl) rfl (rl := [.cell 2 30]) (.cellN rfl rfl rfl rfl .nil) rfl rfl rfl (.aggL ⟨.t _, .os rfl, .os rfl, trivial⟩) ⟨⟨_, rfl, rfl, rfl, .tr _⟩, ⟨_, rfl, rfl, rfl, .tr _⟩, trivial⟩ ⟨rfl, rfl⟩

def m_L_eqIntS_k1 (N : Nat) : Option (Bool) :=
  some true
def m_L_eqIntS_b1 (N : Nat) (p_a : (List Int)) (p_b : (List Int)) (i2 : Int) : Option (Int ⊕ (Unit ⊕ Bool)) :=
  cond (decide (i2 < (p_a.length : Int)))
    ((ixI p_a i2).bind fun x17 =>
    (ixI p_b i2).bind fun x19 =>
    cond (decide (x17 = x19))
      ((chk (i2 + (1 : Int))).bind fun n22 =>
      some (.inl n22))
      (some (.inr (.inr false))))
    (some (.inr (.inl ())))
def m_L_eqIntS (N : Nat) (p_a : (List Int)) (p_b : (List Int)) : Option (Bool) :=
  cond (decide ((p_a.length : Int) = (p_b.length : Int)))
    ((loopM (β := Unit ⊕ Bool) (fun s : Int => m_L_eqIntS_b1 N p_a p_b s) N (0 : Int)).bind fun o => match o with
    | .inl e =>
      m_L_eqIntS_k1 N 
    | .inr v =>
      some v)
    (some false)
theorem w_L_eqIntS (N : Nat) (p_a : (List Int)) (p_b : (List Int)) (r : Bool) (hh0 : m_L_eqIntS N p_a p_b = some r) : FnX Try.prog 21 [] [sL p_a, sL p_b] (RE (bA r) []) := by
  unfold m_L_eqIntS at hh0
  refine FnX.mk Try.func21 rfl rfl ?_
  intro s hs
  refine PC.seq ?_
  refine PC.region ?_
  refine PL.op rfl (Rd.asnT rfl) ?_
  refine PL.nil ?_
  refine thA_n ?_
  refine PC.seq ?_
  refine PC.seq ?_
  refine PC.region ?_
  refine PL.op rfl (Rd.moveT rfl) ?_
  refine PL.op rfl (Rd.lenT rfl) ?_
  refine PL.op rfl (Rd.moveT rfl) ?_
  refine PL.op rfl (Rd.lenT rfl) ?_
  refine PL.op rfl (Rd.neq rfl rfl) ?_
  refine PL.nil ?_
  refine thA_n ?_
  rcases cond_some hh0 with ⟨h_1, hh0⟩ | ⟨h_1, hh0⟩
  rotate_left
  · refine PC.cond_true rfl (not_f h_1) ?_
    refine PC.seq ?_
    refine PC.region ?_
    refine PL.op rfl (Rd.asnT rfl) ?_
    refine PL.nil ?_
    refine thA_n ?_
    refine PC.ret ?_
    refine thA_r ?_
    obtain rfl := some_in hh0
    exact FinA.mk (r := bA false) (bl := []) [] (.inl rfl) rfl (rl := [.tmp 4]) (.tmp .nil) rfl rfl rfl (.t _) trivial ⟨rfl, rfl⟩
  refine PC.cond_false rfl (not_t h_1) ?_
  refine PC.skip ?_
  refine thA_n ?_
  refine PC.seq ?_
  refine PC.seq ?_
  refine PC.region ?_
  refine PL.op rfl (Rd.asnT rfl) ?_
  refine PL.nil ?_
  refine thA_n ?_
  obtain ⟨o11, h_12, hh0⟩ := bind_some hh0
  refine PC.cutE hs (fun x : Unit => []) (fun x => []) (fun x => m_L_eqIntS_k1 N  = some r) ?_ ?_
  · refine PC.block ?_
    refine PC.loop hs (fun x : Nat × (Int) => [(0, sL p_a), (1, sL p_b), (5, iA x.2)]) (fun x => []) (fun x => loopM (β := Unit ⊕ Bool) (fun s : Int => m_L_eqIntS_b1 N p_a p_b s) x.1 x.2 = some o11) (fun x => x.1) (N, (0 : Int)) [] ⟨rfl, rfl, trivial, ⟨.t _, .t _, .t _, trivial⟩⟩ h_12 ?_
    rintro ⟨f13_, i2⟩ h_15
    obtain ⟨f13, y14, rfl, hh1, kk1⟩ := loopM_some h_15
    replace hh1 : m_L_eqIntS_b1 N p_a p_b i2 = some y14 := hh1
    unfold m_L_eqIntS_b1 at hh1
    refine PC.seq ?_
    refine PC.seq ?_
    refine PC.region ?_
    refine PL.op rfl (Rd.moveT rfl) ?_
    refine PL.op rfl (Rd.moveT rfl) ?_
    refine PL.op rfl (Rd.lenT rfl) ?_
    refine PL.op rfl (Rd.lss rfl rfl) ?_
    refine PL.nil ?_
    refine thA_n ?_
    rcases cond_some hh1 with ⟨h_16, hh1⟩ | ⟨h_16, hh1⟩
    rotate_left
    · refine PC.cond_false rfl h_16 ?_
      refine PC.exit ?_
      refine thA_e ?_
      refine thA_e ?_
      refine inA_eq rfl ?_
      refine thA_n ?_
      obtain rfl := some_in hh1
      obtain rfl : (.inl () : Unit ⊕ Bool) = o11 := kk1
      exact ⟨(), hh0, [], ⟨rfl, rfl, trivial, trivial⟩⟩
    refine PC.cond_true rfl h_16 ?_
    refine PC.skip ?_
    refine thA_n ?_
    refine PC.seq ?_
    refine PC.block ?_
    refine PC.seq ?_
    obtain ⟨x17, h_18, hh1⟩ := bind_some hh1
    obtain ⟨x19, h_20, hh1⟩ := bind_some hh1
    refine PC.any (id := 6) 9 (.seg [0, 1, 2, 3, 4, 5, 6, 7, 8] .done) [] rfl (by kernel_rfl) rfl ?_
    refine PT.seg ?_
    refine PR.op rfl (Rd.moveT rfl) ?_
    refine PR.op rfl (Rd.moveT rfl) ?_
    refine PR.op rfl (Rd.ixM rfl rfl h_18) ?_
    refine PR.op rfl (Rd.elM1 rfl h_18 rfl rfl) ?_
    refine PR.op rfl (Rd.moveT rfl) ?_
    refine PR.op rfl (Rd.moveT rfl) ?_
    refine PR.op rfl (Rd.ixM rfl rfl h_20) ?_
    refine PR.op rfl (Rd.elM1 rfl h_20 rfl rfl) ?_
    refine PR.op rfl (Rd.neq rfl rfl) ?_
    refine PR.nil ?_
    refine PT.done ?_
    refine PL.nil ?_
    refine thA_n ?_
    rcases cond_some hh1 with ⟨h_21, hh1⟩ | ⟨h_21, hh1⟩
    · refine PC.cond_false rfl (not_t h_21) ?_
      refine PC.skip ?_
      refine inA_n ?_
      refine thA_n ?_
      obtain ⟨n22, h_23, hh1⟩ := bind_some hh1
      refine PC.region ?_
      refine PL.op rfl (Rd.moveT rfl) ?_
      refine PL.op rfl (Rd.addM rfl rfl h_23) ?_
      refine PL.op rfl (Rd.asnT rfl) ?_
      refine PL.nil ?_
      obtain rfl := some_in hh1
      refine thA_n ?_
      exact ⟨(f13, n22), Nat.lt_succ_self _, kk1, [], ⟨rfl, rfl, trivial, ⟨.t _, .t _, .t _, trivial⟩⟩⟩
    refine PC.cond_true rfl (not_f h_21) ?_
    refine PC.seq ?_
    refine PC.region ?_
    refine PL.op rfl (Rd.asnT rfl) ?_
    refine PL.nil ?_
    refine thA_n ?_
    refine PC.ret ?_
    refine inA_r ?_
    refine thA_r ?_
    refine thA_r ?_
    refine inA_r ?_
    refine thA_r ?_
    obtain rfl := some_in hh1
    obtain rfl : (.inr false : Unit ⊕ Bool) = o11 := kk1
    refine thA_r ?_
    obtain rfl := some_in hh0
    exact FinA.mk (r := bA false) (bl := []) [] (.inl rfl) rfl (rl := [.tmp 4]) (.tmp .nil) rfl rfl rfl (.t _) trivial ⟨rfl, rfl⟩
  clear hh0
  rintro ⟨⟩ hh0
  replace hh0 : m_L_eqIntS_k1 N  = some r := hh0
  unfold m_L_eqIntS_k1 at hh0
  refine thA_n ?_
  refine PC.seq ?_
  refine PC.region ?_
  refine PL.op rfl (Rd.asnT rfl) ?_
  refine PL.nil ?_
  refine thA_n ?_
  refine PC.ret ?_
  obtain rfl := some_in hh0
  exact FinA.mk (r := bA true) (bl := []) [] (.inl rfl) rfl (rl := [.tmp 4]) (.tmp .nil) rfl rfl rfl (.t _) trivial ⟨rfl, rfl⟩

def m_L_eqHold (N : Nat) (p_a : I_Hold) (p_b : I_Hold) : Option (Bool) :=
  cond (decide (p_a.page = p_b.page))
    (cond (decide (p_a.since = p_b.since))
      (some true)
      (some false))
    (some false)
theorem w_L_eqHold (N : Nat) (p_a : I_Hold) (p_b : I_Hold) (r : Bool) (hh0 : m_L_eqHold N p_a p_b = some r) : FnX Try.prog 64 [] [.agg [iA p_a.page, iA p_a.since], .agg [iA p_b.page, iA p_b.since]] (RE (bA r) []) := by
  unfold m_L_eqHold at hh0
  refine FnX.mk Try.func64 rfl rfl ?_
  intro s hs
  refine PC.seq ?_
  refine PC.region ?_
  refine PL.ef rfl (Ef.box rfl rfl rfl) ?_
  refine PL.nm (.op 0 0) [some ⟨.mx [iA p_a.page, iA p_a.since], 42, 0⟩] rfl rfl ?_
  refine PL.ef rfl (Ef.box rfl rfl rfl) ?_
  refine PL.nm (.op 1 0) [some ⟨.mx [iA p_a.page, iA p_a.since], 42, 0⟩, some ⟨.mx [iA p_b.page, iA p_b.since], 42, 0⟩] rfl rfl ?_
  refine PL.op rfl (Rd.asnT rfl) ?_
  refine PL.nil ?_
  refine thA_n ?_
  refine PC.seq ?_
  refine PC.seq ?_
  refine PC.region ?_
  refine PL.op rfl (Rd.fieldO rfl rfl) ?_
  refine PL.op rfl (Rd.loadO rfl rfl rfl) ?_
  refine PL.op rfl (Rd.fieldO rfl rfl) ?_
  refine PL.op rfl (Rd.loadO rfl rfl rfl) ?_
  refine PL.op rfl (Rd.neq rfl rfl) ?_
  refine PL.nil ?_
  refine thA_n ?_
  rcases cond_some hh0 with ⟨h_1, hh0⟩ | ⟨h_1, hh0⟩
  rotate_left
  · refine PC.cond_true rfl (not_f h_1) ?_
    refine PC.seq ?_
    refine PC.region ?_
    refine PL.op rfl (Rd.asnT rfl) ?_
    refine PL.nil ?_
    refine thA_n ?_
    refine PC.ret ?_
    refine thA_r ?_
    obtain rfl := some_in hh0
    exact FinA.mk (r := bA false) (bl := []) [] (.inl rfl) rfl (rl := [.tmp 4]) (.tmp .nil) rfl rfl rfl (.t _) trivial ⟨rfl, rfl⟩
  refine PC.cond_false rfl (not_t h_1) ?_
  refine PC.skip ?_
  refine thA_n ?_
  refine PC.seq ?_
  refine PC.seq ?_
  refine PC.region ?_
  refine PL.op rfl (Rd.fieldO rfl rfl) ?_
  refine PL.op rfl (Rd.loadO rfl rfl rfl) ?_
  refine PL.op rfl (Rd.fieldO rfl rfl) ?_
  refine PL.op rfl (Rd.loadO rfl rfl rfl) ?_
  refine PL.op rfl (Rd.neq rfl rfl) ?_
  refine PL.nil ?_
  refine thA_n ?_
  rcases cond_some hh0 with ⟨h_2, hh0⟩ | ⟨h_2, hh0⟩
  rotate_left
  · refine PC.cond_true rfl (not_f h_2) ?_
    refine PC.seq ?_
    refine PC.region ?_
    refine PL.op rfl (Rd.asnT rfl) ?_
    refine PL.nil ?_
    refine thA_n ?_
    refine PC.ret ?_
    refine thA_r ?_
    obtain rfl := some_in hh0
    exact FinA.mk (r := bA false) (bl := []) [] (.inl rfl) rfl (rl := [.tmp 4]) (.tmp .nil) rfl rfl rfl (.t _) trivial ⟨rfl, rfl⟩
  refine PC.cond_false rfl (not_t h_2) ?_
  refine PC.skip ?_
  refine thA_n ?_
  refine PC.seq ?_
  refine PC.region ?_
  refine PL.op rfl (Rd.asnT rfl) ?_
  refine PL.nil ?_
  refine thA_n ?_
  refine PC.ret ?_
  obtain rfl := some_in hh0
  exact FinA.mk (r := bA true) (bl := []) [] (.inl rfl) rfl (rl := [.tmp 4]) (.tmp .nil) rfl rfl rfl (.t _) trivial ⟨rfl, rfl⟩

def m_L_eqHoldS_k1 (N : Nat) : Option (Bool) :=
  some true
def m_L_eqHoldS_b1 (N : Nat) (p_a : (List I_Hold)) (p_b : (List I_Hold)) (i2 : Int) : Option (Int ⊕ (Unit ⊕ Bool)) :=
  cond (decide (i2 < (p_a.length : Int)))
    ((ixI p_a i2).bind fun x19 =>
    (ixI p_b i2).bind fun x21 =>
    (m_L_eqHold N x19 x21).bind fun r23 =>
    cond r23
      ((chk (i2 + (1 : Int))).bind fun n26 =>
      some (.inl n26))
      (some (.inr (.inr false))))
    (some (.inr (.inl ())))
def m_L_eqHoldS (N : Nat) (p_a : (List I_Hold)) (p_b : (List I_Hold)) : Option (Bool) :=
  cond (decide ((p_a.length : Int) = (p_b.length : Int)))
    ((loopM (β := Unit ⊕ Bool) (fun s : Int => m_L_eqHoldS_b1 N p_a p_b s) N (0 : Int)).bind fun o => match o with
    | .inl e =>
      m_L_eqHoldS_k1 N 
    | .inr v =>
      some v)
    (some false)
theorem w_L_eqHoldS (N : Nat) (p_a : (List I_Hold)) (p_b : (List I_Hold)) (r : Bool) (hh0 : m_L_eqHoldS N p_a p_b = some r) : FnX Try.prog 47 [] [sL p_a, sL p_b] (RE (bA r) []) := by
  unfold m_L_eqHoldS at hh0
  refine FnX.mk Try.func47 rfl rfl ?_
  intro s hs
  refine PC.seq ?_
  refine PC.region ?_
  refine PL.op rfl (Rd.asnT rfl) ?_
  refine PL.nil ?_
  refine thA_n ?_
  refine PC.seq ?_
  refine PC.seq ?_
  refine PC.region ?_
  refine PL.op rfl (Rd.moveT rfl) ?_
  refine PL.op rfl (Rd.lenT rfl) ?_
  refine PL.op rfl (Rd.moveT rfl) ?_
  refine PL.op rfl (Rd.lenT rfl) ?_
  refine PL.op rfl (Rd.neq rfl rfl) ?_
  refine PL.nil ?_
  refine thA_n ?_
  rcases cond_some hh0 with ⟨h_1, hh0⟩ | ⟨h_1, hh0⟩
  rotate_left
  · refine PC.cond_true rfl (not_f h_1) ?_
    refine PC.seq ?_
    refine PC.region ?_
    refine PL.op rfl (Rd.asnT rfl) ?_
    refine PL.nil ?_
    refine thA_n ?_
    refine PC.ret ?_
    refine thA_r ?_
    obtain rfl := some_in hh0
    exact FinA.mk (r := bA false) (bl := []) [] (.inl rfl) rfl (rl := [.tmp 4]) (.tmp .nil) rfl rfl rfl (.t _) trivial ⟨rfl, rfl⟩
  refine PC.cond_false rfl (not_t h_1) ?_
  refine PC.skip ?_
  refine thA_n ?_
  refine PC.seq ?_
  refine PC.seq ?_
  refine PC.region ?_
  refine PL.op rfl (Rd.asnT rfl) ?_
  refine PL.nil ?_
  refine thA_n ?_
  obtain ⟨o13, h_14, hh0⟩ := bind_some hh0
  refine PC.cutE hs (fun x : Unit => []) (fun x => []) (fun x => m_L_eqHoldS_k1 N  = some r) ?_ ?_
  · refine PC.block ?_
    refine PC.loop hs (fun x : Nat × (Int) => [(0, sL p_a), (1, sL p_b), (5, iA x.2)]) (fun x => []) (fun x => loopM (β := Unit ⊕ Bool) (fun s : Int => m_L_eqHoldS_b1 N p_a p_b s) x.1 x.2 = some o13) (fun x => x.1) (N, (0 : Int)) [] ⟨rfl, rfl, trivial, ⟨.t _, .t _, .t _, trivial⟩⟩ h_14 ?_
    rintro ⟨f15_, i2⟩ h_17
    obtain ⟨f15, y16, rfl, hh1, kk1⟩ := loopM_some h_17
    replace hh1 : m_L_eqHoldS_b1 N p_a p_b i2 = some y16 := hh1
    unfold m_L_eqHoldS_b1 at hh1
    refine PC.seq ?_
    refine PC.seq ?_
    refine PC.region ?_
    refine PL.op rfl (Rd.moveT rfl) ?_
    refine PL.op rfl (Rd.moveT rfl) ?_
    refine PL.op rfl (Rd.lenT rfl) ?_
    refine PL.op rfl (Rd.lss rfl rfl) ?_
    refine PL.nil ?_
    refine thA_n ?_
    rcases cond_some hh1 with ⟨h_18, hh1⟩ | ⟨h_18, hh1⟩
    rotate_left
    · refine PC.cond_false rfl h_18 ?_
      refine PC.exit ?_
      refine thA_e ?_
      refine thA_e ?_
      refine inA_eq rfl ?_
      refine thA_n ?_
      obtain rfl := some_in hh1
      obtain rfl : (.inl () : Unit ⊕ Bool) = o13 := kk1
      exact ⟨(), hh0, [], ⟨rfl, rfl, trivial, trivial⟩⟩
    refine PC.cond_true rfl h_18 ?_
    refine PC.skip ?_
    refine thA_n ?_
    refine PC.seq ?_
    refine PC.block ?_
    refine PC.seq ?_
    obtain ⟨x19, h_20, hh1⟩ := bind_some hh1
    obtain ⟨x21, h_22, hh1⟩ := bind_some hh1
    obtain ⟨r23, h_24, hh1⟩ := bind_some hh1
    refine PC.any (id := 6) 10 (.seg [0, 1, 2, 3, 4, 5, 6, 7, 8, 9] .done) [] rfl (by kernel_rfl) rfl ?_
    refine PT.seg ?_
    refine PR.op rfl (Rd.moveT rfl) ?_
    refine PR.op rfl (Rd.moveT rfl) ?_
    refine PR.op rfl (Rd.ixM rfl rfl h_20) ?_
    refine PR.op rfl (Rd.elMR rfl h_20 rfl rfl) ?_
    refine PR.op rfl (Rd.moveT rfl) ?_
    refine PR.op rfl (Rd.moveT rfl) ?_
    refine PR.op rfl (Rd.ixM rfl rfl h_22) ?_
    refine PR.op rfl (Rd.elMR rfl h_22 rfl rfl) ?_
    refine PR.callM false [] (w_L_eqHold N x19 x21 r23 h_24) rfl Try.call64 rfl ⟨.aggL ⟨.t _, .t _, trivial⟩, .aggL ⟨.t _, .t _, trivial⟩, trivial⟩ rfl trivial (fun h => by cases h) rfl ?_
    refine PR.op rfl (Rd.unnot rfl) ?_
    refine PR.nil ?_
    refine PT.done ?_
    refine PL.nil ?_
    refine thA_n ?_
    rcases cond_some hh1 with ⟨h_25, hh1⟩ | ⟨h_25, hh1⟩
    · refine PC.cond_false rfl (not_t h_25) ?_
      refine PC.skip ?_
      refine inA_n ?_
      refine thA_n ?_
      obtain ⟨n26, h_27, hh1⟩ := bind_some hh1
      refine PC.region ?_
      refine PL.op rfl (Rd.moveT rfl) ?_
      refine PL.op rfl (Rd.addM rfl rfl h_27) ?_
      refine PL.op rfl (Rd.asnT rfl) ?_
      refine PL.nil ?_
      obtain rfl := some_in hh1
      refine thA_n ?_
      exact ⟨(f15, n26), Nat.lt_succ_self _, kk1, [], ⟨rfl, rfl, trivial, ⟨.t _, .t _, .t _, trivial⟩⟩⟩
    refine PC.cond_true rfl (not_f h_25) ?_
    refine PC.seq ?_
    refine PC.region ?_
    refine PL.op rfl (Rd.asnT rfl) ?_
    refine PL.nil ?_
    refine thA_n ?_
    refine PC.ret ?_
    refine inA_r ?_
    refine thA_r ?_
    refine thA_r ?_
    refine inA_r ?_
    refine thA_r ?_
    obtain rfl := some_in hh1
    obtain rfl : (.inr false : Unit ⊕ Bool) = o13 := kk1
    refine thA_r ?_
    obtain rfl := some_in hh0
    exact FinA.mk (r := bA false) (bl := []) [] (.inl rfl) rfl (rl := [.tmp 4]) (.tmp .nil) rfl rfl rfl (.t _) trivial ⟨rfl, rfl⟩
  clear hh0
  rintro ⟨⟩ hh0
  replace hh0 : m_L_eqHoldS_k1 N  = some r := hh0
  unfold m_L_eqHoldS_k1 at hh0
  refine thA_n ?_
  refine PC.seq ?_
  refine PC.region ?_
  refine PL.op rfl (Rd.asnT rfl) ?_
  refine PL.nil ?_
  refine thA_n ?_
  refine PC.ret ?_
  obtain rfl := some_in hh0
  exact FinA.mk (r := bA true) (bl := []) [] (.inl rfl) rfl (rl := [.tmp 4]) (.tmp .nil) rfl rfl rfl (.t _) trivial ⟨rfl, rfl⟩

def m_L_eqSpace (N : Nat) (p_a : I_Space) (p_b : I_Space) : Option (Bool) :=
  cond (decide (p_a.pages = p_b.pages))
    ((m_L_eqIntS N p_a.free p_b.free).bind fun r2 =>
    cond r2
      ((m_L_eqHoldS N p_a.held p_b.held).bind fun r5 =>
      cond r5
        (some true)
        (some false))
      (some false))
    (some false)
theorem w_L_eqSpace (N : Nat) (p_a : I_Space) (p_b : I_Space) (r : Bool) (hh0 : m_L_eqSpace N p_a p_b = some r) : FnX Try.prog 18 [] [.agg [iA p_a.pages, sL p_a.free, sL p_a.held], .agg [iA p_b.pages, sL p_b.free, sL p_b.held]] (RE (bA r) []) := by
  unfold m_L_eqSpace at hh0
  refine FnX.mk Try.func18 rfl rfl ?_
  intro s hs
  refine PC.seq ?_
  refine PC.region ?_
  refine PL.ef rfl (Ef.box rfl rfl rfl) ?_
  refine PL.nm (.op 0 0) [some ⟨.mx [iA p_a.pages, sL p_a.free, sL p_a.held], 30, 0⟩] rfl rfl ?_
  refine PL.ef rfl (Ef.box rfl rfl rfl) ?_
  refine PL.nm (.op 1 0) [some ⟨.mx [iA p_a.pages, sL p_a.free, sL p_a.held], 30, 0⟩, some ⟨.mx [iA p_b.pages, sL p_b.free, sL p_b.held], 30, 0⟩] rfl rfl ?_
  refine PL.op rfl (Rd.asnT rfl) ?_
  refine PL.nil ?_
  refine thA_n ?_
  refine PC.seq ?_
  refine PC.seq ?_
  refine PC.region ?_
  refine PL.op rfl (Rd.fieldO rfl rfl) ?_
  refine PL.op rfl (Rd.loadO rfl rfl rfl) ?_
  refine PL.op rfl (Rd.fieldO rfl rfl) ?_
  refine PL.op rfl (Rd.loadO rfl rfl rfl) ?_
  refine PL.op rfl (Rd.neq rfl rfl) ?_
  refine PL.nil ?_
  refine thA_n ?_
  rcases cond_some hh0 with ⟨h_1, hh0⟩ | ⟨h_1, hh0⟩
  rotate_left
  · refine PC.cond_true rfl (not_f h_1) ?_
    refine PC.seq ?_
    refine PC.region ?_
    refine PL.op rfl (Rd.asnT rfl) ?_
    refine PL.nil ?_
    refine thA_n ?_
    refine PC.ret ?_
    refine thA_r ?_
    obtain rfl := some_in hh0
    exact FinA.mk (r := bA false) (bl := []) [] (.inl rfl) rfl (rl := [.tmp 4]) (.tmp .nil) rfl rfl rfl (.t _) trivial ⟨rfl, rfl⟩
  refine PC.cond_false rfl (not_t h_1) ?_
  refine PC.skip ?_
  refine thA_n ?_
  refine PC.seq ?_
  refine PC.seq ?_
  obtain ⟨r2, h_3, hh0⟩ := bind_some hh0
  refine PC.region ?_
  refine PL.op rfl (Rd.fieldO rfl rfl) ?_
  refine PL.op rfl (Rd.loadO rfl rfl rfl) ?_
  refine PL.op rfl (Rd.fieldO rfl rfl) ?_
  refine PL.op rfl (Rd.loadO rfl rfl rfl) ?_
  refine PL.callM false [] (w_L_eqIntS N p_a.free p_b.free r2 h_3) rfl Try.call21 rfl ⟨.t _, .t _, trivial⟩ rfl trivial (fun h => by cases h) ?_
  refine PL.op rfl (Rd.unnot rfl) ?_
  refine PL.nil ?_
  refine thA_n ?_
  rcases cond_some hh0 with ⟨h_4, hh0⟩ | ⟨h_4, hh0⟩
  rotate_left
  · refine PC.cond_true rfl (not_f h_4) ?_
    refine PC.seq ?_
    refine PC.region ?_
    refine PL.op rfl (Rd.asnT rfl) ?_
    refine PL.nil ?_
    refine thA_n ?_
    refine PC.ret ?_
    refine thA_r ?_
    obtain rfl := some_in hh0
    exact FinA.mk (r := bA false) (bl := []) [] (.inl rfl) rfl (rl := [.tmp 4]) (.tmp .nil) rfl rfl rfl (.t _) trivial ⟨rfl, rfl⟩
  refine PC.cond_false rfl (not_t h_4) ?_
  refine PC.skip ?_
  refine thA_n ?_
  refine PC.seq ?_
  refine PC.seq ?_
  obtain ⟨r5, h_6, hh0⟩ := bind_some hh0
  refine PC.region ?_
  refine PL.op rfl (Rd.fieldO rfl rfl) ?_
  refine PL.op rfl (Rd.loadO rfl rfl rfl) ?_
  refine PL.op rfl (Rd.fieldO rfl rfl) ?_
  refine PL.op rfl (Rd.loadO rfl rfl rfl) ?_
  refine PL.callM false [] (w_L_eqHoldS N p_a.held p_b.held r5 h_6) rfl Try.call47 rfl ⟨.t _, .t _, trivial⟩ rfl trivial (fun h => by cases h) ?_
  refine PL.op rfl (Rd.unnot rfl) ?_
  refine PL.nil ?_
  refine thA_n ?_
  rcases cond_some hh0 with ⟨h_7, hh0⟩ | ⟨h_7, hh0⟩
  rotate_left
  · refine PC.cond_true rfl (not_f h_7) ?_
    refine PC.seq ?_
    refine PC.region ?_
    refine PL.op rfl (Rd.asnT rfl) ?_
    refine PL.nil ?_
    refine thA_n ?_
    refine PC.ret ?_
    refine thA_r ?_
    obtain rfl := some_in hh0
    exact FinA.mk (r := bA false) (bl := []) [] (.inl rfl) rfl (rl := [.tmp 4]) (.tmp .nil) rfl rfl rfl (.t _) trivial ⟨rfl, rfl⟩
  refine PC.cond_false rfl (not_t h_7) ?_
  refine PC.skip ?_
  refine thA_n ?_
  refine PC.seq ?_
  refine PC.region ?_
  refine PL.op rfl (Rd.asnT rfl) ?_
  refine PL.nil ?_
  refine thA_n ?_
  refine PC.ret ?_
  obtain rfl := some_in hh0
  exact FinA.mk (r := bA true) (bl := []) [] (.inl rfl) rfl (rl := [.tmp 4]) (.tmp .nil) rfl rfl rfl (.t _) trivial ⟨rfl, rfl⟩

def m_L_markIntS_k1 (N : Nat) (k11 : Int) (v12 : (List Int)) : Option (Int × (List Int)) :=
  some (k11, v12)
def m_L_markIntS_b1 (N : Nat) (k1 : Int) (i2 : Int) (v3 : (List Int)) : Option ((Int × Int × (List Int)) ⊕ (Int × (List Int))) :=
  cond (decide (i2 < (v3.length : Int)))
    ((ixI v3 i2).bind fun x19 =>
    (chk (k1 + (1 : Int))).bind fun n21 =>
    (chk (i2 + (1 : Int))).bind fun n23 =>
    some (.inl (n21, n23, (v3.set i2.toNat k1))))
    (some (.inr (k1, v3)))
def m_L_markIntS (N : Nat) (p_a : (List Int)) (p_k : Int) : Option (Int × (List Int)) :=
  (loopM (β := Int × (List Int)) (fun s : Int × Int × (List Int) => m_L_markIntS_b1 N s.1 s.2.1 s.2.2) N (p_k, (0 : Int), p_a)).bind fun e =>
  m_L_markIntS_k1 N e.1 e.2
theorem w_L_markIntS (N : Nat) (p_a : (List Int)) (p_k : Int) (r : Int × (List Int)) (hh0 : m_L_markIntS N p_a p_k = some r) : FnX Try.prog 23 [⟨.tr (eL p_a), 3, 1⟩] [.os 0 0 p_a.length, iA p_k] (RE (iA r.1) [⟨.tr (eL r.2), 3, 1⟩]) := by
  unfold m_L_markIntS at hh0
  refine FnX.mk Try.func23 rfl rfl ?_
  intro s hs
  refine PC.seq ?_
  refine PC.region ?_
  refine PL.op rfl (Rd.asnT rfl) ?_
  refine PL.nil ?_
  refine thA_n ?_
  refine PC.seq ?_
  refine PC.seq ?_
  refine PC.region ?_
  refine PL.op rfl (Rd.asnT rfl) ?_
  refine PL.nil ?_
  refine thA_n ?_
  obtain ⟨o13, h_14, hh0⟩ := bind_some hh0
  refine PC.cutE hs (fun x : Int × (List Int) => [(1, iA x.1)]) (fun x => [⟨.tr (eL x.2), 3, 1⟩]) (fun x => m_L_markIntS_k1 N x.1 x.2 = some r) ?_ ?_
  · refine PC.block ?_
    refine PC.loop hs (fun x : Nat × (Int × Int × (List Int)) => [(0, .os 0 0 x.2.2.2.length), (1, iA x.2.1), (5, iA x.2.2.1)]) (fun x => [⟨.tr (eL x.2.2.2), 3, 1⟩]) (fun x => loopM (β := Int × (List Int)) (fun s : Int × Int × (List Int) => m_L_markIntS_b1 N s.1 s.2.1 s.2.2) x.1 x.2 = some o13) (fun x => x.1) (N, (p_k, (0 : Int), p_a)) [some 0] ⟨rfl, rfl, ⟨⟨_, rfl, rfl, rfl, .tr _⟩, trivial⟩, ⟨.os rfl, .t _, .t _, trivial⟩⟩ h_14 ?_
    rintro ⟨f15_, k1, i2, v3⟩ h_17
    obtain ⟨f15, y16, rfl, hh1, kk1⟩ := loopM_some h_17
    replace hh1 : m_L_markIntS_b1 N k1 i2 v3 = some y16 := hh1
    unfold m_L_markIntS_b1 at hh1
    refine PC.seq ?_
    refine PC.seq ?_
    refine PC.region ?_
    refine PL.op rfl (Rd.moveT rfl) ?_
    refine PL.op rfl (Rd.moveO rfl) ?_
    refine PL.op rfl (Rd.lenO rfl rfl) ?_
    refine PL.op rfl (Rd.lss rfl rfl) ?_
    refine PL.nil ?_
    refine thA_n ?_
    rcases cond_some hh1 with ⟨h_18, hh1⟩ | ⟨h_18, hh1⟩
    rotate_left
    · refine PC.cond_false rfl h_18 ?_
      refine PC.exit ?_
      refine thA_e ?_
      refine thA_e ?_
      refine inA_eq rfl ?_
      refine thA_n ?_
      obtain rfl := some_in hh1
      obtain rfl : ((k1, v3) : Int × (List Int)) = o13 := kk1
      exact ⟨(k1, v3), hh0, [some 0], ⟨rfl, rfl, ⟨⟨_, rfl, rfl, rfl, .tr _⟩, trivial⟩, ⟨.t _, trivial⟩⟩⟩
    refine PC.cond_true rfl h_18 ?_
    refine PC.skip ?_
    refine thA_n ?_
    refine PC.seq ?_
    refine PC.block ?_
    refine PC.seq ?_
    obtain ⟨x19, h_20, hh1⟩ := bind_some hh1
    refine PC.region ?_
    refine PL.op rfl (Rd.moveO rfl) ?_
    refine PL.op rfl (Rd.moveT rfl) ?_
    refine PL.op rfl (Rd.moveT rfl) ?_
    refine PL.op rfl (Rd.ixOM rfl rfl rfl (ixI_lt h_20)) ?_
    refine PL.stRM k1 rfl rfl rfl rfl rfl h_20 rfl ?_
    refine PL.nO [some ⟨.tr (eL (v3.set i2.toNat k1)), 3, 1⟩] rfl ?_
    refine PL.nil ?_
    refine thA_n ?_
    obtain ⟨n21, h_22, hh1⟩ := bind_some hh1
    refine PC.region ?_
    refine PL.op rfl (Rd.moveT rfl) ?_
    refine PL.op rfl (Rd.addM rfl rfl h_22) ?_
    refine PL.op rfl (Rd.asnT rfl) ?_
    refine PL.nil ?_
    refine inA_n ?_
    refine thA_n ?_
    obtain ⟨n23, h_24, hh1⟩ := bind_some hh1
    refine PC.region ?_
    refine PL.op rfl (Rd.moveT rfl) ?_
    refine PL.op rfl (Rd.addM rfl rfl h_24) ?_
    refine PL.op rfl (Rd.asnT rfl) ?_
    refine PL.nil ?_
    obtain rfl := some_in hh1
    refine thA_n ?_
    exact ⟨(f15, (n21, n23, (v3.set i2.toNat k1))), Nat.lt_succ_self _, kk1, [some 0], ⟨rfl, rfl, ⟨⟨_, rfl, rfl, rfl, .tr _⟩, trivial⟩, ⟨.osE rfl (by simp only [List.length_set]), .t _, .t _, trivial⟩⟩⟩
  clear hh0
  rintro ⟨k11, v12⟩ hh0
  replace hh0 : m_L_markIntS_k1 N k11 v12 = some r := hh0
  unfold m_L_markIntS_k1 at hh0
  refine thA_n ?_
  refine PC.seq ?_
  refine PC.region ?_
  refine PL.op rfl (Rd.moveT rfl) ?_
  refine PL.op rfl (Rd.asnT rfl) ?_
  refine PL.nil ?_
  refine thA_n ?_
  refine PC.ret ?_
  obtain rfl := some_in hh0
  exact FinA.mk (r := iA ((k11, v12).1)) (bl := [⟨.tr (eL ((k11, v12).2)), 3, 1⟩]) [some 0] (.inl rfl) rfl (rl := [.tmp 4]) (.tmp .nil) rfl rfl rfl (.t _) ⟨⟨_, rfl, rfl, rfl, .tr _⟩, trivial⟩ ⟨rfl, rfl⟩

def m_L_markHoldS_k1 (N : Nat) (k13 : Int) (v14 : (List I_Hold)) : Option (Int × (List I_Hold)) :=
  some (k13, v14)
def m_L_markHoldS_b1 (N : Nat) (k1 : Int) (i2 : Int) (v3 : (List I_Hold)) : Option ((Int × Int × (List I_Hold)) ⊕ (Int × (List I_Hold))) :=
  cond (decide (i2 < (v3.length : Int)))
    ((ixI v3 i2).bind fun x21 =>
    (chk (k1 + (1 : Int))).bind fun n23 =>
    (chk (n23 + (1 : Int))).bind fun n25 =>
    (chk (i2 + (1 : Int))).bind fun n27 =>
    some (.inl (n25, n27, ((v3.set i2.toNat (I_Hold.mk k1 x21.since)).set i2.toNat (I_Hold.mk k1 n23)))))
    (some (.inr (k1, v3)))
def m_L_markHoldS (N : Nat) (p_a : (List I_Hold)) (p_k : Int) : Option (Int × (List I_Hold)) :=
  (loopM (β := Int × (List I_Hold)) (fun s : Int × Int × (List I_Hold) => m_L_markHoldS_b1 N s.1 s.2.1 s.2.2) N (p_k, (0 : Int), p_a)).bind fun e =>
  m_L_markHoldS_k1 N e.1 e.2
theorem w_L_markHoldS (N : Nat) (p_a : (List I_Hold)) (p_k : Int) (r : Int × (List I_Hold)) (hh0 : m_L_markHoldS N p_a p_k = some r) : FnX Try.prog 49 [⟨.tr (eL p_a), 42, 2⟩] [.os 0 0 p_a.length, iA p_k] (RE (iA r.1) [⟨.tr (eL r.2), 42, 2⟩]) := by
  unfold m_L_markHoldS at hh0
  refine FnX.mk Try.func49 rfl rfl ?_
  intro s hs
  refine PC.seq ?_
  refine PC.region ?_
  refine PL.op rfl (Rd.asnT rfl) ?_
  refine PL.nil ?_
  refine thA_n ?_
  refine PC.seq ?_
  refine PC.seq ?_
  refine PC.region ?_
  refine PL.op rfl (Rd.asnT rfl) ?_
  refine PL.nil ?_
  refine thA_n ?_
  obtain ⟨o15, h_16, hh0⟩ := bind_some hh0
  refine PC.cutE hs (fun x : Int × (List I_Hold) => [(1, iA x.1)]) (fun x => [⟨.tr (eL x.2), 42, 2⟩]) (fun x => m_L_markHoldS_k1 N x.1 x.2 = some r) ?_ ?_
  · refine PC.block ?_
    refine PC.loop hs (fun x : Nat × (Int × Int × (List I_Hold)) => [(0, .os 0 0 x.2.2.2.length), (1, iA x.2.1), (5, iA x.2.2.1)]) (fun x => [⟨.tr (eL x.2.2.2), 42, 2⟩]) (fun x => loopM (β := Int × (List I_Hold)) (fun s : Int × Int × (List I_Hold) => m_L_markHoldS_b1 N s.1 s.2.1 s.2.2) x.1 x.2 = some o15) (fun x => x.1) (N, (p_k, (0 : Int), p_a)) [some 0] ⟨rfl, rfl, ⟨⟨_, rfl, rfl, rfl, .tr _⟩, trivial⟩, ⟨.os rfl, .t _, .t _, trivial⟩⟩ h_16 ?_
    rintro ⟨f17_, k1, i2, v3⟩ h_19
    obtain ⟨f17, y18, rfl, hh1, kk1⟩ := loopM_some h_19
    replace hh1 : m_L_markHoldS_b1 N k1 i2 v3 = some y18 := hh1
    unfold m_L_markHoldS_b1 at hh1
    refine PC.seq ?_
    refine PC.seq ?_
    refine PC.region ?_
    refine PL.op rfl (Rd.moveT rfl) ?_
    refine PL.op rfl (Rd.moveO rfl) ?_
    refine PL.op rfl (Rd.lenO rfl rfl) ?_
    refine PL.op rfl (Rd.lss rfl rfl) ?_
    refine PL.nil ?_
    refine thA_n ?_
    rcases cond_some hh1 with ⟨h_20, hh1⟩ | ⟨h_20, hh1⟩
    rotate_left
    · refine PC.cond_false rfl h_20 ?_
      refine PC.exit ?_
      refine thA_e ?_
      refine thA_e ?_
      refine inA_eq rfl ?_
      refine thA_n ?_
      obtain rfl := some_in hh1
      obtain rfl : ((k1, v3) : Int × (List I_Hold)) = o15 := kk1
      exact ⟨(k1, v3), hh0, [some 0], ⟨rfl, rfl, ⟨⟨_, rfl, rfl, rfl, .tr _⟩, trivial⟩, ⟨.t _, trivial⟩⟩⟩
    refine PC.cond_true rfl h_20 ?_
    refine PC.skip ?_
    refine thA_n ?_
    refine PC.seq ?_
    refine PC.block ?_
    refine PC.seq ?_
    obtain ⟨x21, h_22, hh1⟩ := bind_some hh1
    refine PC.region ?_
    refine PL.op rfl (Rd.moveO rfl) ?_
    refine PL.op rfl (Rd.moveT rfl) ?_
    refine PL.op rfl (Rd.moveT rfl) ?_
    refine PL.op rfl (Rd.ixOM rfl rfl rfl (ixI_lt h_22)) ?_
    refine PL.op rfl (Rd.fieldO rfl rfl) ?_
    refine PL.stFM (f := 0) (I_Hold.mk k1 x21.since) rfl rfl rfl rfl h_22 rfl rfl ?_
    refine PL.nO [some ⟨.tr (eL (v3.set i2.toNat (I_Hold.mk k1 x21.since))), 42, 2⟩] rfl ?_
    refine PL.nil ?_
    refine thA_n ?_
    refine PC.seq ?_
    obtain ⟨n23, h_24, hh1⟩ := bind_some hh1
    refine PC.region ?_
    refine PL.op rfl (Rd.moveT rfl) ?_
    refine PL.op rfl (Rd.addM rfl rfl h_24) ?_
    refine PL.op rfl (Rd.asnT rfl) ?_
    refine PL.nil ?_
    refine thA_n ?_
    refine PC.seq ?_
    refine PC.region ?_
    refine PL.op rfl (Rd.moveO rfl) ?_
    refine PL.op rfl (Rd.moveT rfl) ?_
    refine PL.op rfl (Rd.moveT rfl) ?_
    refine PL.op rfl (Rd.ixOM rfl rfl rfl (by have hq := ixI_lt (ixI_set (y := (I_Hold.mk k1 x21.since)) h_22); simp only [List.length_set] at hq ⊢; exact hq)) ?_
    refine PL.op rfl (Rd.fieldO rfl rfl) ?_
    refine PL.stFM (f := 1) (I_Hold.mk k1 n23) rfl rfl rfl rfl (ixI_set (y := (I_Hold.mk k1 x21.since)) h_22) rfl rfl ?_
    refine PL.nO [some ⟨.tr (eL ((v3.set i2.toNat (I_Hold.mk k1 x21.since)).set i2.toNat (I_Hold.mk k1 n23))), 42, 2⟩] rfl ?_
    refine PL.nil ?_
    refine thA_n ?_
    obtain ⟨n25, h_26, hh1⟩ := bind_some hh1
    refine PC.region ?_
    refine PL.op rfl (Rd.moveT rfl) ?_
    refine PL.op rfl (Rd.addM rfl rfl h_26) ?_
    refine PL.op rfl (Rd.asnT rfl) ?_
    refine PL.nil ?_
    refine inA_n ?_
    refine thA_n ?_
    obtain ⟨n27, h_28, hh1⟩ := bind_some hh1
    refine PC.region ?_
    refine PL.op rfl (Rd.moveT rfl) ?_
    refine PL.op rfl (Rd.addM rfl rfl h_28) ?_
    refine PL.op rfl (Rd.asnT rfl) ?_
    refine PL.nil ?_
    obtain rfl := some_in hh1
    refine thA_n ?_
    exact ⟨(f17, (n25, n27, ((v3.set i2.toNat (I_Hold.mk k1 x21.since)).set i2.toNat (I_Hold.mk k1 n23)))), Nat.lt_succ_self _, kk1, [some 0], ⟨rfl, rfl, ⟨⟨_, rfl, rfl, rfl, .tr _⟩, trivial⟩, ⟨.osE rfl (by simp only [List.length_set]), .t _, .t _, trivial⟩⟩⟩
  clear hh0
  rintro ⟨k13, v14⟩ hh0
  replace hh0 : m_L_markHoldS_k1 N k13 v14 = some r := hh0
  unfold m_L_markHoldS_k1 at hh0
  refine thA_n ?_
  refine PC.seq ?_
  refine PC.region ?_
  refine PL.op rfl (Rd.moveT rfl) ?_
  refine PL.op rfl (Rd.asnT rfl) ?_
  refine PL.nil ?_
  refine thA_n ?_
  refine PC.ret ?_
  obtain rfl := some_in hh0
  exact FinA.mk (r := iA ((k13, v14).1)) (bl := [⟨.tr (eL ((k13, v14).2)), 42, 2⟩]) [some 0] (.inl rfl) rfl (rl := [.tmp 4]) (.tmp .nil) rfl rfl rfl (.t _) ⟨⟨_, rfl, rfl, rfl, .tr _⟩, trivial⟩ ⟨rfl, rfl⟩

def m_L_markSpace (N : Nat) (p_a : I_Space) (p_k : Int) : Option (Int × (List Int) × (List I_Hold)) :=
  (m_L_markIntS N p_a.free p_k).bind fun r1 =>
  (m_L_markHoldS N p_a.held r1.1).bind fun r3 =>
  some (r3.1, r1.2, r3.2)
theorem w_L_markSpace (N : Nat) (p_a : I_Space) (p_k : Int) (r : Int × (List Int) × (List I_Hold)) (hh0 : m_L_markSpace N p_a p_k = some r) : FnX Try.prog 22 [⟨.tr (eL p_a.free), 3, 1⟩, ⟨.tr (eL p_a.held), 42, 2⟩] [.agg [iA p_a.pages, .os 0 0 p_a.free.length, .os 1 0 p_a.held.length], iA p_k] (RE (iA r.1) [⟨.tr (eL r.2.1), 3, 1⟩, ⟨.tr (eL r.2.2), 42, 2⟩]) := by
  unfold m_L_markSpace at hh0
  refine FnX.mk Try.func22 rfl rfl ?_
  intro s hs
  refine PC.seq ?_
  refine PC.region ?_
  refine PL.ef rfl (Ef.box rfl rfl rfl) ?_
  refine PL.nm (.op 2 0) [some ⟨.tr (eL p_a.free), 3, 1⟩, some ⟨.tr (eL p_a.held), 42, 2⟩, some ⟨.mx [iA p_a.pages, .os 0 0 p_a.free.length, .os 1 0 p_a.held.length], 30, 0⟩] rfl rfl ?_
  refine PL.op rfl (Rd.asnT rfl) ?_
  refine PL.nil ?_
  refine thA_n ?_
  refine PC.seq ?_
  obtain ⟨r1, h_2, hh0⟩ := bind_some hh0
  refine PC.region ?_
  refine PL.op rfl (Rd.fieldO rfl rfl) ?_
  refine PL.op rfl (Rd.loadO rfl rfl rfl) ?_
  refine PL.op rfl (Rd.moveT rfl) ?_
  refine PL.callM false [0] (w_L_markIntS N p_a.free p_k r1 h_2) rfl Try.call23 rfl ⟨.os rfl, .t _, trivial⟩ rfl ⟨⟨_, rfl, rfl, rfl, .tr _⟩, trivial⟩ (fun h => by cases h) ?_
  refine PL.nm (iA r1.1) [some ⟨.tr (eL r1.2), 3, 1⟩, some ⟨.tr (eL p_a.held), 42, 2⟩, some ⟨.mx [iA p_a.pages, .os 0 0 p_a.free.length, .os 1 0 p_a.held.length], 30, 0⟩] rfl rfl ?_
  refine PL.op rfl (Rd.asnT rfl) ?_
  refine PL.nil ?_
  refine thA_n ?_
  refine PC.seq ?_
  obtain ⟨r3, h_4, hh0⟩ := bind_some hh0
  refine PC.region ?_
  refine PL.op rfl (Rd.fieldO rfl rfl) ?_
  refine PL.op rfl (Rd.loadO rfl rfl rfl) ?_
  refine PL.op rfl (Rd.moveT rfl) ?_
  refine PL.callM false [1] (w_L_markHoldS N p_a.held r1.1 r3 h_4) rfl Try.call49 rfl ⟨.os rfl, .t _, trivial⟩ rfl ⟨⟨_, rfl, rfl, rfl, .tr _⟩, trivial⟩ (fun h => by cases h) ?_
  refine PL.nm (iA r3.1) [some ⟨.tr (eL r1.2), 3, 1⟩, some ⟨.tr (eL r3.2), 42, 2⟩, some ⟨.mx [iA p_a.pages, .os 0 0 p_a.free.length, .os 1 0 p_a.held.length], 30, 0⟩] rfl rfl ?_
  refine PL.op rfl (Rd.asnT rfl) ?_
  refine PL.nil ?_
  refine thA_n ?_
  refine PC.seq ?_
  refine PC.region ?_
  refine PL.op rfl (Rd.moveT rfl) ?_
  refine PL.op rfl (Rd.asnT rfl) ?_
  refine PL.nil ?_
  refine thA_n ?_
  refine PC.ret ?_
  obtain rfl := some_in hh0
  exact FinA.mk (r := iA ((r3.1, r1.2, r3.2).1)) (bl := [⟨.tr (eL ((r3.1, r1.2, r3.2).2.1)), 3, 1⟩, ⟨.tr (eL ((r3.1, r1.2, r3.2).2.2)), 42, 2⟩]) [some 0, some 1] (.inl rfl) rfl (rl := [.tmp 4]) (.tmp .nil) rfl rfl rfl (.t _) ⟨⟨_, rfl, rfl, rfl, .tr _⟩, ⟨_, rfl, rfl, rfl, .tr _⟩, trivial⟩ ⟨rfl, rfl⟩

def m_L_heldIntS_k1 (N : Nat) (k11 : Int) : Option (Int) :=
  some k11
def m_L_heldIntS_b1 (N : Nat) (p_a : (List Int)) (k1 : Int) (i2 : Int) : Option ((Int × Int) ⊕ (Int ⊕ Int)) :=
  cond (decide (i2 < (p_a.length : Int)))
    ((ixI p_a i2).bind fun x18 =>
    cond (decide (x18 = k1))
      ((chk (k1 + (1 : Int))).bind fun n21 =>
      (chk (i2 + (1 : Int))).bind fun n23 =>
      some (.inl (n21, n23)))
      (some (.inr (.inr (-1 : Int)))))
    (some (.inr (.inl k1)))
def m_L_heldIntS (N : Nat) (p_a : (List Int)) (p_k : Int) : Option (Int) :=
  (loopM (β := Int ⊕ Int) (fun s : Int × Int => m_L_heldIntS_b1 N p_a s.1 s.2) N (p_k, (0 : Int))).bind fun o => match o with
  | .inl e =>
    m_L_heldIntS_k1 N e
  | .inr v =>
    some v
theorem w_L_heldIntS (N : Nat) (p_a : (List Int)) (p_k : Int) (r : Int) (hh0 : m_L_heldIntS N p_a p_k = some r) : FnX Try.prog 24 [] [sL p_a, iA p_k] (RE (iA r) []) := by
  unfold m_L_heldIntS at hh0
  refine FnX.mk Try.func24 rfl rfl ?_
  intro s hs
  refine PC.seq ?_
  refine PC.region ?_
  refine PL.op rfl (Rd.asnT rfl) ?_
  refine PL.nil ?_
  refine thA_n ?_
  refine PC.seq ?_
  refine PC.seq ?_
  refine PC.region ?_
  refine PL.op rfl (Rd.asnT rfl) ?_
  refine PL.nil ?_
  refine thA_n ?_
  obtain ⟨o12, h_13, hh0⟩ := bind_some hh0
  refine PC.cutE hs (fun x : Int => [(1, iA x)]) (fun x => []) (fun x => m_L_heldIntS_k1 N x = some r) ?_ ?_
  · refine PC.block ?_
    refine PC.loop hs (fun x : Nat × (Int × Int) => [(0, sL p_a), (1, iA x.2.1), (5, iA x.2.2)]) (fun x => []) (fun x => loopM (β := Int ⊕ Int) (fun s : Int × Int => m_L_heldIntS_b1 N p_a s.1 s.2) x.1 x.2 = some o12) (fun x => x.1) (N, (p_k, (0 : Int))) [] ⟨rfl, rfl, trivial, ⟨.t _, .t _, .t _, trivial⟩⟩ h_13 ?_
    rintro ⟨f14_, k1, i2⟩ h_16
    obtain ⟨f14, y15, rfl, hh1, kk1⟩ := loopM_some h_16
    replace hh1 : m_L_heldIntS_b1 N p_a k1 i2 = some y15 := hh1
    unfold m_L_heldIntS_b1 at hh1
    refine PC.seq ?_
    refine PC.seq ?_
    refine PC.region ?_
    refine PL.op rfl (Rd.moveT rfl) ?_
    refine PL.op rfl (Rd.moveT rfl) ?_
    refine PL.op rfl (Rd.lenT rfl) ?_
    refine PL.op rfl (Rd.lss rfl rfl) ?_
    refine PL.nil ?_
    refine thA_n ?_
    rcases cond_some hh1 with ⟨h_17, hh1⟩ | ⟨h_17, hh1⟩
    rotate_left
    · refine PC.cond_false rfl h_17 ?_
      refine PC.exit ?_
      refine thA_e ?_
      refine thA_e ?_
      refine inA_eq rfl ?_
      refine thA_n ?_
      obtain rfl := some_in hh1
      obtain rfl : (.inl k1 : Int ⊕ Int) = o12 := kk1
      exact ⟨k1, hh0, [], ⟨rfl, rfl, trivial, ⟨.t _, trivial⟩⟩⟩
    refine PC.cond_true rfl h_17 ?_
    refine PC.skip ?_
    refine thA_n ?_
    refine PC.seq ?_
    refine PC.block ?_
    refine PC.seq ?_
    refine PC.seq ?_
    obtain ⟨x18, h_19, hh1⟩ := bind_some hh1
    refine PC.region ?_
    refine PL.op rfl (Rd.moveT rfl) ?_
    refine PL.op rfl (Rd.moveT rfl) ?_
    refine PL.op rfl (Rd.ixM rfl rfl h_19) ?_
    refine PL.op rfl (Rd.elM1 rfl h_19 rfl rfl) ?_
    refine PL.op rfl (Rd.moveT rfl) ?_
    refine PL.op rfl (Rd.neq rfl rfl) ?_
    refine PL.nil ?_
    refine thA_n ?_
    rcases cond_some hh1 with ⟨h_20, hh1⟩ | ⟨h_20, hh1⟩
    rotate_left
    · refine PC.cond_true rfl (not_f h_20) ?_
      refine PC.seq ?_
      refine PC.region ?_
      refine PL.op rfl (Rd.asnT rfl) ?_
      refine PL.nil ?_
      refine thA_n ?_
      refine PC.ret ?_
      refine thA_r ?_
      refine inA_r ?_
      refine thA_r ?_
      refine thA_r ?_
      refine inA_r ?_
      refine thA_r ?_
      obtain rfl := some_in hh1
      obtain rfl : (.inr (-1 : Int) : Int ⊕ Int) = o12 := kk1
      refine thA_r ?_
      obtain rfl := some_in hh0
      exact FinA.mk (r := iA (-1 : Int)) (bl := []) [] (.inl rfl) rfl (rl := [.tmp 4]) (.tmp .nil) rfl rfl rfl (.t _) trivial ⟨rfl, rfl⟩
    refine PC.cond_false rfl (not_t h_20) ?_
    refine PC.skip ?_
    refine thA_n ?_
    obtain ⟨n21, h_22, hh1⟩ := bind_some hh1
    refine PC.region ?_
    refine PL.op rfl (Rd.moveT rfl) ?_
    refine PL.op rfl (Rd.addM rfl rfl h_22) ?_
    refine PL.op rfl (Rd.asnT rfl) ?_
    refine PL.nil ?_
    refine inA_n ?_
    refine thA_n ?_
    obtain ⟨n23, h_24, hh1⟩ := bind_some hh1
    refine PC.region ?_
    refine PL.op rfl (Rd.moveT rfl) ?_
    refine PL.op rfl (Rd.addM rfl rfl h_24) ?_
    refine PL.op rfl (Rd.asnT rfl) ?_
    refine PL.nil ?_
    obtain rfl := some_in hh1
    refine thA_n ?_
    exact ⟨(f14, (n21, n23)), Nat.lt_succ_self _, kk1, [], ⟨rfl, rfl, trivial, ⟨.t _, .t _, .t _, trivial⟩⟩⟩
  clear hh0
  rintro k11 hh0
  replace hh0 : m_L_heldIntS_k1 N k11 = some r := hh0
  unfold m_L_heldIntS_k1 at hh0
  refine thA_n ?_
  refine PC.seq ?_
  refine PC.region ?_
  refine PL.op rfl (Rd.moveT rfl) ?_
  refine PL.op rfl (Rd.asnT rfl) ?_
  refine PL.nil ?_
  refine thA_n ?_
  refine PC.ret ?_
  obtain rfl := some_in hh0
  exact FinA.mk (r := iA k11) (bl := []) [] (.inl rfl) rfl (rl := [.tmp 4]) (.tmp .nil) rfl rfl rfl (.t _) trivial ⟨rfl, rfl⟩

def m_L_heldHoldS_k1 (N : Nat) (k16 : Int) : Option (Int) :=
  some k16
def m_L_heldHoldS_b1 (N : Nat) (p_a : (List I_Hold)) (k1 : Int) (i2 : Int) : Option ((Int × Int) ⊕ (Int ⊕ Int)) :=
  cond (decide (i2 < (p_a.length : Int)))
    ((ixI p_a i2).bind fun x23 =>
    cond (decide (x23.page = k1))
      ((chk (k1 + (1 : Int))).bind fun n26 =>
      (ixI p_a i2).bind fun x28 =>
      cond (decide (x28.since = n26))
        ((chk (n26 + (1 : Int))).bind fun n31 =>
        (chk (i2 + (1 : Int))).bind fun n33 =>
        some (.inl (n31, n33)))
        (some (.inr (.inr (-1 : Int)))))
      (some (.inr (.inr (-1 : Int)))))
    (some (.inr (.inl k1)))
def m_L_heldHoldS (N : Nat) (p_a : (List I_Hold)) (p_k : Int) : Option (Int) :=
  (loopM (β := Int ⊕ Int) (fun s : Int × Int => m_L_heldHoldS_b1 N p_a s.1 s.2) N (p_k, (0 : Int))).bind fun o => match o with
  | .inl e =>
    m_L_heldHoldS_k1 N e
  | .inr v =>
    some v
theorem w_L_heldHoldS (N : Nat) (p_a : (List I_Hold)) (p_k : Int) (r : Int) (hh0 : m_L_heldHoldS N p_a p_k = some r) : FnX Try.prog 54 [] [sL p_a, iA p_k] (RE (iA r) []) := by
  unfold m_L_heldHoldS at hh0
  refine FnX.mk Try.func54 rfl rfl ?_
  intro s hs
  refine PC.seq ?_
  refine PC.region ?_
  refine PL.op rfl (Rd.asnT rfl) ?_
  refine PL.nil ?_
  refine thA_n ?_
  refine PC.seq ?_
  refine PC.seq ?_
  refine PC.region ?_
  refine PL.op rfl (Rd.asnT rfl) ?_
  refine PL.nil ?_
  refine thA_n ?_
  obtain ⟨o17, h_18, hh0⟩ := bind_some hh0
  refine PC.cutE hs (fun x : Int => [(1, iA x)]) (fun x => []) (fun x => m_L_heldHoldS_k1 N x = some r) ?_ ?_
  · refine PC.block ?_
    refine PC.loop hs (fun x : Nat × (Int × Int) => [(0, sL p_a), (1, iA x.2.1), (5, iA x.2.2)]) (fun x => []) (fun x => loopM (β := Int ⊕ Int) (fun s : Int × Int => m_L_heldHoldS_b1 N p_a s.1 s.2) x.1 x.2 = some o17) (fun x => x.1) (N, (p_k, (0 : Int))) [] ⟨rfl, rfl, trivial, ⟨.t _, .t _, .t _, trivial⟩⟩ h_18 ?_
    rintro ⟨f19_, k1, i2⟩ h_21
    obtain ⟨f19, y20, rfl, hh1, kk1⟩ := loopM_some h_21
    replace hh1 : m_L_heldHoldS_b1 N p_a k1 i2 = some y20 := hh1
    unfold m_L_heldHoldS_b1 at hh1
    refine PC.seq ?_
    refine PC.seq ?_
    refine PC.region ?_
    refine PL.op rfl (Rd.moveT rfl) ?_
    refine PL.op rfl (Rd.moveT rfl) ?_
    refine PL.op rfl (Rd.lenT rfl) ?_
    refine PL.op rfl (Rd.lss rfl rfl) ?_
    refine PL.nil ?_
    refine thA_n ?_
    rcases cond_some hh1 with ⟨h_22, hh1⟩ | ⟨h_22, hh1⟩
    rotate_left
    · refine PC.cond_false rfl h_22 ?_
      refine PC.exit ?_
      refine thA_e ?_
      refine thA_e ?_
      refine inA_eq rfl ?_
      refine thA_n ?_
      obtain rfl := some_in hh1
      obtain rfl : (.inl k1 : Int ⊕ Int) = o17 := kk1
      exact ⟨k1, hh0, [], ⟨rfl, rfl, trivial, ⟨.t _, trivial⟩⟩⟩
    refine PC.cond_true rfl h_22 ?_
    refine PC.skip ?_
    refine thA_n ?_
    refine PC.seq ?_
    refine PC.block ?_
    refine PC.seq ?_
    refine PC.seq ?_
    obtain ⟨x23, h_24, hh1⟩ := bind_some hh1
    refine PC.region ?_
    refine PL.op rfl (Rd.moveT rfl) ?_
    refine PL.op rfl (Rd.moveT rfl) ?_
    refine PL.op rfl (Rd.ixM rfl rfl h_24) ?_
    refine PL.op rfl (Rd.fieldT rfl) ?_
    refine PL.op rfl (Rd.elMF (f := 0) rfl h_24 rfl rfl) ?_
    refine PL.op rfl (Rd.moveT rfl) ?_
    refine PL.op rfl (Rd.neq rfl rfl) ?_
    refine PL.nil ?_
    refine thA_n ?_
    rcases cond_some hh1 with ⟨h_25, hh1⟩ | ⟨h_25, hh1⟩
    rotate_left
    · refine PC.cond_true rfl (not_f h_25) ?_
      refine PC.seq ?_
      refine PC.region ?_
      refine PL.op rfl (Rd.asnT rfl) ?_
      refine PL.nil ?_
      refine thA_n ?_
      refine PC.ret ?_
      refine thA_r ?_
      refine inA_r ?_
      refine thA_r ?_
      refine thA_r ?_
      refine inA_r ?_
      refine thA_r ?_
      obtain rfl := some_in hh1
      obtain rfl : (.inr (-1 : Int) : Int ⊕ Int) = o17 := kk1
      refine thA_r ?_
      obtain rfl := some_in hh0
      exact FinA.mk (r := iA (-1 : Int)) (bl := []) [] (.inl rfl) rfl (rl := [.tmp 4]) (.tmp .nil) rfl rfl rfl (.t _) trivial ⟨rfl, rfl⟩
    refine PC.cond_false rfl (not_t h_25) ?_
    refine PC.skip ?_
    refine thA_n ?_
    refine PC.seq ?_
    obtain ⟨n26, h_27, hh1⟩ := bind_some hh1
    refine PC.region ?_
    refine PL.op rfl (Rd.moveT rfl) ?_
    refine PL.op rfl (Rd.addM rfl rfl h_27) ?_
    refine PL.op rfl (Rd.asnT rfl) ?_
    refine PL.nil ?_
    refine thA_n ?_
    refine PC.seq ?_
    refine PC.seq ?_
    obtain ⟨x28, h_29, hh1⟩ := bind_some hh1
    refine PC.region ?_
    refine PL.op rfl (Rd.moveT rfl) ?_
    refine PL.op rfl (Rd.moveT rfl) ?_
    refine PL.op rfl (Rd.ixM rfl rfl h_29) ?_
    refine PL.op rfl (Rd.fieldT rfl) ?_
    refine PL.op rfl (Rd.elMF (f := 1) rfl h_29 rfl rfl) ?_
    refine PL.op rfl (Rd.moveT rfl) ?_
    refine PL.op rfl (Rd.neq rfl rfl) ?_
    refine PL.nil ?_
    refine thA_n ?_
    rcases cond_some hh1 with ⟨h_30, hh1⟩ | ⟨h_30, hh1⟩
    rotate_left
    · refine PC.cond_true rfl (not_f h_30) ?_
      refine PC.seq ?_
      refine PC.region ?_
      refine PL.op rfl (Rd.asnT rfl) ?_
      refine PL.nil ?_
      refine thA_n ?_
      refine PC.ret ?_
      refine thA_r ?_
      refine inA_r ?_
      refine thA_r ?_
      refine thA_r ?_
      refine inA_r ?_
      refine thA_r ?_
      obtain rfl := some_in hh1
      obtain rfl : (.inr (-1 : Int) : Int ⊕ Int) = o17 := kk1
      refine thA_r ?_
      obtain rfl := some_in hh0
      exact FinA.mk (r := iA (-1 : Int)) (bl := []) [] (.inl rfl) rfl (rl := [.tmp 4]) (.tmp .nil) rfl rfl rfl (.t _) trivial ⟨rfl, rfl⟩
    refine PC.cond_false rfl (not_t h_30) ?_
    refine PC.skip ?_
    refine thA_n ?_
    obtain ⟨n31, h_32, hh1⟩ := bind_some hh1
    refine PC.region ?_
    refine PL.op rfl (Rd.moveT rfl) ?_
    refine PL.op rfl (Rd.addM rfl rfl h_32) ?_
    refine PL.op rfl (Rd.asnT rfl) ?_
    refine PL.nil ?_
    refine inA_n ?_
    refine thA_n ?_
    obtain ⟨n33, h_34, hh1⟩ := bind_some hh1
    refine PC.region ?_
    refine PL.op rfl (Rd.moveT rfl) ?_
    refine PL.op rfl (Rd.addM rfl rfl h_34) ?_
    refine PL.op rfl (Rd.asnT rfl) ?_
    refine PL.nil ?_
    obtain rfl := some_in hh1
    refine thA_n ?_
    exact ⟨(f19, (n31, n33)), Nat.lt_succ_self _, kk1, [], ⟨rfl, rfl, trivial, ⟨.t _, .t _, .t _, trivial⟩⟩⟩
  clear hh0
  rintro k16 hh0
  replace hh0 : m_L_heldHoldS_k1 N k16 = some r := hh0
  unfold m_L_heldHoldS_k1 at hh0
  refine thA_n ?_
  refine PC.seq ?_
  refine PC.region ?_
  refine PL.op rfl (Rd.moveT rfl) ?_
  refine PL.op rfl (Rd.asnT rfl) ?_
  refine PL.nil ?_
  refine thA_n ?_
  refine PC.ret ?_
  obtain rfl := some_in hh0
  exact FinA.mk (r := iA k16) (bl := []) [] (.inl rfl) rfl (rl := [.tmp 4]) (.tmp .nil) rfl rfl rfl (.t _) trivial ⟨rfl, rfl⟩

def m_L_heldSpace (N : Nat) (p_a : I_Space) (p_k : Int) : Option (Int) :=
  (m_L_heldIntS N p_a.free p_k).bind fun r1 =>
  cond (decide (r1 < (0 : Int)))
    (some (-1 : Int))
    ((m_L_heldHoldS N p_a.held r1).bind fun r4 =>
    cond (decide (r4 < (0 : Int)))
      (some (-1 : Int))
      (some r4))
theorem w_L_heldSpace (N : Nat) (p_a : I_Space) (p_k : Int) (r : Int) (hh0 : m_L_heldSpace N p_a p_k = some r) : FnX Try.prog 29 [] [.agg [iA p_a.pages, sL p_a.free, sL p_a.held], iA p_k] (RE (iA r) []) := by
  unfold m_L_heldSpace at hh0
  refine FnX.mk Try.func29 rfl rfl ?_
  intro s hs
  refine PC.seq ?_
  refine PC.region ?_
  refine PL.ef rfl (Ef.box rfl rfl rfl) ?_
  refine PL.nm (.op 0 0) [some ⟨.mx [iA p_a.pages, sL p_a.free, sL p_a.held], 30, 0⟩] rfl rfl ?_
  refine PL.op rfl (Rd.asnT rfl) ?_
  refine PL.nil ?_
  refine thA_n ?_
  refine PC.seq ?_
  obtain ⟨r1, h_2, hh0⟩ := bind_some hh0
  refine PC.region ?_
  refine PL.op rfl (Rd.fieldO rfl rfl) ?_
  refine PL.op rfl (Rd.loadO rfl rfl rfl) ?_
  refine PL.op rfl (Rd.moveT rfl) ?_
  refine PL.callM false [] (w_L_heldIntS N p_a.free p_k r1 h_2) rfl Try.call24 rfl ⟨.t _, .t _, trivial⟩ rfl trivial (fun h => by cases h) ?_
  refine PL.op rfl (Rd.asnT rfl) ?_
  refine PL.nil ?_
  refine thA_n ?_
  refine PC.seq ?_
  refine PC.seq ?_
  refine PC.region ?_
  refine PL.op rfl (Rd.moveT rfl) ?_
  refine PL.op rfl (Rd.lss rfl rfl) ?_
  refine PL.nil ?_
  refine thA_n ?_
  rcases cond_some hh0 with ⟨h_3, hh0⟩ | ⟨h_3, hh0⟩
  · refine PC.cond_true rfl h_3 ?_
    refine PC.seq ?_
    refine PC.region ?_
    refine PL.op rfl (Rd.asnT rfl) ?_
    refine PL.nil ?_
    refine thA_n ?_
    refine PC.ret ?_
    refine thA_r ?_
    obtain rfl := some_in hh0
    exact FinA.mk (r := iA (-1 : Int)) (bl := []) [] (.inl rfl) rfl (rl := [.tmp 4]) (.tmp .nil) rfl rfl rfl (.t _) trivial ⟨rfl, rfl⟩
  refine PC.cond_false rfl h_3 ?_
  refine PC.skip ?_
  refine thA_n ?_
  refine PC.seq ?_
  obtain ⟨r4, h_5, hh0⟩ := bind_some hh0
  refine PC.region ?_
  refine PL.op rfl (Rd.fieldO rfl rfl) ?_
  refine PL.op rfl (Rd.loadO rfl rfl rfl) ?_
  refine PL.op rfl (Rd.moveT rfl) ?_
  refine PL.callM false [] (w_L_heldHoldS N p_a.held r1 r4 h_5) rfl Try.call54 rfl ⟨.t _, .t _, trivial⟩ rfl trivial (fun h => by cases h) ?_
  refine PL.op rfl (Rd.asnT rfl) ?_
  refine PL.nil ?_
  refine thA_n ?_
  refine PC.seq ?_
  refine PC.seq ?_
  refine PC.region ?_
  refine PL.op rfl (Rd.moveT rfl) ?_
  refine PL.op rfl (Rd.lss rfl rfl) ?_
  refine PL.nil ?_
  refine thA_n ?_
  rcases cond_some hh0 with ⟨h_6, hh0⟩ | ⟨h_6, hh0⟩
  · refine PC.cond_true rfl h_6 ?_
    refine PC.seq ?_
    refine PC.region ?_
    refine PL.op rfl (Rd.asnT rfl) ?_
    refine PL.nil ?_
    refine thA_n ?_
    refine PC.ret ?_
    refine thA_r ?_
    obtain rfl := some_in hh0
    exact FinA.mk (r := iA (-1 : Int)) (bl := []) [] (.inl rfl) rfl (rl := [.tmp 4]) (.tmp .nil) rfl rfl rfl (.t _) trivial ⟨rfl, rfl⟩
  refine PC.cond_false rfl h_6 ?_
  refine PC.skip ?_
  refine thA_n ?_
  refine PC.seq ?_
  refine PC.region ?_
  refine PL.op rfl (Rd.moveT rfl) ?_
  refine PL.op rfl (Rd.asnT rfl) ?_
  refine PL.nil ?_
  refine thA_n ?_
  refine PC.ret ?_
  obtain rfl := some_in hh0
  exact FinA.mk (r := iA r4) (bl := []) [] (.inl rfl) rfl (rl := [.tmp 4]) (.tmp .nil) rfl rfl rfl (.t _) trivial ⟨rfl, rfl⟩

end V
end Go.Proofs.Ytambkpacecjheaa
