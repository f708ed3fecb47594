/- Buffers: the helpers of the exact laws. No condition. -/
import Derived.Test.YtifcacahgiihoaaGBufB
namespace Go.Proofs.Ytifcacahgiihoaa
namespace V
open Enc (enc)
set_option linter.unusedVariables false
set_option linter.unusedSimpArgs false
set_option maxHeartbeats 4000000
set_option maxRecDepth 100000
open Go.RowKit
attribute [local irreducible] thA inA FinA eL

def m_L_szFrameS (N : Nat) (p_a : (List L_Frame)) (p_left : Int) : Option (Int) :=
  (chk (p_left - (p_a.length : Int))).bind fun n1 =>
  cond (decide (n1 < (0 : Int)))
    (some (-1 : Int))
    (some n1)
theorem w_L_szFrameS (N : Nat) (p_a : (List L_Frame)) (p_left : Int) (r : Int) (hh0 : m_L_szFrameS N p_a p_left = some r) : FnX Try.prog 29 [] [sL p_a, iA p_left] (RE (iA r) []) := by
  unfold m_L_szFrameS at hh0
  refine FnX.mk Try.func29 rfl rfl ?_
  intro s hs
  refine PC.seq ?_
  refine PC.region ?_
  refine PL.op rfl (Rd.asnT rfl) ?_
  refine PL.nil ?_
  refine thA_n ?_
  refine PC.seq ?_
  obtain ⟨n1, h_2, hh0⟩ := bind_some hh0
  refine PC.region ?_
  refine PL.op rfl (Rd.moveT rfl) ?_
  refine PL.op rfl (Rd.moveT rfl) ?_
  refine PL.op rfl (Rd.lenT rfl) ?_
  refine PL.op rfl (Rd.subM rfl rfl h_2) ?_
  refine PL.op rfl (Rd.asnT rfl) ?_
  refine PL.nil ?_
  refine thA_n ?_
  refine PC.seq ?_
  refine PC.seq ?_
  refine PC.region ?_
  refine PL.op rfl (Rd.moveT rfl) ?_
  refine PL.op rfl (Rd.lss rfl rfl) ?_
  refine PL.nil ?_
  refine thA_n ?_
  rcases cond_some hh0 with ⟨h_3, hh0⟩ | ⟨h_3, hh0⟩
  · refine PC.cond_true rfl h_3 ?_
    refine PC.seq ?_
    refine PC.region ?_
    refine PL.op rfl (Rd.asnT rfl) ?_
    refine PL.nil ?_
    refine thA_n ?_
    refine PC.ret ?_
    refine thA_r ?_
    obtain rfl := some_in hh0
    exact FinA.mk (r := iA (-1 : Int)) (bl := []) [] (.inl rfl) rfl (rl := [.tmp 4]) (.tmp .nil) rfl rfl rfl (.t _) trivial ⟨rfl, rfl⟩
  refine PC.cond_false rfl h_3 ?_
  refine PC.skip ?_
  refine thA_n ?_
  refine PC.seq ?_
  refine PC.region ?_
  refine PL.op rfl (Rd.moveT rfl) ?_
  refine PL.op rfl (Rd.asnT rfl) ?_
  refine PL.nil ?_
  refine thA_n ?_
  refine PC.ret ?_
  obtain rfl := some_in hh0
  exact FinA.mk (r := iA n1) (bl := []) [] (.inl rfl) rfl (rl := [.tmp 4]) (.tmp .nil) rfl rfl rfl (.t _) trivial ⟨rfl, rfl⟩

def m_L_szBuffer (N : Nat) (p_a : L_Buffer) (p_left : Int) : Option (Int) :=
  (m_L_szFrameS N p_a.frames p_left).bind fun r1 =>
  cond (decide (r1 < (0 : Int)))
    (some (-1 : Int))
    (some r1)
theorem w_L_szBuffer (N : Nat) (p_a : L_Buffer) (p_left : Int) (r : Int) (hh0 : m_L_szBuffer N p_a p_left = some r) : FnX Try.prog 11 [] [.agg [sL p_a.frames, iA p_a.forced], iA p_left] (RE (iA r) []) := by
  unfold m_L_szBuffer at hh0
  refine FnX.mk Try.func11 rfl rfl ?_
  intro s hs
  refine PC.seq ?_
  refine PC.region ?_
  refine PL.ef rfl (Ef.box rfl rfl rfl) ?_
  refine PL.nm (.op 0 0) [some ⟨.mx [sL p_a.frames, iA p_a.forced], 24, 0⟩] rfl rfl ?_
  refine PL.op rfl (Rd.asnT rfl) ?_
  refine PL.nil ?_
  refine thA_n ?_
  refine PC.seq ?_
  obtain ⟨r1, h_2, hh0⟩ := bind_some hh0
  refine PC.region ?_
  refine PL.op rfl (Rd.fieldO rfl rfl) ?_
  refine PL.op rfl (Rd.loadO rfl rfl rfl) ?_
  refine PL.op rfl (Rd.moveT rfl) ?_
  refine PL.callM false [] (w_L_szFrameS N p_a.frames p_left r1 h_2) rfl Try.call29 rfl ⟨.t _, .t _, trivial⟩ rfl trivial (fun h => by cases h) ?_
  refine PL.op rfl (Rd.asnT rfl) ?_
  refine PL.nil ?_
  refine thA_n ?_
  refine PC.seq ?_
  refine PC.seq ?_
  refine PC.region ?_
  refine PL.op rfl (Rd.moveT rfl) ?_
  refine PL.op rfl (Rd.lss rfl rfl) ?_
  refine PL.nil ?_
  refine thA_n ?_
  rcases cond_some hh0 with ⟨h_3, hh0⟩ | ⟨h_3, hh0⟩
  · refine PC.cond_true rfl h_3 ?_
    refine PC.seq ?_
    refine PC.region ?_
    refine PL.op rfl (Rd.asnT rfl) ?_
    refine PL.nil ?_
    refine thA_n ?_
    refine PC.ret ?_
    refine thA_r ?_
    obtain rfl := some_in hh0
    exact FinA.mk (r := iA (-1 : Int)) (bl := []) [] (.inl rfl) rfl (rl := [.tmp 4]) (.tmp .nil) rfl rfl rfl (.t _) trivial ⟨rfl, rfl⟩
  refine PC.cond_false rfl h_3 ?_
  refine PC.skip ?_
  refine thA_n ?_
  refine PC.seq ?_
  refine PC.region ?_
  refine PL.op rfl (Rd.moveT rfl) ?_
  refine PL.op rfl (Rd.asnT rfl) ?_
  refine PL.nil ?_
  refine thA_n ?_
  refine PC.ret ?_
  obtain rfl := some_in hh0
  exact FinA.mk (r := iA r1) (bl := []) [] (.inl rfl) rfl (rl := [.tmp 4]) (.tmp .nil) rfl rfl rfl (.t _) trivial ⟨rfl, rfl⟩

def m_L_toFrame (N : Nat) (p_a : L_Frame) : Option (I_Frame) :=
  some (I_Frame.mk p_a.page p_a.dirty p_a.first p_a.last)
theorem w_L_toFrame (N : Nat) (p_a : L_Frame) (r : I_Frame) (hh0 : m_L_toFrame N p_a = some r) : FnX Try.prog 46 [] [.agg [iA p_a.page, bA p_a.dirty, iA p_a.first, iA p_a.last]] (RE (.agg [iA r.page, bA r.dirty, iA r.first, iA r.last]) []) := by
  unfold m_L_toFrame at hh0
  refine FnX.mk Try.func46 rfl rfl ?_
  intro s hs
  refine PC.seq ?_
  refine PC.region ?_
  refine PL.ef rfl (Ef.box rfl rfl rfl) ?_
  refine PL.nm (.op 0 0) [some ⟨.mx [iA p_a.page, bA p_a.dirty, iA p_a.first, iA p_a.last], 64, 0⟩] rfl rfl ?_
  refine PL.ef rfl (Ef.alloc rfl rfl) ?_
  refine PL.nm (.op 1 0) [some ⟨.mx [iA p_a.page, bA p_a.dirty, iA p_a.first, iA p_a.last], 64, 0⟩, some ⟨.mx [iA (0 : Int), bA false, iA (0 : Int), iA (0 : Int)], 59, 0⟩] rfl rfl ?_
  refine PL.nil ?_
  refine thA_n ?_
  refine PC.seq ?_
  refine PC.region ?_
  refine PL.ef rfl (Ef.alloc rfl rfl) ?_
  refine PL.nm (.op 2 0) [some ⟨.mx [iA p_a.page, bA p_a.dirty, iA p_a.first, iA p_a.last], 64, 0⟩, some ⟨.mx [iA (0 : Int), bA false, iA (0 : Int), iA (0 : Int)], 59, 0⟩, some ⟨.mx [iA (0 : Int), bA false, iA (0 : Int), iA (0 : Int)], 59, 0⟩] rfl rfl ?_
  refine PL.nil ?_
  refine thA_n ?_
  refine PC.seq ?_
  refine PC.region ?_
  refine PL.op rfl (Rd.fieldO rfl rfl) ?_
  refine PL.op rfl (Rd.loadO rfl rfl rfl) ?_
  refine PL.op rfl (Rd.fieldO rfl rfl) ?_
  refine PL.store rfl rfl rfl rfl rfl rfl rfl ?_
  refine PL.nO [some ⟨.mx [iA p_a.page, bA p_a.dirty, iA p_a.first, iA p_a.last], 64, 0⟩, some ⟨.mx [iA (0 : Int), bA false, iA (0 : Int), iA (0 : Int)], 59, 0⟩, some ⟨.mx [iA p_a.page, bA false, iA (0 : Int), iA (0 : Int)], 59, 0⟩] rfl ?_
  refine PL.nil ?_
  refine thA_n ?_
  refine PC.seq ?_
  refine PC.region ?_
  refine PL.op rfl (Rd.fieldO rfl rfl) ?_
  refine PL.op rfl (Rd.loadO rfl rfl rfl) ?_
  refine PL.op rfl (Rd.fieldO rfl rfl) ?_
  refine PL.store rfl rfl rfl rfl rfl rfl rfl ?_
  refine PL.nO [some ⟨.mx [iA p_a.page, bA p_a.dirty, iA p_a.first, iA p_a.last], 64, 0⟩, some ⟨.mx [iA (0 : Int), bA false, iA (0 : Int), iA (0 : Int)], 59, 0⟩, some ⟨.mx [iA p_a.page, bA p_a.dirty, iA (0 : Int), iA (0 : Int)], 59, 0⟩] rfl ?_
  refine PL.nil ?_
  refine thA_n ?_
  refine PC.seq ?_
  refine PC.region ?_
  refine PL.op rfl (Rd.fieldO rfl rfl) ?_
  refine PL.op rfl (Rd.loadO rfl rfl rfl) ?_
  refine PL.op rfl (Rd.fieldO rfl rfl) ?_
  refine PL.store rfl rfl rfl rfl rfl rfl rfl ?_
  refine PL.nO [some ⟨.mx [iA p_a.page, bA p_a.dirty, iA p_a.first, iA p_a.last], 64, 0⟩, some ⟨.mx [iA (0 : Int), bA false, iA (0 : Int), iA (0 : Int)], 59, 0⟩, some ⟨.mx [iA p_a.page, bA p_a.dirty, iA p_a.first, iA (0 : Int)], 59, 0⟩] rfl ?_
  refine PL.nil ?_
  refine thA_n ?_
  refine PC.seq ?_
  refine PC.region ?_
  refine PL.op rfl (Rd.fieldO rfl rfl) ?_
  refine PL.op rfl (Rd.loadO rfl rfl rfl) ?_
  refine PL.op rfl (Rd.fieldO rfl rfl) ?_
  refine PL.store rfl rfl rfl rfl rfl rfl rfl ?_
  refine PL.nO [some ⟨.mx [iA p_a.page, bA p_a.dirty, iA p_a.first, iA p_a.last], 64, 0⟩, some ⟨.mx [iA (0 : Int), bA false, iA (0 : Int), iA (0 : Int)], 59, 0⟩, some ⟨.mx [iA p_a.page, bA p_a.dirty, iA p_a.first, iA p_a.last], 59, 0⟩] rfl ?_
  refine PL.nil ?_
  refine thA_n ?_
  refine PC.seq ?_
  refine PC.region ?_
  refine PL.op rfl (Rd.loadBox rfl rfl rfl) ?_
  refine PL.store rfl rfl rfl rfl rfl rfl rfl ?_
  refine PL.nO [some ⟨.mx [iA p_a.page, bA p_a.dirty, iA p_a.first, iA p_a.last], 64, 0⟩, some ⟨.mx [iA p_a.page, bA p_a.dirty, iA p_a.first, iA p_a.last], 59, 0⟩, some ⟨.mx [iA p_a.page, bA p_a.dirty, iA p_a.first, iA p_a.last], 59, 0⟩] rfl ?_
  refine PL.nil ?_
  refine thA_n ?_
  refine PC.ret ?_
  obtain rfl := some_in hh0
  exact FinA.mk (r := .agg [iA p_a.page, bA p_a.dirty, iA p_a.first, iA p_a.last]) (bl := []) [] (.inl rfl) rfl (rl := [.cell 2 59]) (.cellN rfl rfl rfl rfl .nil) rfl rfl rfl (.aggL ⟨.t _, .t _, .t _, .t _, trivial⟩) trivial ⟨rfl, rfl⟩

def m_L_toFrameS_k1 (N : Nat) (v14 : (List I_Frame)) : Option ((List I_Frame)) :=
  some v14
def m_L_toFrameS_b1 (N : Nat) (p_a : (List L_Frame)) (i3 : Int) (v4 : (List I_Frame)) : Option ((Int × (List I_Frame)) ⊕ (List I_Frame)) :=
  cond (decide (i3 < (p_a.length : Int)))
    ((ixI p_a i3).bind fun x21 =>
    (m_L_toFrame N x21).bind fun r23 =>
    (ixI v4 i3).bind fun x25 =>
    (chk (i3 + (1 : Int))).bind fun n27 =>
    some (.inl (n27, (v4.set i3.toNat r23))))
    (some (.inr v4))
def m_L_toFrameS (N : Nat) (p_a : (List L_Frame)) : Option ((List I_Frame)) :=
  (mkM 32 (I_Frame.mk (0 : Int) false (0 : Int) (0 : Int)) (p_a.length : Int)).bind fun xs1 =>
  (loopM (β := (List I_Frame)) (fun s : Int × (List I_Frame) => m_L_toFrameS_b1 N p_a s.1 s.2) N ((0 : Int), xs1)).bind fun e =>
  m_L_toFrameS_k1 N e
theorem w_L_toFrameS (N : Nat) (p_a : (List L_Frame)) (r : (List I_Frame)) (hh0 : m_L_toFrameS N p_a = some r) : FnX Try.prog 32 [] [sL p_a] (RE (.os 0 0 r.length) [⟨.tr (eL r), 59, 4⟩]) := by
  unfold m_L_toFrameS at hh0
  refine FnX.mk Try.func32 rfl rfl ?_
  intro s hs
  refine PC.seq ?_
  refine PC.region ?_
  refine PL.op rfl (Rd.asnT rfl) ?_
  refine PL.nil ?_
  refine thA_n ?_
  refine PC.seq ?_
  obtain ⟨xs1, h_2, hh0⟩ := bind_some hh0
  refine PC.region ?_
  refine PL.op rfl (Rd.moveT rfl) ?_
  refine PL.op rfl (Rd.lenT rfl) ?_
  refine PL.ef rfl (Ef.makeM (I_Frame.mk (0 : Int) false (0 : Int) (0 : Int)) rfl rfl h_2 rfl rfl rfl (by exact ⟨.inl ⟨rfl, rfl⟩, .inl ⟨rfl, rfl⟩, .inl ⟨rfl, rfl⟩, .inl ⟨rfl, rfl⟩, trivial⟩)) ?_
  refine PL.nm (.os 0 0 xs1.length) [some ⟨.tr (eL xs1), 59, 4⟩] rfl rfl ?_
  refine PL.op rfl (Rd.asnO rfl) ?_
  refine PL.nil ?_
  refine thA_n ?_
  refine PC.seq ?_
  refine PC.seq ?_
  refine PC.region ?_
  refine PL.op rfl (Rd.asnT rfl) ?_
  refine PL.nil ?_
  refine thA_n ?_
  obtain ⟨o15, h_16, hh0⟩ := bind_some hh0
  refine PC.cutE hs (fun x : (List I_Frame) => [(3, .os 0 0 x.length)]) (fun x => [⟨.tr (eL x), 59, 4⟩]) (fun x => m_L_toFrameS_k1 N x = some r) ?_ ?_
  · refine PC.block ?_
    refine PC.loop hs (fun x : Nat × (Int × (List I_Frame)) => [(0, sL p_a), (3, .os 0 0 x.2.2.length), (4, iA x.2.1)]) (fun x => [⟨.tr (eL x.2.2), 59, 4⟩]) (fun x => loopM (β := (List I_Frame)) (fun s : Int × (List I_Frame) => m_L_toFrameS_b1 N p_a s.1 s.2) x.1 x.2 = some o15) (fun x => x.1) (N, ((0 : Int), xs1)) [some 0] ⟨rfl, rfl, ⟨⟨_, rfl, rfl, rfl, .tr _⟩, trivial⟩, ⟨.t _, .os rfl, .t _, trivial⟩⟩ h_16 ?_
    rintro ⟨f17_, i3, v4⟩ h_19
    obtain ⟨f17, y18, rfl, hh1, kk1⟩ := loopM_some h_19
    replace hh1 : m_L_toFrameS_b1 N p_a i3 v4 = some y18 := hh1
    unfold m_L_toFrameS_b1 at hh1
    refine PC.seq ?_
    refine PC.seq ?_
    refine PC.region ?_
    refine PL.op rfl (Rd.moveT rfl) ?_
    refine PL.op rfl (Rd.moveT rfl) ?_
    refine PL.op rfl (Rd.lenT rfl) ?_
    refine PL.op rfl (Rd.lss rfl rfl) ?_
    refine PL.nil ?_
    refine thA_n ?_
    rcases cond_some hh1 with ⟨h_20, hh1⟩ | ⟨h_20, hh1⟩
    rotate_left
    · refine PC.cond_false rfl h_20 ?_
      refine PC.exit ?_
      refine thA_e ?_
      refine thA_e ?_
      refine inA_eq rfl ?_
      refine thA_n ?_
      obtain rfl := some_in hh1
      obtain rfl : (v4 : (List I_Frame)) = o15 := kk1
      exact ⟨v4, hh0, [some 0], ⟨rfl, rfl, ⟨⟨_, rfl, rfl, rfl, .tr _⟩, trivial⟩, ⟨.os rfl, trivial⟩⟩⟩
    refine PC.cond_true rfl h_20 ?_
    refine PC.skip ?_
    refine thA_n ?_
    refine PC.seq ?_
    refine PC.block ?_
    obtain ⟨x21, h_22, hh1⟩ := bind_some hh1
    obtain ⟨r23, h_24, hh1⟩ := bind_some hh1
    obtain ⟨x25, h_26, hh1⟩ := bind_some hh1
    refine PC.region ?_
    refine PL.op rfl (Rd.moveO rfl) ?_
    refine PL.op rfl (Rd.moveT rfl) ?_
    refine PL.op rfl (Rd.moveT rfl) ?_
    refine PL.op rfl (Rd.moveT rfl) ?_
    refine PL.op rfl (Rd.ixM rfl rfl h_22) ?_
    refine PL.op rfl (Rd.elMR rfl h_22 rfl rfl) ?_
    refine PL.callM false [] (w_L_toFrame N x21 r23 h_24) rfl Try.call46 rfl ⟨.aggL ⟨.t _, .t _, .t _, .t _, trivial⟩, trivial⟩ rfl trivial (fun h => by cases h) ?_
    refine PL.op rfl (Rd.ixOM rfl rfl rfl (ixI_lt h_26)) ?_
    refine PL.stRM r23 rfl rfl rfl rfl rfl h_26 rfl ?_
    refine PL.nO [some ⟨.tr (eL (v4.set i3.toNat r23)), 59, 4⟩] rfl ?_
    refine PL.nil ?_
    refine inA_n ?_
    refine thA_n ?_
    obtain ⟨n27, h_28, hh1⟩ := bind_some hh1
    refine PC.region ?_
    refine PL.op rfl (Rd.moveT rfl) ?_
    refine PL.op rfl (Rd.addM rfl rfl h_28) ?_
    refine PL.op rfl (Rd.asnT rfl) ?_
    refine PL.nil ?_
    obtain rfl := some_in hh1
    refine thA_n ?_
    exact ⟨(f17, (n27, (v4.set i3.toNat r23))), Nat.lt_succ_self _, kk1, [some 0], ⟨rfl, rfl, ⟨⟨_, rfl, rfl, rfl, .tr _⟩, trivial⟩, ⟨.t _, .osE rfl (by simp only [List.length_set]), .t _, trivial⟩⟩⟩
  clear hh0
  rintro v14 hh0
  replace hh0 : m_L_toFrameS_k1 N v14 = some r := hh0
  unfold m_L_toFrameS_k1 at hh0
  refine thA_n ?_
  refine PC.seq ?_
  refine PC.region ?_
  refine PL.op rfl (Rd.moveO rfl) ?_
  refine PL.op rfl (Rd.asnO rfl) ?_
  refine PL.nil ?_
  refine thA_n ?_
  refine PC.ret ?_
  obtain rfl := some_in hh0
  exact FinA.mk (r := .os 0 0 v14.length) (bl := [⟨.tr (eL v14), 59, 4⟩]) [some 0] (.inl rfl) rfl (rl := [.tmp 2]) (.tmp .nil) rfl rfl rfl (.os rfl) ⟨⟨_, rfl, rfl, rfl, .tr _⟩, trivial⟩ ⟨rfl, rfl⟩

def m_L_toBuffer (N : Nat) (p_a : L_Buffer) : Option (I_Buffer) :=
  (m_L_toFrameS N p_a.frames).bind fun r1 =>
  some (I_Buffer.mk r1 p_a.forced)
theorem w_L_toBuffer (N : Nat) (p_a : L_Buffer) (r : I_Buffer) (hh0 : m_L_toBuffer N p_a = some r) : FnX Try.prog 13 [] [.agg [sL p_a.frames, iA p_a.forced]] (RE (.agg [.os 0 0 r.frames.length, iA r.forced]) [⟨.tr (eL r.frames), 59, 4⟩]) := by
  unfold m_L_toBuffer at hh0
  refine FnX.mk Try.func13 rfl rfl ?_
  intro s hs
  refine PC.seq ?_
  refine PC.region ?_
  refine PL.ef rfl (Ef.box rfl rfl rfl) ?_
  refine PL.nm (.op 0 0) [some ⟨.mx [sL p_a.frames, iA p_a.forced], 24, 0⟩] rfl rfl ?_
  refine PL.ef rfl (Ef.alloc rfl rfl) ?_
  refine PL.nm (.op 1 0) [some ⟨.mx [sL p_a.frames, iA p_a.forced], 24, 0⟩, some ⟨.mx [.t (.v (.slice none 0 0)), iA (0 : Int)], 28, 0⟩] rfl rfl ?_
  refine PL.nil ?_
  refine thA_n ?_
  refine PC.seq ?_
  refine PC.region ?_
  refine PL.ef rfl (Ef.alloc rfl rfl) ?_
  refine PL.nm (.op 2 0) [some ⟨.mx [sL p_a.frames, iA p_a.forced], 24, 0⟩, some ⟨.mx [.t (.v (.slice none 0 0)), iA (0 : Int)], 28, 0⟩, some ⟨.mx [.t (.v (.slice none 0 0)), iA (0 : Int)], 28, 0⟩] rfl rfl ?_
  refine PL.nil ?_
  refine thA_n ?_
  refine PC.seq ?_
  obtain ⟨r1, h_2, hh0⟩ := bind_some hh0
  refine PC.region ?_
  refine PL.op rfl (Rd.fieldO rfl rfl) ?_
  refine PL.op rfl (Rd.loadO rfl rfl rfl) ?_
  refine PL.callM false [] (w_L_toFrameS N p_a.frames r1 h_2) rfl Try.call32 rfl ⟨.t _, trivial⟩ rfl trivial (fun h => by cases h) ?_
  refine PL.nm (.os 3 0 r1.length) [some ⟨.mx [sL p_a.frames, iA p_a.forced], 24, 0⟩, some ⟨.mx [.t (.v (.slice none 0 0)), iA (0 : Int)], 28, 0⟩, some ⟨.mx [.t (.v (.slice none 0 0)), iA (0 : Int)], 28, 0⟩, some ⟨.tr (eL r1), 59, 4⟩] rfl rfl ?_
  refine PL.op rfl (Rd.fieldO rfl rfl) ?_
  refine PL.store rfl rfl rfl rfl rfl rfl rfl ?_
  refine PL.nO [some ⟨.mx [sL p_a.frames, iA p_a.forced], 24, 0⟩, some ⟨.mx [.t (.v (.slice none 0 0)), iA (0 : Int)], 28, 0⟩, some ⟨.mx [.os 3 0 r1.length, iA (0 : Int)], 28, 0⟩, some ⟨.tr (eL r1), 59, 4⟩] rfl ?_
  refine PL.nil ?_
  refine thA_n ?_
  refine PC.seq ?_
  refine PC.region ?_
  refine PL.op rfl (Rd.fieldO rfl rfl) ?_
  refine PL.op rfl (Rd.loadO rfl rfl rfl) ?_
  refine PL.op rfl (Rd.fieldO rfl rfl) ?_
  refine PL.store rfl rfl rfl rfl rfl rfl rfl ?_
  refine PL.nO [some ⟨.mx [sL p_a.frames, iA p_a.forced], 24, 0⟩, some ⟨.mx [.t (.v (.slice none 0 0)), iA (0 : Int)], 28, 0⟩, some ⟨.mx [.os 3 0 r1.length, iA p_a.forced], 28, 0⟩, some ⟨.tr (eL r1), 59, 4⟩] rfl ?_
  refine PL.nil ?_
  refine thA_n ?_
  refine PC.seq ?_
  refine PC.region ?_
  refine PL.op rfl (Rd.loadBox rfl rfl rfl) ?_
  refine PL.store rfl rfl rfl rfl rfl rfl rfl ?_
  refine PL.nO [some ⟨.mx [sL p_a.frames, iA p_a.forced], 24, 0⟩, some ⟨.mx [.os 3 0 r1.length, iA p_a.forced], 28, 0⟩, some ⟨.mx [.os 3 0 r1.length, iA p_a.forced], 28, 0⟩, some ⟨.tr (eL r1), 59, 4⟩] rfl ?_
  refine PL.nil ?_
  refine thA_n ?_
  refine PC.ret ?_
  obtain rfl := some_in hh0
  exact FinA.mk (r := .agg [.os 0 0 r1.length, iA p_a.forced]) (bl := [⟨.tr (eL r1), 59, 4⟩]) [some 3] (.inl rfl) rfl (rl := [.cell 2 28]) (.cellN rfl rfl rfl rfl .nil) rfl rfl rfl (.aggL ⟨.os rfl, .t _, trivial⟩) ⟨⟨_, rfl, rfl, rfl, .tr _⟩, trivial⟩ ⟨rfl, rfl⟩

def m_L_eqFrame (N : Nat) (p_a : I_Frame) (p_b : I_Frame) : Option (Bool) :=
  cond (decide (p_a.page = p_b.page))
    (cond (p_a.dirty == p_b.dirty)
      (cond (decide (p_a.first = p_b.first))
        (cond (decide (p_a.last = p_b.last))
          (some true)
          (some false))
        (some false))
      (some false))
    (some false)
theorem w_L_eqFrame (N : Nat) (p_a : I_Frame) (p_b : I_Frame) (r : Bool) (hh0 : m_L_eqFrame N p_a p_b = some r) : FnX Try.prog 48 [] [.agg [iA p_a.page, bA p_a.dirty, iA p_a.first, iA p_a.last], .agg [iA p_b.page, bA p_b.dirty, iA p_b.first, iA p_b.last]] (RE (bA r) []) := by
  unfold m_L_eqFrame at hh0
  refine FnX.mk Try.func48 rfl rfl ?_
  intro s hs
  refine PC.seq ?_
  refine PC.region ?_
  refine PL.ef rfl (Ef.box rfl rfl rfl) ?_
  refine PL.nm (.op 0 0) [some ⟨.mx [iA p_a.page, bA p_a.dirty, iA p_a.first, iA p_a.last], 59, 0⟩] rfl rfl ?_
  refine PL.ef rfl (Ef.box rfl rfl rfl) ?_
  refine PL.nm (.op 1 0) [some ⟨.mx [iA p_a.page, bA p_a.dirty, iA p_a.first, iA p_a.last], 59, 0⟩, some ⟨.mx [iA p_b.page, bA p_b.dirty, iA p_b.first, iA p_b.last], 59, 0⟩] rfl rfl ?_
  refine PL.op rfl (Rd.asnT rfl) ?_
  refine PL.nil ?_
  refine thA_n ?_
  refine PC.seq ?_
  refine PC.seq ?_
  refine PC.region ?_
  refine PL.op rfl (Rd.fieldO rfl rfl) ?_
  refine PL.op rfl (Rd.loadO rfl rfl rfl) ?_
  refine PL.op rfl (Rd.fieldO rfl rfl) ?_
  refine PL.op rfl (Rd.loadO rfl rfl rfl) ?_
  refine PL.op rfl (Rd.neq rfl rfl) ?_
  refine PL.nil ?_
  refine thA_n ?_
  rcases cond_some hh0 with ⟨h_1, hh0⟩ | ⟨h_1, hh0⟩
  rotate_left
  · refine PC.cond_true rfl (not_f h_1) ?_
    refine PC.seq ?_
    refine PC.region ?_
    refine PL.op rfl (Rd.asnT rfl) ?_
    refine PL.nil ?_
    refine thA_n ?_
    refine PC.ret ?_
    refine thA_r ?_
    obtain rfl := some_in hh0
    exact FinA.mk (r := bA false) (bl := []) [] (.inl rfl) rfl (rl := [.tmp 4]) (.tmp .nil) rfl rfl rfl (.t _) trivial ⟨rfl, rfl⟩
  refine PC.cond_false rfl (not_t h_1) ?_
  refine PC.skip ?_
  refine thA_n ?_
  refine PC.seq ?_
  refine PC.seq ?_
  refine PC.region ?_
  refine PL.op rfl (Rd.fieldO rfl rfl) ?_
  refine PL.op rfl (Rd.loadO rfl rfl rfl) ?_
  refine PL.op rfl (Rd.fieldO rfl rfl) ?_
  refine PL.op rfl (Rd.loadO rfl rfl rfl) ?_
  refine PL.op rfl (Rd.neqB rfl rfl) ?_
  refine PL.nil ?_
  refine thA_n ?_
  rcases cond_some hh0 with ⟨h_2, hh0⟩ | ⟨h_2, hh0⟩
  rotate_left
  · refine PC.cond_true rfl (not_f h_2) ?_
    refine PC.seq ?_
    refine PC.region ?_
    refine PL.op rfl (Rd.asnT rfl) ?_
    refine PL.nil ?_
    refine thA_n ?_
    refine PC.ret ?_
    refine thA_r ?_
    obtain rfl := some_in hh0
    exact FinA.mk (r := bA false) (bl := []) [] (.inl rfl) rfl (rl := [.tmp 4]) (.tmp .nil) rfl rfl rfl (.t _) trivial ⟨rfl, rfl⟩
  refine PC.cond_false rfl (not_t h_2) ?_
  refine PC.skip ?_
  refine thA_n ?_
  refine PC.seq ?_
  refine PC.seq ?_
  refine PC.region ?_
  refine PL.op rfl (Rd.fieldO rfl rfl) ?_
  refine PL.op rfl (Rd.loadO rfl rfl rfl) ?_
  refine PL.op rfl (Rd.fieldO rfl rfl) ?_
  refine PL.op rfl (Rd.loadO rfl rfl rfl) ?_
  refine PL.op rfl (Rd.neq rfl rfl) ?_
  refine PL.nil ?_
  refine thA_n ?_
  rcases cond_some hh0 with ⟨h_3, hh0⟩ | ⟨h_3, hh0⟩
  rotate_left
  · refine PC.cond_true rfl (not_f h_3) ?_
    refine PC.seq ?_
    refine PC.region ?_
    refine PL.op rfl (Rd.asnT rfl) ?_
    refine PL.nil ?_
    refine thA_n ?_
    refine PC.ret ?_
    refine thA_r ?_
    obtain rfl := some_in hh0
    exact FinA.mk (r := bA false) (bl := []) [] (.inl rfl) rfl (rl := [.tmp 4]) (.tmp .nil) rfl rfl rfl (.t _) trivial ⟨rfl, rfl⟩
  refine PC.cond_false rfl (not_t h_3) ?_
  refine PC.skip ?_
  refine thA_n ?_
  refine PC.seq ?_
  refine PC.seq ?_
  refine PC.region ?_
  refine PL.op rfl (Rd.fieldO rfl rfl) ?_
  refine PL.op rfl (Rd.loadO rfl rfl rfl) ?_
  refine PL.op rfl (Rd.fieldO rfl rfl) ?_
  refine PL.op rfl (Rd.loadO rfl rfl rfl) ?_
  refine PL.op rfl (Rd.neq rfl rfl) ?_
  refine PL.nil ?_
  refine thA_n ?_
  rcases cond_some hh0 with ⟨h_4, hh0⟩ | ⟨h_4, hh0⟩
  rotate_left
  · refine PC.cond_true rfl (not_f h_4) ?_
    refine PC.seq ?_
    refine PC.region ?_
    refine PL.op rfl (Rd.asnT rfl) ?_
    refine PL.nil ?_
    refine thA_n ?_
    refine PC.ret ?_
    refine thA_r ?_
    obtain rfl := some_in hh0
    exact FinA.mk (r := bA false) (bl := []) [] (.inl rfl) rfl (rl := [.tmp 4]) (.tmp .nil) rfl rfl rfl (.t _) trivial ⟨rfl, rfl⟩
  refine PC.cond_false rfl (not_t h_4) ?_
  refine PC.skip ?_
  refine thA_n ?_
  refine PC.seq ?_
  refine PC.region ?_
  refine PL.op rfl (Rd.asnT rfl) ?_
  refine PL.nil ?_
  refine thA_n ?_
  refine PC.ret ?_
  obtain rfl := some_in hh0
  exact FinA.mk (r := bA true) (bl := []) [] (.inl rfl) rfl (rl := [.tmp 4]) (.tmp .nil) rfl rfl rfl (.t _) trivial ⟨rfl, rfl⟩

def m_L_eqFrameS_k1 (N : Nat) : Option (Bool) :=
  some true
def m_L_eqFrameS_b1 (N : Nat) (p_a : (List I_Frame)) (p_b : (List I_Frame)) (i2 : Int) : Option (Int ⊕ (Unit ⊕ Bool)) :=
  cond (decide (i2 < (p_a.length : Int)))
    ((ixI p_a i2).bind fun x19 =>
    (ixI p_b i2).bind fun x21 =>
    (m_L_eqFrame N x19 x21).bind fun r23 =>
    cond r23
      ((chk (i2 + (1 : Int))).bind fun n26 =>
      some (.inl n26))
      (some (.inr (.inr false))))
    (some (.inr (.inl ())))
def m_L_eqFrameS (N : Nat) (p_a : (List I_Frame)) (p_b : (List I_Frame)) : Option (Bool) :=
  cond (decide ((p_a.length : Int) = (p_b.length : Int)))
    ((loopM (β := Unit ⊕ Bool) (fun s : Int => m_L_eqFrameS_b1 N p_a p_b s) N (0 : Int)).bind fun o => match o with
    | .inl e =>
      m_L_eqFrameS_k1 N 
    | .inr v =>
      some v)
    (some false)
theorem w_L_eqFrameS (N : Nat) (p_a : (List I_Frame)) (p_b : (List I_Frame)) (r : Bool) (hh0 : m_L_eqFrameS N p_a p_b = some r) : FnX Try.prog 34 [] [sL p_a, sL p_b] (RE (bA r) []) := by
  unfold m_L_eqFrameS at hh0
  refine FnX.mk Try.func34 rfl rfl ?_
  intro s hs
  refine PC.seq ?_
  refine PC.region ?_
  refine PL.op rfl (Rd.asnT rfl) ?_
  refine PL.nil ?_
  refine thA_n ?_
  refine PC.seq ?_
  refine PC.seq ?_
  refine PC.region ?_
  refine PL.op rfl (Rd.moveT rfl) ?_
  refine PL.op rfl (Rd.lenT rfl) ?_
  refine PL.op rfl (Rd.moveT rfl) ?_
  refine PL.op rfl (Rd.lenT rfl) ?_
  refine PL.op rfl (Rd.neq rfl rfl) ?_
  refine PL.nil ?_
  refine thA_n ?_
  rcases cond_some hh0 with ⟨h_1, hh0⟩ | ⟨h_1, hh0⟩
  rotate_left
  · refine PC.cond_true rfl (not_f h_1) ?_
    refine PC.seq ?_
    refine PC.region ?_
    refine PL.op rfl (Rd.asnT rfl) ?_
    refine PL.nil ?_
    refine thA_n ?_
    refine PC.ret ?_
    refine thA_r ?_
    obtain rfl := some_in hh0
    exact FinA.mk (r := bA false) (bl := []) [] (.inl rfl) rfl (rl := [.tmp 4]) (.tmp .nil) rfl rfl rfl (.t _) trivial ⟨rfl, rfl⟩
  refine PC.cond_false rfl (not_t h_1) ?_
  refine PC.skip ?_
  refine thA_n ?_
  refine PC.seq ?_
  refine PC.seq ?_
  refine PC.region ?_
  refine PL.op rfl (Rd.asnT rfl) ?_
  refine PL.nil ?_
  refine thA_n ?_
  obtain ⟨o13, h_14, hh0⟩ := bind_some hh0
  refine PC.cutE hs (fun x : Unit => []) (fun x => []) (fun x => m_L_eqFrameS_k1 N  = some r) ?_ ?_
  · refine PC.block ?_
    refine PC.loop hs (fun x : Nat × (Int) => [(0, sL p_a), (1, sL p_b), (5, iA x.2)]) (fun x => []) (fun x => loopM (β := Unit ⊕ Bool) (fun s : Int => m_L_eqFrameS_b1 N p_a p_b s) x.1 x.2 = some o13) (fun x => x.1) (N, (0 : Int)) [] ⟨rfl, rfl, trivial, ⟨.t _, .t _, .t _, trivial⟩⟩ h_14 ?_
    rintro ⟨f15_, i2⟩ h_17
    obtain ⟨f15, y16, rfl, hh1, kk1⟩ := loopM_some h_17
    replace hh1 : m_L_eqFrameS_b1 N p_a p_b i2 = some y16 := hh1
    unfold m_L_eqFrameS_b1 at hh1
    refine PC.seq ?_
    refine PC.seq ?_
    refine PC.region ?_
    refine PL.op rfl (Rd.moveT rfl) ?_
    refine PL.op rfl (Rd.moveT rfl) ?_
    refine PL.op rfl (Rd.lenT rfl) ?_
    refine PL.op rfl (Rd.lss rfl rfl) ?_
    refine PL.nil ?_
    refine thA_n ?_
    rcases cond_some hh1 with ⟨h_18, hh1⟩ | ⟨h_18, hh1⟩
    rotate_left
    · refine PC.cond_false rfl h_18 ?_
      refine PC.exit ?_
      refine thA_e ?_
      refine thA_e ?_
      refine inA_eq rfl ?_
      refine thA_n ?_
      obtain rfl := some_in hh1
      obtain rfl : (.inl () : Unit ⊕ Bool) = o13 := kk1
      exact ⟨(), hh0, [], ⟨rfl, rfl, trivial, trivial⟩⟩
    refine PC.cond_true rfl h_18 ?_
    refine PC.skip ?_
    refine thA_n ?_
    refine PC.seq ?_
    refine PC.block ?_
    refine PC.seq ?_
    obtain ⟨x19, h_20, hh1⟩ := bind_some hh1
    obtain ⟨x21, h_22, hh1⟩ := bind_some hh1
    obtain ⟨r23, h_24, hh1⟩ := bind_some hh1
    refine PC.any (id := 6) 10 (.seg [0, 1, 2, 3, 4, 5, 6, 7, 8, 9] .done) [] rfl (by kernel_rfl) rfl ?_
    refine PT.seg ?_
    refine PR.op rfl (Rd.moveT rfl) ?_
    refine PR.op rfl (Rd.moveT rfl) ?_
    refine PR.op rfl (Rd.ixM rfl rfl h_20) ?_
    refine PR.op rfl (Rd.elMR rfl h_20 rfl rfl) ?_
    refine PR.op rfl (Rd.moveT rfl) ?_
    refine PR.op rfl (Rd.moveT rfl) ?_
    refine PR.op rfl (Rd.ixM rfl rfl h_22) ?_
    refine PR.op rfl (Rd.elMR rfl h_22 rfl rfl) ?_
    refine PR.callM false [] (w_L_eqFrame N x19 x21 r23 h_24) rfl Try.call48 rfl ⟨.aggL ⟨.t _, .t _, .t _, .t _, trivial⟩, .aggL ⟨.t _, .t _, .t _, .t _, trivial⟩, trivial⟩ rfl trivial (fun h => by cases h) rfl ?_
    refine PR.op rfl (Rd.unnot rfl) ?_
    refine PR.nil ?_
    refine PT.done ?_
    refine PL.nil ?_
    refine thA_n ?_
    rcases cond_some hh1 with ⟨h_25, hh1⟩ | ⟨h_25, hh1⟩
    · refine PC.cond_false rfl (not_t h_25) ?_
      refine PC.skip ?_
      refine inA_n ?_
      refine thA_n ?_
      obtain ⟨n26, h_27, hh1⟩ := bind_some hh1
      refine PC.region ?_
      refine PL.op rfl (Rd.moveT rfl) ?_
      refine PL.op rfl (Rd.addM rfl rfl h_27) ?_
      refine PL.op rfl (Rd.asnT rfl) ?_
      refine PL.nil ?_
      obtain rfl := some_in hh1
      refine thA_n ?_
      exact ⟨(f15, n26), Nat.lt_succ_self _, kk1, [], ⟨rfl, rfl, trivial, ⟨.t _, .t _, .t _, trivial⟩⟩⟩
    refine PC.cond_true rfl (not_f h_25) ?_
    refine PC.seq ?_
    refine PC.region ?_
    refine PL.op rfl (Rd.asnT rfl) ?_
    refine PL.nil ?_
    refine thA_n ?_
    refine PC.ret ?_
    refine inA_r ?_
    refine thA_r ?_
    refine thA_r ?_
    refine inA_r ?_
    refine thA_r ?_
    obtain rfl := some_in hh1
    obtain rfl : (.inr false : Unit ⊕ Bool) = o13 := kk1
    refine thA_r ?_
    obtain rfl := some_in hh0
    exact FinA.mk (r := bA false) (bl := []) [] (.inl rfl) rfl (rl := [.tmp 4]) (.tmp .nil) rfl rfl rfl (.t _) trivial ⟨rfl, rfl⟩
  clear hh0
  rintro ⟨⟩ hh0
  replace hh0 : m_L_eqFrameS_k1 N  = some r := hh0
  unfold m_L_eqFrameS_k1 at hh0
  refine thA_n ?_
  refine PC.seq ?_
  refine PC.region ?_
  refine PL.op rfl (Rd.asnT rfl) ?_
  refine PL.nil ?_
  refine thA_n ?_
  refine PC.ret ?_
  obtain rfl := some_in hh0
  exact FinA.mk (r := bA true) (bl := []) [] (.inl rfl) rfl (rl := [.tmp 4]) (.tmp .nil) rfl rfl rfl (.t _) trivial ⟨rfl, rfl⟩

def m_L_eqBuffer (N : Nat) (p_a : I_Buffer) (p_b : I_Buffer) : Option (Bool) :=
  (m_L_eqFrameS N p_a.frames p_b.frames).bind fun r1 =>
  cond r1
    (cond (decide (p_a.forced = p_b.forced))
      (some true)
      (some false))
    (some false)
theorem w_L_eqBuffer (N : Nat) (p_a : I_Buffer) (p_b : I_Buffer) (r : Bool) (hh0 : m_L_eqBuffer N p_a p_b = some r) : FnX Try.prog 15 [] [.agg [sL p_a.frames, iA p_a.forced], .agg [sL p_b.frames, iA p_b.forced]] (RE (bA r) []) := by
  unfold m_L_eqBuffer at hh0
  refine FnX.mk Try.func15 rfl rfl ?_
  intro s hs
  refine PC.seq ?_
  refine PC.region ?_
  refine PL.ef rfl (Ef.box rfl rfl rfl) ?_
  refine PL.nm (.op 0 0) [some ⟨.mx [sL p_a.frames, iA p_a.forced], 28, 0⟩] rfl rfl ?_
  refine PL.ef rfl (Ef.box rfl rfl rfl) ?_
  refine PL.nm (.op 1 0) [some ⟨.mx [sL p_a.frames, iA p_a.forced], 28, 0⟩, some ⟨.mx [sL p_b.frames, iA p_b.forced], 28, 0⟩] rfl rfl ?_
  refine PL.op rfl (Rd.asnT rfl) ?_
  refine PL.nil ?_
  refine thA_n ?_
  refine PC.seq ?_
  refine PC.seq ?_
  obtain ⟨r1, h_2, hh0⟩ := bind_some hh0
  refine PC.region ?_
  refine PL.op rfl (Rd.fieldO rfl rfl) ?_
  refine PL.op rfl (Rd.loadO rfl rfl rfl) ?_
  refine PL.op rfl (Rd.fieldO rfl rfl) ?_
  refine PL.op rfl (Rd.loadO rfl rfl rfl) ?_
  refine PL.callM false [] (w_L_eqFrameS N p_a.frames p_b.frames r1 h_2) rfl Try.call34 rfl ⟨.t _, .t _, trivial⟩ rfl trivial (fun h => by cases h) ?_
  refine PL.op rfl (Rd.unnot rfl) ?_
  refine PL.nil ?_
  refine thA_n ?_
  rcases cond_some hh0 with ⟨h_3, hh0⟩ | ⟨h_3, hh0⟩
  rotate_left
  · refine PC.cond_true rfl (not_f h_3) ?_
    refine PC.seq ?_
    refine PC.region ?_
    refine PL.op rfl (Rd.asnT rfl) ?_
    refine PL.nil ?_
    refine thA_n ?_
    refine PC.ret ?_
    refine thA_r ?_
    obtain rfl := some_in hh0
    exact FinA.mk (r := bA false) (bl := []) [] (.inl rfl) rfl (rl := [.tmp 4]) (.tmp .nil) rfl rfl rfl (.t _) trivial ⟨rfl, rfl⟩
  refine PC.cond_false rfl (not_t h_3) ?_
  refine PC.skip ?_
  refine thA_n ?_
  refine PC.seq ?_
  refine PC.seq ?_
  refine PC.region ?_
  refine PL.op rfl (Rd.fieldO rfl rfl) ?_
  refine PL.op rfl (Rd.loadO rfl rfl rfl) ?_
  refine PL.op rfl (Rd.fieldO rfl rfl) ?_
  refine PL.op rfl (Rd.loadO rfl rfl rfl) ?_
  refine PL.op rfl (Rd.neq rfl rfl) ?_
  refine PL.nil ?_
  refine thA_n ?_
  rcases cond_some hh0 with ⟨h_4, hh0⟩ | ⟨h_4, hh0⟩
  rotate_left
  · refine PC.cond_true rfl (not_f h_4) ?_
    refine PC.seq ?_
    refine PC.region ?_
    refine PL.op rfl (Rd.asnT rfl) ?_
    refine PL.nil ?_
    refine thA_n ?_
    refine PC.ret ?_
    refine thA_r ?_
    obtain rfl := some_in hh0
    exact FinA.mk (r := bA false) (bl := []) [] (.inl rfl) rfl (rl := [.tmp 4]) (.tmp .nil) rfl rfl rfl (.t _) trivial ⟨rfl, rfl⟩
  refine PC.cond_false rfl (not_t h_4) ?_
  refine PC.skip ?_
  refine thA_n ?_
  refine PC.seq ?_
  refine PC.region ?_
  refine PL.op rfl (Rd.asnT rfl) ?_
  refine PL.nil ?_
  refine thA_n ?_
  refine PC.ret ?_
  obtain rfl := some_in hh0
  exact FinA.mk (r := bA true) (bl := []) [] (.inl rfl) rfl (rl := [.tmp 4]) (.tmp .nil) rfl rfl rfl (.t _) trivial ⟨rfl, rfl⟩

def m_L_markFrameS_k1 (N : Nat) (k19 : Int) (v20 : (List I_Frame)) : Option (Int × (List I_Frame)) :=
  some (k19, v20)
def m_L_markFrameS_b1 (N : Nat) (k1 : Int) (i2 : Int) (v3 : (List I_Frame)) : Option ((Int × Int × (List I_Frame)) ⊕ (Int × (List I_Frame))) :=
  cond (decide (i2 < (v3.length : Int)))
    ((ixI v3 i2).bind fun x27 =>
    (chk (k1 + (1 : Int))).bind fun n29 =>
    (remM n29 (3 : Int)).bind fun n31 =>
    (chk (n29 + (1 : Int))).bind fun n33 =>
    (chk (n33 + (1 : Int))).bind fun n35 =>
    (chk (n35 + (1 : Int))).bind fun n37 =>
    (chk (i2 + (1 : Int))).bind fun n39 =>
    some (.inl (n37, n39, ((((v3.set i2.toNat (I_Frame.mk k1 x27.dirty x27.first x27.last)).set i2.toNat (I_Frame.mk k1 (decide (n31 = (0 : Int))) x27.first x27.last)).set i2.toNat (I_Frame.mk k1 (decide (n31 = (0 : Int))) n33 x27.last)).set i2.toNat (I_Frame.mk k1 (decide (n31 = (0 : Int))) n33 n35)))))
    (some (.inr (k1, v3)))
def m_L_markFrameS (N : Nat) (p_a : (List I_Frame)) (p_k : Int) : Option (Int × (List I_Frame)) :=
  (loopM (β := Int × (List I_Frame)) (fun s : Int × Int × (List I_Frame) => m_L_markFrameS_b1 N s.1 s.2.1 s.2.2) N (p_k, (0 : Int), p_a)).bind fun e =>
  m_L_markFrameS_k1 N e.1 e.2
theorem w_L_markFrameS (N : Nat) (p_a : (List I_Frame)) (p_k : Int) (r : Int × (List I_Frame)) (hh0 : m_L_markFrameS N p_a p_k = some r) : FnX Try.prog 35 [⟨.tr (eL p_a), 59, 4⟩] [.os 0 0 p_a.length, iA p_k] (RE (iA r.1) [⟨.tr (eL r.2), 59, 4⟩]) := by
  unfold m_L_markFrameS at hh0
  refine FnX.mk Try.func35 rfl rfl ?_
  intro s hs
  refine PC.seq ?_
  refine PC.region ?_
  refine PL.op rfl (Rd.asnT rfl) ?_
  refine PL.nil ?_
  refine thA_n ?_
  refine PC.seq ?_
  refine PC.seq ?_
  refine PC.region ?_
  refine PL.op rfl (Rd.asnT rfl) ?_
  refine PL.nil ?_
  refine thA_n ?_
  obtain ⟨o21, h_22, hh0⟩ := bind_some hh0
  refine PC.cutE hs (fun x : Int × (List I_Frame) => [(1, iA x.1)]) (fun x => [⟨.tr (eL x.2), 59, 4⟩]) (fun x => m_L_markFrameS_k1 N x.1 x.2 = some r) ?_ ?_
  · refine PC.block ?_
    refine PC.loop hs (fun x : Nat × (Int × Int × (List I_Frame)) => [(0, .os 0 0 x.2.2.2.length), (1, iA x.2.1), (5, iA x.2.2.1)]) (fun x => [⟨.tr (eL x.2.2.2), 59, 4⟩]) (fun x => loopM (β := Int × (List I_Frame)) (fun s : Int × Int × (List I_Frame) => m_L_markFrameS_b1 N s.1 s.2.1 s.2.2) x.1 x.2 = some o21) (fun x => x.1) (N, (p_k, (0 : Int), p_a)) [some 0] ⟨rfl, rfl, ⟨⟨_, rfl, rfl, rfl, .tr _⟩, trivial⟩, ⟨.os rfl, .t _, .t _, trivial⟩⟩ h_22 ?_
    rintro ⟨f23_, k1, i2, v3⟩ h_25
    obtain ⟨f23, y24, rfl, hh1, kk1⟩ := loopM_some h_25
    replace hh1 : m_L_markFrameS_b1 N k1 i2 v3 = some y24 := hh1
    unfold m_L_markFrameS_b1 at hh1
    refine PC.seq ?_
    refine PC.seq ?_
    refine PC.region ?_
    refine PL.op rfl (Rd.moveT rfl) ?_
    refine PL.op rfl (Rd.moveO rfl) ?_
    refine PL.op rfl (Rd.lenO rfl rfl) ?_
    refine PL.op rfl (Rd.lss rfl rfl) ?_
    refine PL.nil ?_
    refine thA_n ?_
    rcases cond_some hh1 with ⟨h_26, hh1⟩ | ⟨h_26, hh1⟩
    rotate_left
    · refine PC.cond_false rfl h_26 ?_
      refine PC.exit ?_
      refine thA_e ?_
      refine thA_e ?_
      refine inA_eq rfl ?_
      refine thA_n ?_
      obtain rfl := some_in hh1
      obtain rfl : ((k1, v3) : Int × (List I_Frame)) = o21 := kk1
      exact ⟨(k1, v3), hh0, [some 0], ⟨rfl, rfl, ⟨⟨_, rfl, rfl, rfl, .tr _⟩, trivial⟩, ⟨.t _, trivial⟩⟩⟩
    refine PC.cond_true rfl h_26 ?_
    refine PC.skip ?_
    refine thA_n ?_
    refine PC.seq ?_
    refine PC.block ?_
    refine PC.seq ?_
    obtain ⟨x27, h_28, hh1⟩ := bind_some hh1
    refine PC.region ?_
    refine PL.op rfl (Rd.moveO rfl) ?_
    refine PL.op rfl (Rd.moveT rfl) ?_
    refine PL.op rfl (Rd.moveT rfl) ?_
    refine PL.op rfl (Rd.ixOM rfl rfl rfl (ixI_lt h_28)) ?_
    refine PL.op rfl (Rd.fieldO rfl rfl) ?_
    refine PL.stFM (f := 0) (I_Frame.mk k1 x27.dirty x27.first x27.last) rfl rfl rfl rfl h_28 rfl rfl ?_
    refine PL.nO [some ⟨.tr (eL (v3.set i2.toNat (I_Frame.mk k1 x27.dirty x27.first x27.last))), 59, 4⟩] rfl ?_
    refine PL.nil ?_
    refine thA_n ?_
    refine PC.seq ?_
    obtain ⟨n29, h_30, hh1⟩ := bind_some hh1
    refine PC.region ?_
    refine PL.op rfl (Rd.moveT rfl) ?_
    refine PL.op rfl (Rd.addM rfl rfl h_30) ?_
    refine PL.op rfl (Rd.asnT rfl) ?_
    refine PL.nil ?_
    refine thA_n ?_
    refine PC.seq ?_
    obtain ⟨n31, h_32, hh1⟩ := bind_some hh1
    refine PC.region ?_
    refine PL.op rfl (Rd.moveO rfl) ?_
    refine PL.op rfl (Rd.moveT rfl) ?_
    refine PL.op rfl (Rd.moveT rfl) ?_
    refine PL.op rfl (Rd.remM rfl rfl h_32) ?_
    refine PL.op rfl (Rd.eql rfl rfl) ?_
    refine PL.op rfl (Rd.ixOM rfl rfl rfl (by have hq := ixI_lt (ixI_set (y := (I_Frame.mk k1 x27.dirty x27.first x27.last)) h_28); simp only [List.length_set] at hq ⊢; exact hq)) ?_
    refine PL.op rfl (Rd.fieldO rfl rfl) ?_
    refine PL.stFM (f := 1) (I_Frame.mk k1 (decide (n31 = (0 : Int))) x27.first x27.last) rfl rfl rfl rfl (ixI_set (y := (I_Frame.mk k1 x27.dirty x27.first x27.last)) h_28) rfl rfl ?_
    refine PL.nO [some ⟨.tr (eL ((v3.set i2.toNat (I_Frame.mk k1 x27.dirty x27.first x27.last)).set i2.toNat (I_Frame.mk k1 (decide (n31 = (0 : Int))) x27.first x27.last))), 59, 4⟩] rfl ?_
    refine PL.nil ?_
    refine thA_n ?_
    refine PC.seq ?_
    obtain ⟨n33, h_34, hh1⟩ := bind_some hh1
    refine PC.region ?_
    refine PL.op rfl (Rd.moveT rfl) ?_
    refine PL.op rfl (Rd.addM rfl rfl h_34) ?_
    refine PL.op rfl (Rd.asnT rfl) ?_
    refine PL.nil ?_
    refine thA_n ?_
    refine PC.seq ?_
    refine PC.region ?_
    refine PL.op rfl (Rd.moveO rfl) ?_
    refine PL.op rfl (Rd.moveT rfl) ?_
    refine PL.op rfl (Rd.moveT rfl) ?_
    refine PL.op rfl (Rd.ixOM rfl rfl rfl (by have hq := ixI_lt (ixI_set (y := (I_Frame.mk k1 (decide (n31 = (0 : Int))) x27.first x27.last)) (ixI_set (y := (I_Frame.mk k1 x27.dirty x27.first x27.last)) h_28)); simp only [List.length_set] at hq ⊢; exact hq)) ?_
    refine PL.op rfl (Rd.fieldO rfl rfl) ?_
    refine PL.stFM (f := 2) (I_Frame.mk k1 (decide (n31 = (0 : Int))) n33 x27.last) rfl rfl rfl rfl (ixI_set (y := (I_Frame.mk k1 (decide (n31 = (0 : Int))) x27.first x27.last)) (ixI_set (y := (I_Frame.mk k1 x27.dirty x27.first x27.last)) h_28)) rfl rfl ?_
    refine PL.nO [some ⟨.tr (eL (((v3.set i2.toNat (I_Frame.mk k1 x27.dirty x27.first x27.last)).set i2.toNat (I_Frame.mk k1 (decide (n31 = (0 : Int))) x27.first x27.last)).set i2.toNat (I_Frame.mk k1 (decide (n31 = (0 : Int))) n33 x27.last))), 59, 4⟩] rfl ?_
    refine PL.nil ?_
    refine thA_n ?_
    refine PC.seq ?_
    obtain ⟨n35, h_36, hh1⟩ := bind_some hh1
    refine PC.region ?_
    refine PL.op rfl (Rd.moveT rfl) ?_
    refine PL.op rfl (Rd.addM rfl rfl h_36) ?_
    refine PL.op rfl (Rd.asnT rfl) ?_
    refine PL.nil ?_
    refine thA_n ?_
    refine PC.seq ?_
    refine PC.region ?_
    refine PL.op rfl (Rd.moveO rfl) ?_
    refine PL.op rfl (Rd.moveT rfl) ?_
    refine PL.op rfl (Rd.moveT rfl) ?_
    refine PL.op rfl (Rd.ixOM rfl rfl rfl (by have hq := ixI_lt (ixI_set (y := (I_Frame.mk k1 (decide (n31 = (0 : Int))) n33 x27.last)) (ixI_set (y := (I_Frame.mk k1 (decide (n31 = (0 : Int))) x27.first x27.last)) (ixI_set (y := (I_Frame.mk k1 x27.dirty x27.first x27.last)) h_28))); simp only [List.length_set] at hq ⊢; exact hq)) ?_
    refine PL.op rfl (Rd.fieldO rfl rfl) ?_
    refine PL.stFM (f := 3) (I_Frame.mk k1 (decide (n31 = (0 : Int))) n33 n35) rfl rfl rfl rfl (ixI_set (y := (I_Frame.mk k1 (decide (n31 = (0 : Int))) n33 x27.last)) (ixI_set (y := (I_Frame.mk k1 (decide (n31 = (0 : Int))) x27.first x27.last)) (ixI_set (y := (I_Frame.mk k1 x27.dirty x27.first x27.last)) h_28))) rfl rfl ?_
    refine PL.nO [some ⟨.tr (eL ((((v3.set i2.toNat (I_Frame.mk k1 x27.dirty x27.first x27.last)).set i2.toNat (I_Frame.mk k1 (decide (n31 = (0 : Int))) x27.first x27.last)).set i2.toNat (I_Frame.mk k1 (decide (n31 = (0 : Int))) n33 x27.last)).set i2.toNat (I_Frame.mk k1 (decide (n31 = (0 : Int))) n33 n35))), 59, 4⟩] rfl ?_
    refine PL.nil ?_
    refine thA_n ?_
    obtain ⟨n37, h_38, hh1⟩ := bind_some hh1
    refine PC.region ?_
    refine PL.op rfl (Rd.moveT rfl) ?_
    refine PL.op rfl (Rd.addM rfl rfl h_38) ?_
    refine PL.op rfl (Rd.asnT rfl) ?_
    refine PL.nil ?_
    refine inA_n ?_
    refine thA_n ?_
    obtain ⟨n39, h_40, hh1⟩ := bind_some hh1
    refine PC.region ?_
    refine PL.op rfl (Rd.moveT rfl) ?_
    refine PL.op rfl (Rd.addM rfl rfl h_40) ?_
    refine PL.op rfl (Rd.asnT rfl) ?_
    refine PL.nil ?_
    obtain rfl := some_in hh1
    refine thA_n ?_
    exact ⟨(f23, (n37, n39, ((((v3.set i2.toNat (I_Frame.mk k1 x27.dirty x27.first x27.last)).set i2.toNat (I_Frame.mk k1 (decide (n31 = (0 : Int))) x27.first x27.last)).set i2.toNat (I_Frame.mk k1 (decide (n31 = (0 : Int))) n33 x27.last)).set i2.toNat (I_Frame.mk k1 (decide (n31 = (0 : Int))) n33 n35)))), Nat.lt_succ_self _, kk1, [some 0], ⟨rfl, rfl, ⟨⟨_, rfl, rfl, rfl, .tr _⟩, trivial⟩, ⟨.osE rfl (by simp only [List.length_set]), .t _, .t _, trivial⟩⟩⟩
  clear hh0
  rintro ⟨k19, v20⟩ hh0
  replace hh0 : m_L_markFrameS_k1 N k19 v20 = some r := hh0
  unfold m_L_markFrameS_k1 at hh0
  refine thA_n ?_
  refine PC.seq ?_
  refine PC.region ?_
  refine PL.op rfl (Rd.moveT rfl) ?_
  refine PL.op rfl (Rd.asnT rfl) ?_
  refine PL.nil ?_
  refine thA_n ?_
  refine PC.ret ?_
  obtain rfl := some_in hh0
  exact FinA.mk (r := iA ((k19, v20).1)) (bl := [⟨.tr (eL ((k19, v20).2)), 59, 4⟩]) [some 0] (.inl rfl) rfl (rl := [.tmp 4]) (.tmp .nil) rfl rfl rfl (.t _) ⟨⟨_, rfl, rfl, rfl, .tr _⟩, trivial⟩ ⟨rfl, rfl⟩

def m_L_markBuffer (N : Nat) (p_a : I_Buffer) (p_k : Int) : Option (Int × (List I_Frame)) :=
  (m_L_markFrameS N p_a.frames p_k).bind fun r1 =>
  some (r1.1, r1.2)
theorem w_L_markBuffer (N : Nat) (p_a : I_Buffer) (p_k : Int) (r : Int × (List I_Frame)) (hh0 : m_L_markBuffer N p_a p_k = some r) : FnX Try.prog 16 [⟨.tr (eL p_a.frames), 59, 4⟩] [.agg [.os 0 0 p_a.frames.length, iA p_a.forced], iA p_k] (RE (iA r.1) [⟨.tr (eL r.2), 59, 4⟩]) := by
  unfold m_L_markBuffer at hh0
  refine FnX.mk Try.func16 rfl rfl ?_
  intro s hs
  refine PC.seq ?_
  refine PC.region ?_
  refine PL.ef rfl (Ef.box rfl rfl rfl) ?_
  refine PL.nm (.op 1 0) [some ⟨.tr (eL p_a.frames), 59, 4⟩, some ⟨.mx [.os 0 0 p_a.frames.length, iA p_a.forced], 28, 0⟩] rfl rfl ?_
  refine PL.op rfl (Rd.asnT rfl) ?_
  refine PL.nil ?_
  refine thA_n ?_
  refine PC.seq ?_
  obtain ⟨r1, h_2, hh0⟩ := bind_some hh0
  refine PC.region ?_
  refine PL.op rfl (Rd.fieldO rfl rfl) ?_
  refine PL.op rfl (Rd.loadO rfl rfl rfl) ?_
  refine PL.op rfl (Rd.moveT rfl) ?_
  refine PL.callM false [0] (w_L_markFrameS N p_a.frames p_k r1 h_2) rfl Try.call35 rfl ⟨.os rfl, .t _, trivial⟩ rfl ⟨⟨_, rfl, rfl, rfl, .tr _⟩, trivial⟩ (fun h => by cases h) ?_
  refine PL.nm (iA r1.1) [some ⟨.tr (eL r1.2), 59, 4⟩, some ⟨.mx [.os 0 0 p_a.frames.length, iA p_a.forced], 28, 0⟩] rfl rfl ?_
  refine PL.op rfl (Rd.asnT rfl) ?_
  refine PL.nil ?_
  refine thA_n ?_
  refine PC.seq ?_
  refine PC.region ?_
  refine PL.op rfl (Rd.moveT rfl) ?_
  refine PL.op rfl (Rd.asnT rfl) ?_
  refine PL.nil ?_
  refine thA_n ?_
  refine PC.ret ?_
  obtain rfl := some_in hh0
  exact FinA.mk (r := iA ((r1.1, r1.2).1)) (bl := [⟨.tr (eL ((r1.1, r1.2).2)), 59, 4⟩]) [some 0] (.inl rfl) rfl (rl := [.tmp 4]) (.tmp .nil) rfl rfl rfl (.t _) ⟨⟨_, rfl, rfl, rfl, .tr _⟩, trivial⟩ ⟨rfl, rfl⟩

def m_L_heldFrameS_k1 (N : Nat) (k28 : Int) : Option (Int) :=
  some k28
def m_L_heldFrameS_b1 (N : Nat) (p_a : (List I_Frame)) (k1 : Int) (i2 : Int) : Option ((Int × Int) ⊕ (Int ⊕ Int)) :=
  cond (decide (i2 < (p_a.length : Int)))
    ((ixI p_a i2).bind fun x35 =>
    cond (decide (x35.page = k1))
      ((chk (k1 + (1 : Int))).bind fun n38 =>
      (ixI p_a i2).bind fun x40 =>
      (remM n38 (3 : Int)).bind fun n42 =>
      cond (x40.dirty == (decide (n42 = (0 : Int))))
        ((chk (n38 + (1 : Int))).bind fun n45 =>
        (ixI p_a i2).bind fun x47 =>
        cond (decide (x47.first = n45))
          ((chk (n45 + (1 : Int))).bind fun n50 =>
          (ixI p_a i2).bind fun x52 =>
          cond (decide (x52.last = n50))
            ((chk (n50 + (1 : Int))).bind fun n55 =>
            (chk (i2 + (1 : Int))).bind fun n57 =>
            some (.inl (n55, n57)))
            (some (.inr (.inr (-1 : Int)))))
          (some (.inr (.inr (-1 : Int)))))
        (some (.inr (.inr (-1 : Int)))))
      (some (.inr (.inr (-1 : Int)))))
    (some (.inr (.inl k1)))
def m_L_heldFrameS (N : Nat) (p_a : (List I_Frame)) (p_k : Int) : Option (Int) :=
  (loopM (β := Int ⊕ Int) (fun s : Int × Int => m_L_heldFrameS_b1 N p_a s.1 s.2) N (p_k, (0 : Int))).bind fun o => match o with
  | .inl e =>
    m_L_heldFrameS_k1 N e
  | .inr v =>
    some v
theorem w_L_heldFrameS (N : Nat) (p_a : (List I_Frame)) (p_k : Int) (r : Int) (hh0 : m_L_heldFrameS N p_a p_k = some r) : FnX Try.prog 36 [] [sL p_a, iA p_k] (RE (iA r) []) := by
  unfold m_L_heldFrameS at hh0
  refine FnX.mk Try.func36 rfl rfl ?_
  intro s hs
  refine PC.seq ?_
  refine PC.region ?_
  refine PL.op rfl (Rd.asnT rfl) ?_
  refine PL.nil ?_
  refine thA_n ?_
  refine PC.seq ?_
  refine PC.seq ?_
  refine PC.region ?_
  refine PL.op rfl (Rd.asnT rfl) ?_
  refine PL.nil ?_
  refine thA_n ?_
  obtain ⟨o29, h_30, hh0⟩ := bind_some hh0
  refine PC.cutE hs (fun x : Int => [(1, iA x)]) (fun x => []) (fun x => m_L_heldFrameS_k1 N x = some r) ?_ ?_
  · refine PC.block ?_
    refine PC.loop hs (fun x : Nat × (Int × Int) => [(0, sL p_a), (1, iA x.2.1), (5, iA x.2.2)]) (fun x => []) (fun x => loopM (β := Int ⊕ Int) (fun s : Int × Int => m_L_heldFrameS_b1 N p_a s.1 s.2) x.1 x.2 = some o29) (fun x => x.1) (N, (p_k, (0 : Int))) [] ⟨rfl, rfl, trivial, ⟨.t _, .t _, .t _, trivial⟩⟩ h_30 ?_
    rintro ⟨f31_, k1, i2⟩ h_33
    obtain ⟨f31, y32, rfl, hh1, kk1⟩ := loopM_some h_33
    replace hh1 : m_L_heldFrameS_b1 N p_a k1 i2 = some y32 := hh1
    unfold m_L_heldFrameS_b1 at hh1
    refine PC.seq ?_
    refine PC.seq ?_
    refine PC.region ?_
    refine PL.op rfl (Rd.moveT rfl) ?_
    refine PL.op rfl (Rd.moveT rfl) ?_
    refine PL.op rfl (Rd.lenT rfl) ?_
    refine PL.op rfl (Rd.lss rfl rfl) ?_
    refine PL.nil ?_
    refine thA_n ?_
    rcases cond_some hh1 with ⟨h_34, hh1⟩ | ⟨h_34, hh1⟩
    rotate_left
    · refine PC.cond_false rfl h_34 ?_
      refine PC.exit ?_
      refine thA_e ?_
      refine thA_e ?_
      refine inA_eq rfl ?_
      refine thA_n ?_
      obtain rfl := some_in hh1
      obtain rfl : (.inl k1 : Int ⊕ Int) = o29 := kk1
      exact ⟨k1, hh0, [], ⟨rfl, rfl, trivial, ⟨.t _, trivial⟩⟩⟩
    refine PC.cond_true rfl h_34 ?_
    refine PC.skip ?_
    refine thA_n ?_
    refine PC.seq ?_
    refine PC.block ?_
    refine PC.seq ?_
    refine PC.seq ?_
    obtain ⟨x35, h_36, hh1⟩ := bind_some hh1
    refine PC.region ?_
    refine PL.op rfl (Rd.moveT rfl) ?_
    refine PL.op rfl (Rd.moveT rfl) ?_
    refine PL.op rfl (Rd.ixM rfl rfl h_36) ?_
    refine PL.op rfl (Rd.fieldT rfl) ?_
    refine PL.op rfl (Rd.elMF (f := 0) rfl h_36 rfl rfl) ?_
    refine PL.op rfl (Rd.moveT rfl) ?_
    refine PL.op rfl (Rd.neq rfl rfl) ?_
    refine PL.nil ?_
    refine thA_n ?_
    rcases cond_some hh1 with ⟨h_37, hh1⟩ | ⟨h_37, hh1⟩
    rotate_left
    · refine PC.cond_true rfl (not_f h_37) ?_
      refine PC.seq ?_
      refine PC.region ?_
      refine PL.op rfl (Rd.asnT rfl) ?_
      refine PL.nil ?_
      refine thA_n ?_
      refine PC.ret ?_
      refine thA_r ?_
      refine inA_r ?_
      refine thA_r ?_
      refine thA_r ?_
      refine inA_r ?_
      refine thA_r ?_
      obtain rfl := some_in hh1
      obtain rfl : (.inr (-1 : Int) : Int ⊕ Int) = o29 := kk1
      refine thA_r ?_
      obtain rfl := some_in hh0
      exact FinA.mk (r := iA (-1 : Int)) (bl := []) [] (.inl rfl) rfl (rl := [.tmp 4]) (.tmp .nil) rfl rfl rfl (.t _) trivial ⟨rfl, rfl⟩
    refine PC.cond_false rfl (not_t h_37) ?_
    refine PC.skip ?_
    refine thA_n ?_
    refine PC.seq ?_
    obtain ⟨n38, h_39, hh1⟩ := bind_some hh1
    refine PC.region ?_
    refine PL.op rfl (Rd.moveT rfl) ?_
    refine PL.op rfl (Rd.addM rfl rfl h_39) ?_
    refine PL.op rfl (Rd.asnT rfl) ?_
    refine PL.nil ?_
    refine thA_n ?_
    refine PC.seq ?_
    refine PC.seq ?_
    obtain ⟨x40, h_41, hh1⟩ := bind_some hh1
    obtain ⟨n42, h_43, hh1⟩ := bind_some hh1
    refine PC.region ?_
    refine PL.op rfl (Rd.moveT rfl) ?_
    refine PL.op rfl (Rd.moveT rfl) ?_
    refine PL.op rfl (Rd.ixM rfl rfl h_41) ?_
    refine PL.op rfl (Rd.fieldT rfl) ?_
    refine PL.op rfl (Rd.elMF (f := 1) rfl h_41 rfl rfl) ?_
    refine PL.op rfl (Rd.moveT rfl) ?_
    refine PL.op rfl (Rd.remM rfl rfl h_43) ?_
    refine PL.op rfl (Rd.eql rfl rfl) ?_
    refine PL.op rfl (Rd.neqB rfl rfl) ?_
    refine PL.nil ?_
    refine thA_n ?_
    rcases cond_some hh1 with ⟨h_44, hh1⟩ | ⟨h_44, hh1⟩
    rotate_left
    · refine PC.cond_true rfl (not_f h_44) ?_
      refine PC.seq ?_
      refine PC.region ?_
      refine PL.op rfl (Rd.asnT rfl) ?_
      refine PL.nil ?_
      refine thA_n ?_
      refine PC.ret ?_
      refine thA_r ?_
      refine inA_r ?_
      refine thA_r ?_
      refine thA_r ?_
      refine inA_r ?_
      refine thA_r ?_
      obtain rfl := some_in hh1
      obtain rfl : (.inr (-1 : Int) : Int ⊕ Int) = o29 := kk1
      refine thA_r ?_
      obtain rfl := some_in hh0
      exact FinA.mk (r := iA (-1 : Int)) (bl := []) [] (.inl rfl) rfl (rl := [.tmp 4]) (.tmp .nil) rfl rfl rfl (.t _) trivial ⟨rfl, rfl⟩
    refine PC.cond_false rfl (not_t h_44) ?_
    refine PC.skip ?_
    refine thA_n ?_
    refine PC.seq ?_
    obtain ⟨n45, h_46, hh1⟩ := bind_some hh1
    refine PC.region ?_
    refine PL.op rfl (Rd.moveT rfl) ?_
    refine PL.op rfl (Rd.addM rfl rfl h_46) ?_
    refine PL.op rfl (Rd.asnT rfl) ?_
    refine PL.nil ?_
    refine thA_n ?_
    refine PC.seq ?_
    refine PC.seq ?_
    obtain ⟨x47, h_48, hh1⟩ := bind_some hh1
    refine PC.region ?_
    refine PL.op rfl (Rd.moveT rfl) ?_
    refine PL.op rfl (Rd.moveT rfl) ?_
    refine PL.op rfl (Rd.ixM rfl rfl h_48) ?_
    refine PL.op rfl (Rd.fieldT rfl) ?_
    refine PL.op rfl (Rd.elMF (f := 2) rfl h_48 rfl rfl) ?_
    refine PL.op rfl (Rd.moveT rfl) ?_
    refine PL.op rfl (Rd.neq rfl rfl) ?_
    refine PL.nil ?_
    refine thA_n ?_
    rcases cond_some hh1 with ⟨h_49, hh1⟩ | ⟨h_49, hh1⟩
    rotate_left
    · refine PC.cond_true rfl (not_f h_49) ?_
      refine PC.seq ?_
      refine PC.region ?_
      refine PL.op rfl (Rd.asnT rfl) ?_
      refine PL.nil ?_
      refine thA_n ?_
      refine PC.ret ?_
      refine thA_r ?_
      refine inA_r ?_
      refine thA_r ?_
      refine thA_r ?_
      refine inA_r ?_
      refine thA_r ?_
      obtain rfl := some_in hh1
      obtain rfl : (.inr (-1 : Int) : Int ⊕ Int) = o29 := kk1
      refine thA_r ?_
      obtain rfl := some_in hh0
      exact FinA.mk (r := iA (-1 : Int)) (bl := []) [] (.inl rfl) rfl (rl := [.tmp 4]) (.tmp .nil) rfl rfl rfl (.t _) trivial ⟨rfl, rfl⟩
    refine PC.cond_false rfl (not_t h_49) ?_
    refine PC.skip ?_
    refine thA_n ?_
    refine PC.seq ?_
    obtain ⟨n50, h_51, hh1⟩ := bind_some hh1
    refine PC.region ?_
    refine PL.op rfl (Rd.moveT rfl) ?_
    refine PL.op rfl (Rd.addM rfl rfl h_51) ?_
    refine PL.op rfl (Rd.asnT rfl) ?_
    refine PL.nil ?_
    refine thA_n ?_
    refine PC.seq ?_
    refine PC.seq ?_
    obtain ⟨x52, h_53, hh1⟩ := bind_some hh1
    refine PC.region ?_
    refine PL.op rfl (Rd.moveT rfl) ?_
    refine PL.op rfl (Rd.moveT rfl) ?_
    refine PL.op rfl (Rd.ixM rfl rfl h_53) ?_
    refine PL.op rfl (Rd.fieldT rfl) ?_
    refine PL.op rfl (Rd.elMF (f := 3) rfl h_53 rfl rfl) ?_
    refine PL.op rfl (Rd.moveT rfl) ?_
    refine PL.op rfl (Rd.neq rfl rfl) ?_
    refine PL.nil ?_
    refine thA_n ?_
    rcases cond_some hh1 with ⟨h_54, hh1⟩ | ⟨h_54, hh1⟩
    rotate_left
    · refine PC.cond_true rfl (not_f h_54) ?_
      refine PC.seq ?_
      refine PC.region ?_
      refine PL.op rfl (Rd.asnT rfl) ?_
      refine PL.nil ?_
      refine thA_n ?_
      refine PC.ret ?_
      refine thA_r ?_
      refine inA_r ?_
      refine thA_r ?_
      refine thA_r ?_
      refine inA_r ?_
      refine thA_r ?_
      obtain rfl := some_in hh1
      obtain rfl : (.inr (-1 : Int) : Int ⊕ Int) = o29 := kk1
      refine thA_r ?_
      obtain rfl := some_in hh0
      exact FinA.mk (r := iA (-1 : Int)) (bl := []) [] (.inl rfl) rfl (rl := [.tmp 4]) (.tmp .nil) rfl rfl rfl (.t _) trivial ⟨rfl, rfl⟩
    refine PC.cond_false rfl (not_t h_54) ?_
    refine PC.skip ?_
    refine thA_n ?_
    obtain ⟨n55, h_56, hh1⟩ := bind_some hh1
    refine PC.region ?_
    refine PL.op rfl (Rd.moveT rfl) ?_
    refine PL.op rfl (Rd.addM rfl rfl h_56) ?_
    refine PL.op rfl (Rd.asnT rfl) ?_
    refine PL.nil ?_
    refine inA_n ?_
    refine thA_n ?_
    obtain ⟨n57, h_58, hh1⟩ := bind_some hh1
    refine PC.region ?_
    refine PL.op rfl (Rd.moveT rfl) ?_
    refine PL.op rfl (Rd.addM rfl rfl h_58) ?_
    refine PL.op rfl (Rd.asnT rfl) ?_
    refine PL.nil ?_
    obtain rfl := some_in hh1
    refine thA_n ?_
    exact ⟨(f31, (n55, n57)), Nat.lt_succ_self _, kk1, [], ⟨rfl, rfl, trivial, ⟨.t _, .t _, .t _, trivial⟩⟩⟩
  clear hh0
  rintro k28 hh0
  replace hh0 : m_L_heldFrameS_k1 N k28 = some r := hh0
  unfold m_L_heldFrameS_k1 at hh0
  refine thA_n ?_
  refine PC.seq ?_
  refine PC.region ?_
  refine PL.op rfl (Rd.moveT rfl) ?_
  refine PL.op rfl (Rd.asnT rfl) ?_
  refine PL.nil ?_
  refine thA_n ?_
  refine PC.ret ?_
  obtain rfl := some_in hh0
  exact FinA.mk (r := iA k28) (bl := []) [] (.inl rfl) rfl (rl := [.tmp 4]) (.tmp .nil) rfl rfl rfl (.t _) trivial ⟨rfl, rfl⟩

def m_L_heldBuffer (N : Nat) (p_a : I_Buffer) (p_k : Int) : Option (Int) :=
  (m_L_heldFrameS N p_a.frames p_k).bind fun r1 =>
  cond (decide (r1 < (0 : Int)))
    (some (-1 : Int))
    (some r1)
theorem w_L_heldBuffer (N : Nat) (p_a : I_Buffer) (p_k : Int) (r : Int) (hh0 : m_L_heldBuffer N p_a p_k = some r) : FnX Try.prog 17 [] [.agg [sL p_a.frames, iA p_a.forced], iA p_k] (RE (iA r) []) := by
  unfold m_L_heldBuffer at hh0
  refine FnX.mk Try.func17 rfl rfl ?_
  intro s hs
  refine PC.seq ?_
  refine PC.region ?_
  refine PL.ef rfl (Ef.box rfl rfl rfl) ?_
  refine PL.nm (.op 0 0) [some ⟨.mx [sL p_a.frames, iA p_a.forced], 28, 0⟩] rfl rfl ?_
  refine PL.op rfl (Rd.asnT rfl) ?_
  refine PL.nil ?_
  refine thA_n ?_
  refine PC.seq ?_
  obtain ⟨r1, h_2, hh0⟩ := bind_some hh0
  refine PC.region ?_
  refine PL.op rfl (Rd.fieldO rfl rfl) ?_
  refine PL.op rfl (Rd.loadO rfl rfl rfl) ?_
  refine PL.op rfl (Rd.moveT rfl) ?_
  refine PL.callM false [] (w_L_heldFrameS N p_a.frames p_k r1 h_2) rfl Try.call36 rfl ⟨.t _, .t _, trivial⟩ rfl trivial (fun h => by cases h) ?_
  refine PL.op rfl (Rd.asnT rfl) ?_
  refine PL.nil ?_
  refine thA_n ?_
  refine PC.seq ?_
  refine PC.seq ?_
  refine PC.region ?_
  refine PL.op rfl (Rd.moveT rfl) ?_
  refine PL.op rfl (Rd.lss rfl rfl) ?_
  refine PL.nil ?_
  refine thA_n ?_
  rcases cond_some hh0 with ⟨h_3, hh0⟩ | ⟨h_3, hh0⟩
  · refine PC.cond_true rfl h_3 ?_
    refine PC.seq ?_
    refine PC.region ?_
    refine PL.op rfl (Rd.asnT rfl) ?_
    refine PL.nil ?_
    refine thA_n ?_
    refine PC.ret ?_
    refine thA_r ?_
    obtain rfl := some_in hh0
    exact FinA.mk (r := iA (-1 : Int)) (bl := []) [] (.inl rfl) rfl (rl := [.tmp 4]) (.tmp .nil) rfl rfl rfl (.t _) trivial ⟨rfl, rfl⟩
  refine PC.cond_false rfl h_3 ?_
  refine PC.skip ?_
  refine thA_n ?_
  refine PC.seq ?_
  refine PC.region ?_
  refine PL.op rfl (Rd.moveT rfl) ?_
  refine PL.op rfl (Rd.asnT rfl) ?_
  refine PL.nil ?_
  refine thA_n ?_
  refine PC.ret ?_
  obtain rfl := some_in hh0
  exact FinA.mk (r := iA r1) (bl := []) [] (.inl rfl) rfl (rl := [.tmp 4]) (.tmp .nil) rfl rfl rfl (.t _) trivial ⟨rfl, rfl⟩

end V
end Go.Proofs.Ytifcacahgiihoaa
