/- Catalogs: the helpers of the exact law. No condition. -/
import Derived.Test.YtlpbgmahegoidaaUxa
import Derived.Test.YtlpbgmahegoidaaMkta
namespace Go.Proofs.Ytlpbgmahegoidaa
namespace V
open Enc (enc)
set_option linter.unusedVariables false
set_option linter.unusedSimpArgs false
set_option maxHeartbeats 4000000
set_option maxRecDepth 100000
open Go.RowKit
attribute [local irreducible] thA inA FinA eL

structure L_Entry where
  name : ByteArray
  table : ByteArray
  state : Int
deriving DecidableEq
instance : Enc L_Entry := ⟨fun x => [.v (.string x.name), .v (.string x.table), .v (.int .i64 x.state)], 3, fun _ => rfl⟩
instance : EncF L_Entry := ⟨fun _ c h => by simp [enc] at h; rcases h with h | h | h <;> exact ⟨_, h⟩⟩
def m_L_szEntry (N : Nat) (p_a : L_Entry) (p_left : Int) : Option (Int) :=
  (chk (p_left - (p_a.name.size : Int))).bind fun n1 =>
  cond (decide (n1 < (0 : Int)))
    (some (-1 : Int))
    ((chk (n1 - (p_a.table.size : Int))).bind fun n4 =>
    cond (decide (n4 < (0 : Int)))
      (some (-1 : Int))
      (some n4))
theorem w_L_szEntry (N : Nat) (p_a : L_Entry) (p_left : Int) (r : Int) (hh0 : m_L_szEntry N p_a p_left = some r) : FnX Try.prog 29 [] [.agg [sA p_a.name, sA p_a.table, iA p_a.state], iA p_left] (RE (iA r) []) := by
  unfold m_L_szEntry at hh0
  refine FnX.mk Try.func29 rfl rfl ?_
  intro s hs
  refine PC.seq ?_
  refine PC.region ?_
  refine PL.ef rfl (Ef.box rfl rfl rfl) ?_
  refine PL.nm (.op 0 0) [some ⟨.mx [sA p_a.name, sA p_a.table, iA p_a.state], 59, 0⟩] rfl rfl ?_
  refine PL.op rfl (Rd.asnT rfl) ?_
  refine PL.nil ?_
  refine thA_n ?_
  refine PC.seq ?_
  obtain ⟨n1, h_2, hh0⟩ := bind_some hh0
  refine PC.region ?_
  refine PL.op rfl (Rd.moveT rfl) ?_
  refine PL.op rfl (Rd.fieldO rfl rfl) ?_
  refine PL.op rfl (Rd.loadO rfl rfl rfl) ?_
  refine PL.op rfl (Rd.lenSt rfl) ?_
  refine PL.op rfl (Rd.subM rfl rfl h_2) ?_
  refine PL.op rfl (Rd.asnT rfl) ?_
  refine PL.nil ?_
  refine thA_n ?_
  refine PC.seq ?_
  refine PC.seq ?_
  refine PC.region ?_
  refine PL.op rfl (Rd.moveT rfl) ?_
  refine PL.op rfl (Rd.lss rfl rfl) ?_
  refine PL.nil ?_
  refine thA_n ?_
  rcases cond_some hh0 with ⟨h_3, hh0⟩ | ⟨h_3, hh0⟩
  · refine PC.cond_true rfl h_3 ?_
    refine PC.seq ?_
    refine PC.region ?_
    refine PL.op rfl (Rd.asnT rfl) ?_
    refine PL.nil ?_
    refine thA_n ?_
    refine PC.ret ?_
    refine thA_r ?_
    obtain rfl := some_in hh0
    exact FinA.mk (r := iA (-1 : Int)) (bl := []) [] (.inl rfl) rfl (rl := [.tmp 4]) (.tmp .nil) rfl rfl rfl (.t _) trivial ⟨rfl, rfl⟩
  refine PC.cond_false rfl h_3 ?_
  refine PC.skip ?_
  refine thA_n ?_
  refine PC.seq ?_
  obtain ⟨n4, h_5, hh0⟩ := bind_some hh0
  refine PC.region ?_
  refine PL.op rfl (Rd.moveT rfl) ?_
  refine PL.op rfl (Rd.fieldO rfl rfl) ?_
  refine PL.op rfl (Rd.loadO rfl rfl rfl) ?_
  refine PL.op rfl (Rd.lenSt rfl) ?_
  refine PL.op rfl (Rd.subM rfl rfl h_5) ?_
  refine PL.op rfl (Rd.asnT rfl) ?_
  refine PL.nil ?_
  refine thA_n ?_
  refine PC.seq ?_
  refine PC.seq ?_
  refine PC.region ?_
  refine PL.op rfl (Rd.moveT rfl) ?_
  refine PL.op rfl (Rd.lss rfl rfl) ?_
  refine PL.nil ?_
  refine thA_n ?_
  rcases cond_some hh0 with ⟨h_6, hh0⟩ | ⟨h_6, hh0⟩
  · refine PC.cond_true rfl h_6 ?_
    refine PC.seq ?_
    refine PC.region ?_
    refine PL.op rfl (Rd.asnT rfl) ?_
    refine PL.nil ?_
    refine thA_n ?_
    refine PC.ret ?_
    refine thA_r ?_
    obtain rfl := some_in hh0
    exact FinA.mk (r := iA (-1 : Int)) (bl := []) [] (.inl rfl) rfl (rl := [.tmp 4]) (.tmp .nil) rfl rfl rfl (.t _) trivial ⟨rfl, rfl⟩
  refine PC.cond_false rfl h_6 ?_
  refine PC.skip ?_
  refine thA_n ?_
  refine PC.seq ?_
  refine PC.region ?_
  refine PL.op rfl (Rd.moveT rfl) ?_
  refine PL.op rfl (Rd.asnT rfl) ?_
  refine PL.nil ?_
  refine thA_n ?_
  refine PC.ret ?_
  obtain rfl := some_in hh0
  exact FinA.mk (r := iA n4) (bl := []) [] (.inl rfl) rfl (rl := [.tmp 4]) (.tmp .nil) rfl rfl rfl (.t _) trivial ⟨rfl, rfl⟩

def m_L_szEntryS_k1 (N : Nat) (left14 : Int) : Option (Int) :=
  some left14
def m_L_szEntryS_b1 (N : Nat) (p_a : (List L_Entry)) (left4 : Int) (i5 : Int) : Option ((Int × Int) ⊕ (Int ⊕ Int)) :=
  cond (decide (i5 < (p_a.length : Int)))
    ((ixI p_a i5).bind fun x21 =>
    (m_L_szEntry N x21 left4).bind fun r23 =>
    cond (decide (r23 < (0 : Int)))
      (some (.inr (.inr (-1 : Int))))
      ((chk (i5 + (1 : Int))).bind fun n26 =>
      some (.inl (r23, n26))))
    (some (.inr (.inl left4)))
def m_L_szEntryS (N : Nat) (p_a : (List L_Entry)) (p_left : Int) : Option (Int) :=
  (chk (p_left - (p_a.length : Int))).bind fun n1 =>
  cond (decide (n1 < (0 : Int)))
    (some (-1 : Int))
    ((loopM (β := Int ⊕ Int) (fun s : Int × Int => m_L_szEntryS_b1 N p_a s.1 s.2) N (n1, (0 : Int))).bind fun o => match o with
    | .inl e =>
      m_L_szEntryS_k1 N e
    | .inr v =>
      some v)
theorem w_L_szEntryS (N : Nat) (p_a : (List L_Entry)) (p_left : Int) (r : Int) (hh0 : m_L_szEntryS N p_a p_left = some r) : FnX Try.prog 6 [] [sL p_a, iA p_left] (RE (iA r) []) := by
  unfold m_L_szEntryS at hh0
  refine FnX.mk Try.func6 rfl rfl ?_
  intro s hs
  refine PC.seq ?_
  refine PC.region ?_
  refine PL.op rfl (Rd.asnT rfl) ?_
  refine PL.nil ?_
  refine thA_n ?_
  refine PC.seq ?_
  obtain ⟨n1, h_2, hh0⟩ := bind_some hh0
  refine PC.region ?_
  refine PL.op rfl (Rd.moveT rfl) ?_
  refine PL.op rfl (Rd.moveT rfl) ?_
  refine PL.op rfl (Rd.lenT rfl) ?_
  refine PL.op rfl (Rd.subM rfl rfl h_2) ?_
  refine PL.op rfl (Rd.asnT rfl) ?_
  refine PL.nil ?_
  refine thA_n ?_
  refine PC.seq ?_
  refine PC.seq ?_
  refine PC.region ?_
  refine PL.op rfl (Rd.moveT rfl) ?_
  refine PL.op rfl (Rd.lss rfl rfl) ?_
  refine PL.nil ?_
  refine thA_n ?_
  rcases cond_some hh0 with ⟨h_3, hh0⟩ | ⟨h_3, hh0⟩
  · refine PC.cond_true rfl h_3 ?_
    refine PC.seq ?_
    refine PC.region ?_
    refine PL.op rfl (Rd.asnT rfl) ?_
    refine PL.nil ?_
    refine thA_n ?_
    refine PC.ret ?_
    refine thA_r ?_
    obtain rfl := some_in hh0
    exact FinA.mk (r := iA (-1 : Int)) (bl := []) [] (.inl rfl) rfl (rl := [.tmp 4]) (.tmp .nil) rfl rfl rfl (.t _) trivial ⟨rfl, rfl⟩
  refine PC.cond_false rfl h_3 ?_
  refine PC.skip ?_
  refine thA_n ?_
  refine PC.seq ?_
  refine PC.seq ?_
  refine PC.region ?_
  refine PL.op rfl (Rd.asnT rfl) ?_
  refine PL.nil ?_
  refine thA_n ?_
  obtain ⟨o15, h_16, hh0⟩ := bind_some hh0
  refine PC.cutE hs (fun x : Int => [(1, iA x)]) (fun x => []) (fun x => m_L_szEntryS_k1 N x = some r) ?_ ?_
  · refine PC.block ?_
    refine PC.loop hs (fun x : Nat × (Int × Int) => [(0, sL p_a), (1, iA x.2.1), (5, iA x.2.2)]) (fun x => []) (fun x => loopM (β := Int ⊕ Int) (fun s : Int × Int => m_L_szEntryS_b1 N p_a s.1 s.2) x.1 x.2 = some o15) (fun x => x.1) (N, (n1, (0 : Int))) [] ⟨rfl, rfl, trivial, ⟨.t _, .t _, .t _, trivial⟩⟩ h_16 ?_
    rintro ⟨f17_, left4, i5⟩ h_19
    obtain ⟨f17, y18, rfl, hh1, kk1⟩ := loopM_some h_19
    replace hh1 : m_L_szEntryS_b1 N p_a left4 i5 = some y18 := hh1
    unfold m_L_szEntryS_b1 at hh1
    refine PC.seq ?_
    refine PC.seq ?_
    refine PC.region ?_
    refine PL.op rfl (Rd.moveT rfl) ?_
    refine PL.op rfl (Rd.moveT rfl) ?_
    refine PL.op rfl (Rd.lenT rfl) ?_
    refine PL.op rfl (Rd.lss rfl rfl) ?_
    refine PL.nil ?_
    refine thA_n ?_
    rcases cond_some hh1 with ⟨h_20, hh1⟩ | ⟨h_20, hh1⟩
    rotate_left
    · refine PC.cond_false rfl h_20 ?_
      refine PC.exit ?_
      refine thA_e ?_
      refine thA_e ?_
      refine inA_eq rfl ?_
      refine thA_n ?_
      obtain rfl := some_in hh1
      obtain rfl : (.inl left4 : Int ⊕ Int) = o15 := kk1
      exact ⟨left4, hh0, [], ⟨rfl, rfl, trivial, ⟨.t _, trivial⟩⟩⟩
    refine PC.cond_true rfl h_20 ?_
    refine PC.skip ?_
    refine thA_n ?_
    refine PC.seq ?_
    refine PC.block ?_
    refine PC.seq ?_
    obtain ⟨x21, h_22, hh1⟩ := bind_some hh1
    obtain ⟨r23, h_24, hh1⟩ := bind_some hh1
    refine PC.region ?_
    refine PL.op rfl (Rd.moveT rfl) ?_
    refine PL.op rfl (Rd.moveT rfl) ?_
    refine PL.op rfl (Rd.ixM rfl rfl h_22) ?_
    refine PL.op rfl (Rd.elMR rfl h_22 rfl rfl) ?_
    refine PL.op rfl (Rd.moveT rfl) ?_
    refine PL.callM false [] (w_L_szEntry N x21 left4 r23 h_24) rfl Try.call29 rfl ⟨.aggL ⟨.t _, .t _, .t _, trivial⟩, .t _, trivial⟩ rfl trivial (fun h => by cases h) ?_
    refine PL.op rfl (Rd.asnT rfl) ?_
    refine PL.nil ?_
    refine thA_n ?_
    refine PC.seq ?_
    refine PC.region ?_
    refine PL.op rfl (Rd.moveT rfl) ?_
    refine PL.op rfl (Rd.lss rfl rfl) ?_
    refine PL.nil ?_
    refine thA_n ?_
    rcases cond_some hh1 with ⟨h_25, hh1⟩ | ⟨h_25, hh1⟩
    rotate_left
    · refine PC.cond_false rfl h_25 ?_
      refine PC.skip ?_
      refine inA_n ?_
      refine thA_n ?_
      obtain ⟨n26, h_27, hh1⟩ := bind_some hh1
      refine PC.region ?_
      refine PL.op rfl (Rd.moveT rfl) ?_
      refine PL.op rfl (Rd.addM rfl rfl h_27) ?_
      refine PL.op rfl (Rd.asnT rfl) ?_
      refine PL.nil ?_
      obtain rfl := some_in hh1
      refine thA_n ?_
      exact ⟨(f17, (r23, n26)), Nat.lt_succ_self _, kk1, [], ⟨rfl, rfl, trivial, ⟨.t _, .t _, .t _, trivial⟩⟩⟩
    refine PC.cond_true rfl h_25 ?_
    refine PC.seq ?_
    refine PC.region ?_
    refine PL.op rfl (Rd.asnT rfl) ?_
    refine PL.nil ?_
    refine thA_n ?_
    refine PC.ret ?_
    refine inA_r ?_
    refine thA_r ?_
    refine thA_r ?_
    refine inA_r ?_
    refine thA_r ?_
    obtain rfl := some_in hh1
    obtain rfl : (.inr (-1 : Int) : Int ⊕ Int) = o15 := kk1
    refine thA_r ?_
    obtain rfl := some_in hh0
    exact FinA.mk (r := iA (-1 : Int)) (bl := []) [] (.inl rfl) rfl (rl := [.tmp 4]) (.tmp .nil) rfl rfl rfl (.t _) trivial ⟨rfl, rfl⟩
  clear hh0
  rintro left14 hh0
  replace hh0 : m_L_szEntryS_k1 N left14 = some r := hh0
  unfold m_L_szEntryS_k1 at hh0
  refine thA_n ?_
  refine PC.seq ?_
  refine PC.region ?_
  refine PL.op rfl (Rd.moveT rfl) ?_
  refine PL.op rfl (Rd.asnT rfl) ?_
  refine PL.nil ?_
  refine thA_n ?_
  refine PC.ret ?_
  obtain rfl := some_in hh0
  exact FinA.mk (r := iA left14) (bl := []) [] (.inl rfl) rfl (rl := [.tmp 4]) (.tmp .nil) rfl rfl rfl (.t _) trivial ⟨rfl, rfl⟩

def m_L_toEntry (N : Nat) (p_a : L_Entry) : Option (I_Entry) :=
  some (I_Entry.mk p_a.name p_a.table p_a.state)
theorem w_L_toEntry (N : Nat) (p_a : L_Entry) (r : I_Entry) (hh0 : m_L_toEntry N p_a = some r) : FnX Try.prog 32 [] [.agg [sA p_a.name, sA p_a.table, iA p_a.state]] (RE (.agg [sA r.name, sA r.table, iA r.state]) []) := by
  unfold m_L_toEntry at hh0
  refine FnX.mk Try.func32 rfl rfl ?_
  intro s hs
  refine PC.seq ?_
  refine PC.region ?_
  refine PL.ef rfl (Ef.box rfl rfl rfl) ?_
  refine PL.nm (.op 0 0) [some ⟨.mx [sA p_a.name, sA p_a.table, iA p_a.state], 59, 0⟩] rfl rfl ?_
  refine PL.ef rfl (Ef.alloc rfl rfl) ?_
  refine PL.nm (.op 1 0) [some ⟨.mx [sA p_a.name, sA p_a.table, iA p_a.state], 59, 0⟩, some ⟨.mx [sA ByteArray.empty, sA ByteArray.empty, iA (0 : Int)], 62, 0⟩] rfl rfl ?_
  refine PL.nil ?_
  refine thA_n ?_
  refine PC.seq ?_
  refine PC.region ?_
  refine PL.ef rfl (Ef.alloc rfl rfl) ?_
  refine PL.nm (.op 2 0) [some ⟨.mx [sA p_a.name, sA p_a.table, iA p_a.state], 59, 0⟩, some ⟨.mx [sA ByteArray.empty, sA ByteArray.empty, iA (0 : Int)], 62, 0⟩, some ⟨.mx [sA ByteArray.empty, sA ByteArray.empty, iA (0 : Int)], 62, 0⟩] rfl rfl ?_
  refine PL.nil ?_
  refine thA_n ?_
  refine PC.seq ?_
  refine PC.region ?_
  refine PL.op rfl (Rd.fieldO rfl rfl) ?_
  refine PL.op rfl (Rd.loadO rfl rfl rfl) ?_
  refine PL.op rfl (Rd.fieldO rfl rfl) ?_
  refine PL.store rfl rfl rfl rfl rfl rfl rfl ?_
  refine PL.nO [some ⟨.mx [sA p_a.name, sA p_a.table, iA p_a.state], 59, 0⟩, some ⟨.mx [sA ByteArray.empty, sA ByteArray.empty, iA (0 : Int)], 62, 0⟩, some ⟨.mx [sA p_a.name, sA ByteArray.empty, iA (0 : Int)], 62, 0⟩] rfl ?_
  refine PL.nil ?_
  refine thA_n ?_
  refine PC.seq ?_
  refine PC.region ?_
  refine PL.op rfl (Rd.fieldO rfl rfl) ?_
  refine PL.op rfl (Rd.loadO rfl rfl rfl) ?_
  refine PL.op rfl (Rd.fieldO rfl rfl) ?_
  refine PL.store rfl rfl rfl rfl rfl rfl rfl ?_
  refine PL.nO [some ⟨.mx [sA p_a.name, sA p_a.table, iA p_a.state], 59, 0⟩, some ⟨.mx [sA ByteArray.empty, sA ByteArray.empty, iA (0 : Int)], 62, 0⟩, some ⟨.mx [sA p_a.name, sA p_a.table, iA (0 : Int)], 62, 0⟩] rfl ?_
  refine PL.nil ?_
  refine thA_n ?_
  refine PC.seq ?_
  refine PC.region ?_
  refine PL.op rfl (Rd.fieldO rfl rfl) ?_
  refine PL.op rfl (Rd.loadO rfl rfl rfl) ?_
  refine PL.op rfl (Rd.fieldO rfl rfl) ?_
  refine PL.store rfl rfl rfl rfl rfl rfl rfl ?_
  refine PL.nO [some ⟨.mx [sA p_a.name, sA p_a.table, iA p_a.state], 59, 0⟩, some ⟨.mx [sA ByteArray.empty, sA ByteArray.empty, iA (0 : Int)], 62, 0⟩, some ⟨.mx [sA p_a.name, sA p_a.table, iA p_a.state], 62, 0⟩] rfl ?_
  refine PL.nil ?_
  refine thA_n ?_
  refine PC.seq ?_
  refine PC.region ?_
  refine PL.op rfl (Rd.loadBox rfl rfl rfl) ?_
  refine PL.store rfl rfl rfl rfl rfl rfl rfl ?_
  refine PL.nO [some ⟨.mx [sA p_a.name, sA p_a.table, iA p_a.state], 59, 0⟩, some ⟨.mx [sA p_a.name, sA p_a.table, iA p_a.state], 62, 0⟩, some ⟨.mx [sA p_a.name, sA p_a.table, iA p_a.state], 62, 0⟩] rfl ?_
  refine PL.nil ?_
  refine thA_n ?_
  refine PC.ret ?_
  obtain rfl := some_in hh0
  exact FinA.mk (r := .agg [sA p_a.name, sA p_a.table, iA p_a.state]) (bl := []) [] (.inl rfl) rfl (rl := [.cell 2 62]) (.cellN rfl rfl rfl rfl .nil) rfl rfl rfl (.aggL ⟨.t _, .t _, .t _, trivial⟩) trivial ⟨rfl, rfl⟩

def m_L_toEntryS_k1 (N : Nat) (v14 : (List I_Entry)) : Option ((List I_Entry)) :=
  some v14
def m_L_toEntryS_b1 (N : Nat) (p_a : (List L_Entry)) (i3 : Int) (v4 : (List I_Entry)) : Option ((Int × (List I_Entry)) ⊕ (List I_Entry)) :=
  cond (decide (i3 < (p_a.length : Int)))
    ((ixI p_a i3).bind fun x21 =>
    (m_L_toEntry N x21).bind fun r23 =>
    (ixI v4 i3).bind fun x25 =>
    (chk (i3 + (1 : Int))).bind fun n27 =>
    some (.inl (n27, (v4.set i3.toNat r23))))
    (some (.inr v4))
def m_L_toEntryS (N : Nat) (p_a : (List L_Entry)) : Option ((List I_Entry)) :=
  (mkM 40 (I_Entry.mk ByteArray.empty ByteArray.empty (0 : Int)) (p_a.length : Int)).bind fun xs1 =>
  (loopM (β := (List I_Entry)) (fun s : Int × (List I_Entry) => m_L_toEntryS_b1 N p_a s.1 s.2) N ((0 : Int), xs1)).bind fun e =>
  m_L_toEntryS_k1 N e
theorem w_L_toEntryS (N : Nat) (p_a : (List L_Entry)) (r : (List I_Entry)) (hh0 : m_L_toEntryS N p_a = some r) : FnX Try.prog 8 [] [sL p_a] (RE (.os 0 0 r.length) [⟨.tr (eL r), 62, 3⟩]) := by
  unfold m_L_toEntryS at hh0
  refine FnX.mk Try.func8 rfl rfl ?_
  intro s hs
  refine PC.seq ?_
  refine PC.region ?_
  refine PL.op rfl (Rd.asnT rfl) ?_
  refine PL.nil ?_
  refine thA_n ?_
  refine PC.seq ?_
  obtain ⟨xs1, h_2, hh0⟩ := bind_some hh0
  refine PC.region ?_
  refine PL.op rfl (Rd.moveT rfl) ?_
  refine PL.op rfl (Rd.lenT rfl) ?_
  refine PL.ef rfl (Ef.makeM (I_Entry.mk ByteArray.empty ByteArray.empty (0 : Int)) rfl rfl h_2 rfl rfl rfl (by exact ⟨.inl ⟨rfl, rfl⟩, .inl ⟨rfl, rfl⟩, .inl ⟨rfl, rfl⟩, trivial⟩)) ?_
  refine PL.nm (.os 0 0 xs1.length) [some ⟨.tr (eL xs1), 62, 3⟩] rfl rfl ?_
  refine PL.op rfl (Rd.asnO rfl) ?_
  refine PL.nil ?_
  refine thA_n ?_
  refine PC.seq ?_
  refine PC.seq ?_
  refine PC.region ?_
  refine PL.op rfl (Rd.asnT rfl) ?_
  refine PL.nil ?_
  refine thA_n ?_
  obtain ⟨o15, h_16, hh0⟩ := bind_some hh0
  refine PC.cutE hs (fun x : (List I_Entry) => [(3, .os 0 0 x.length)]) (fun x => [⟨.tr (eL x), 62, 3⟩]) (fun x => m_L_toEntryS_k1 N x = some r) ?_ ?_
  · refine PC.block ?_
    refine PC.loop hs (fun x : Nat × (Int × (List I_Entry)) => [(0, sL p_a), (3, .os 0 0 x.2.2.length), (4, iA x.2.1)]) (fun x => [⟨.tr (eL x.2.2), 62, 3⟩]) (fun x => loopM (β := (List I_Entry)) (fun s : Int × (List I_Entry) => m_L_toEntryS_b1 N p_a s.1 s.2) x.1 x.2 = some o15) (fun x => x.1) (N, ((0 : Int), xs1)) [some 0] ⟨rfl, rfl, ⟨⟨_, rfl, rfl, rfl, .tr _⟩, trivial⟩, ⟨.t _, .os rfl, .t _, trivial⟩⟩ h_16 ?_
    rintro ⟨f17_, i3, v4⟩ h_19
    obtain ⟨f17, y18, rfl, hh1, kk1⟩ := loopM_some h_19
    replace hh1 : m_L_toEntryS_b1 N p_a i3 v4 = some y18 := hh1
    unfold m_L_toEntryS_b1 at hh1
    refine PC.seq ?_
    refine PC.seq ?_
    refine PC.region ?_
    refine PL.op rfl (Rd.moveT rfl) ?_
    refine PL.op rfl (Rd.moveT rfl) ?_
    refine PL.op rfl (Rd.lenT rfl) ?_
    refine PL.op rfl (Rd.lss rfl rfl) ?_
    refine PL.nil ?_
    refine thA_n ?_
    rcases cond_some hh1 with ⟨h_20, hh1⟩ | ⟨h_20, hh1⟩
    rotate_left
    · refine PC.cond_false rfl h_20 ?_
      refine PC.exit ?_
      refine thA_e ?_
      refine thA_e ?_
      refine inA_eq rfl ?_
      refine thA_n ?_
      obtain rfl := some_in hh1
      obtain rfl : (v4 : (List I_Entry)) = o15 := kk1
      exact ⟨v4, hh0, [some 0], ⟨rfl, rfl, ⟨⟨_, rfl, rfl, rfl, .tr _⟩, trivial⟩, ⟨.os rfl, trivial⟩⟩⟩
    refine PC.cond_true rfl h_20 ?_
    refine PC.skip ?_
    refine thA_n ?_
    refine PC.seq ?_
    refine PC.block ?_
    obtain ⟨x21, h_22, hh1⟩ := bind_some hh1
    obtain ⟨r23, h_24, hh1⟩ := bind_some hh1
    obtain ⟨x25, h_26, hh1⟩ := bind_some hh1
    refine PC.region ?_
    refine PL.op rfl (Rd.moveO rfl) ?_
    refine PL.op rfl (Rd.moveT rfl) ?_
    refine PL.op rfl (Rd.moveT rfl) ?_
    refine PL.op rfl (Rd.moveT rfl) ?_
    refine PL.op rfl (Rd.ixM rfl rfl h_22) ?_
    refine PL.op rfl (Rd.elMR rfl h_22 rfl rfl) ?_
    refine PL.callM false [] (w_L_toEntry N x21 r23 h_24) rfl Try.call32 rfl ⟨.aggL ⟨.t _, .t _, .t _, trivial⟩, trivial⟩ rfl trivial (fun h => by cases h) ?_
    refine PL.op rfl (Rd.ixOM rfl rfl rfl (ixI_lt h_26)) ?_
    refine PL.stRM r23 rfl rfl rfl rfl rfl h_26 rfl ?_
    refine PL.nO [some ⟨.tr (eL (v4.set i3.toNat r23)), 62, 3⟩] rfl ?_
    refine PL.nil ?_
    refine inA_n ?_
    refine thA_n ?_
    obtain ⟨n27, h_28, hh1⟩ := bind_some hh1
    refine PC.region ?_
    refine PL.op rfl (Rd.moveT rfl) ?_
    refine PL.op rfl (Rd.addM rfl rfl h_28) ?_
    refine PL.op rfl (Rd.asnT rfl) ?_
    refine PL.nil ?_
    obtain rfl := some_in hh1
    refine thA_n ?_
    exact ⟨(f17, (n27, (v4.set i3.toNat r23))), Nat.lt_succ_self _, kk1, [some 0], ⟨rfl, rfl, ⟨⟨_, rfl, rfl, rfl, .tr _⟩, trivial⟩, ⟨.t _, .osE rfl (by simp only [List.length_set]), .t _, trivial⟩⟩⟩
  clear hh0
  rintro v14 hh0
  replace hh0 : m_L_toEntryS_k1 N v14 = some r := hh0
  unfold m_L_toEntryS_k1 at hh0
  refine thA_n ?_
  refine PC.seq ?_
  refine PC.region ?_
  refine PL.op rfl (Rd.moveO rfl) ?_
  refine PL.op rfl (Rd.asnO rfl) ?_
  refine PL.nil ?_
  refine thA_n ?_
  refine PC.ret ?_
  obtain rfl := some_in hh0
  exact FinA.mk (r := .os 0 0 v14.length) (bl := [⟨.tr (eL v14), 62, 3⟩]) [some 0] (.inl rfl) rfl (rl := [.tmp 2]) (.tmp .nil) rfl rfl rfl (.os rfl) ⟨⟨_, rfl, rfl, rfl, .tr _⟩, trivial⟩ ⟨rfl, rfl⟩

def m_L_eqStringS_k1 (N : Nat) : Option (Bool) :=
  some true
def m_L_eqStringS_b1 (N : Nat) (p_a : (List ByteArray)) (p_b : (List ByteArray)) (i2 : Int) : Option (Int ⊕ (Unit ⊕ Bool)) :=
  cond (decide (i2 < (p_a.length : Int)))
    ((ixI p_a i2).bind fun x17 =>
    (ixI p_b i2).bind fun x19 =>
    cond (x17.toList == x19.toList)
      ((chk (i2 + (1 : Int))).bind fun n22 =>
      some (.inl n22))
      (some (.inr (.inr false))))
    (some (.inr (.inl ())))
def m_L_eqStringS (N : Nat) (p_a : (List ByteArray)) (p_b : (List ByteArray)) : Option (Bool) :=
  cond (decide ((p_a.length : Int) = (p_b.length : Int)))
    ((loopM (β := Unit ⊕ Bool) (fun s : Int => m_L_eqStringS_b1 N p_a p_b s) N (0 : Int)).bind fun o => match o with
    | .inl e =>
      m_L_eqStringS_k1 N 
    | .inr v =>
      some v)
    (some false)
theorem w_L_eqStringS (N : Nat) (p_a : (List ByteArray)) (p_b : (List ByteArray)) (r : Bool) (hh0 : m_L_eqStringS N p_a p_b = some r) : FnX Try.prog 10 [] [sL p_a, sL p_b] (RE (bA r) []) := by
  unfold m_L_eqStringS at hh0
  refine FnX.mk Try.func10 rfl rfl ?_
  intro s hs
  refine PC.seq ?_
  refine PC.region ?_
  refine PL.op rfl (Rd.asnT rfl) ?_
  refine PL.nil ?_
  refine thA_n ?_
  refine PC.seq ?_
  refine PC.seq ?_
  refine PC.region ?_
  refine PL.op rfl (Rd.moveT rfl) ?_
  refine PL.op rfl (Rd.lenT rfl) ?_
  refine PL.op rfl (Rd.moveT rfl) ?_
  refine PL.op rfl (Rd.lenT rfl) ?_
  refine PL.op rfl (Rd.neq rfl rfl) ?_
  refine PL.nil ?_
  refine thA_n ?_
  rcases cond_some hh0 with ⟨h_1, hh0⟩ | ⟨h_1, hh0⟩
  rotate_left
  · refine PC.cond_true rfl (not_f h_1) ?_
    refine PC.seq ?_
    refine PC.region ?_
    refine PL.op rfl (Rd.asnT rfl) ?_
    refine PL.nil ?_
    refine thA_n ?_
    refine PC.ret ?_
    refine thA_r ?_
    obtain rfl := some_in hh0
    exact FinA.mk (r := bA false) (bl := []) [] (.inl rfl) rfl (rl := [.tmp 4]) (.tmp .nil) rfl rfl rfl (.t _) trivial ⟨rfl, rfl⟩
  refine PC.cond_false rfl (not_t h_1) ?_
  refine PC.skip ?_
  refine thA_n ?_
  refine PC.seq ?_
  refine PC.seq ?_
  refine PC.region ?_
  refine PL.op rfl (Rd.asnT rfl) ?_
  refine PL.nil ?_
  refine thA_n ?_
  obtain ⟨o11, h_12, hh0⟩ := bind_some hh0
  refine PC.cutE hs (fun x : Unit => []) (fun x => []) (fun x => m_L_eqStringS_k1 N  = some r) ?_ ?_
  · refine PC.block ?_
    refine PC.loop hs (fun x : Nat × (Int) => [(0, sL p_a), (1, sL p_b), (5, iA x.2)]) (fun x => []) (fun x => loopM (β := Unit ⊕ Bool) (fun s : Int => m_L_eqStringS_b1 N p_a p_b s) x.1 x.2 = some o11) (fun x => x.1) (N, (0 : Int)) [] ⟨rfl, rfl, trivial, ⟨.t _, .t _, .t _, trivial⟩⟩ h_12 ?_
    rintro ⟨f13_, i2⟩ h_15
    obtain ⟨f13, y14, rfl, hh1, kk1⟩ := loopM_some h_15
    replace hh1 : m_L_eqStringS_b1 N p_a p_b i2 = some y14 := hh1
    unfold m_L_eqStringS_b1 at hh1
    refine PC.seq ?_
    refine PC.seq ?_
    refine PC.region ?_
    refine PL.op rfl (Rd.moveT rfl) ?_
    refine PL.op rfl (Rd.moveT rfl) ?_
    refine PL.op rfl (Rd.lenT rfl) ?_
    refine PL.op rfl (Rd.lss rfl rfl) ?_
    refine PL.nil ?_
    refine thA_n ?_
    rcases cond_some hh1 with ⟨h_16, hh1⟩ | ⟨h_16, hh1⟩
    rotate_left
    · refine PC.cond_false rfl h_16 ?_
      refine PC.exit ?_
      refine thA_e ?_
      refine thA_e ?_
      refine inA_eq rfl ?_
      refine thA_n ?_
      obtain rfl := some_in hh1
      obtain rfl : (.inl () : Unit ⊕ Bool) = o11 := kk1
      exact ⟨(), hh0, [], ⟨rfl, rfl, trivial, trivial⟩⟩
    refine PC.cond_true rfl h_16 ?_
    refine PC.skip ?_
    refine thA_n ?_
    refine PC.seq ?_
    refine PC.block ?_
    refine PC.seq ?_
    obtain ⟨x17, h_18, hh1⟩ := bind_some hh1
    obtain ⟨x19, h_20, hh1⟩ := bind_some hh1
    refine PC.any (id := 6) 9 (.seg [0, 1, 2, 3, 4, 5, 6, 7, 8] .done) [] rfl (by kernel_rfl) rfl ?_
    refine PT.seg ?_
    refine PR.op rfl (Rd.moveT rfl) ?_
    refine PR.op rfl (Rd.moveT rfl) ?_
    refine PR.op rfl (Rd.ixM rfl rfl h_18) ?_
    refine PR.op rfl (Rd.elM1 rfl h_18 rfl rfl) ?_
    refine PR.op rfl (Rd.moveT rfl) ?_
    refine PR.op rfl (Rd.moveT rfl) ?_
    refine PR.op rfl (Rd.ixM rfl rfl h_20) ?_
    refine PR.op rfl (Rd.elM1 rfl h_20 rfl rfl) ?_
    refine PR.op rfl (Rd.neqS rfl rfl) ?_
    refine PR.nil ?_
    refine PT.done ?_
    refine PL.nil ?_
    refine thA_n ?_
    rcases cond_some hh1 with ⟨h_21, hh1⟩ | ⟨h_21, hh1⟩
    · refine PC.cond_false rfl (not_t h_21) ?_
      refine PC.skip ?_
      refine inA_n ?_
      refine thA_n ?_
      obtain ⟨n22, h_23, hh1⟩ := bind_some hh1
      refine PC.region ?_
      refine PL.op rfl (Rd.moveT rfl) ?_
      refine PL.op rfl (Rd.addM rfl rfl h_23) ?_
      refine PL.op rfl (Rd.asnT rfl) ?_
      refine PL.nil ?_
      obtain rfl := some_in hh1
      refine thA_n ?_
      exact ⟨(f13, n22), Nat.lt_succ_self _, kk1, [], ⟨rfl, rfl, trivial, ⟨.t _, .t _, .t _, trivial⟩⟩⟩
    refine PC.cond_true rfl (not_f h_21) ?_
    refine PC.seq ?_
    refine PC.region ?_
    refine PL.op rfl (Rd.asnT rfl) ?_
    refine PL.nil ?_
    refine thA_n ?_
    refine PC.ret ?_
    refine inA_r ?_
    refine thA_r ?_
    refine thA_r ?_
    refine inA_r ?_
    refine thA_r ?_
    obtain rfl := some_in hh1
    obtain rfl : (.inr false : Unit ⊕ Bool) = o11 := kk1
    refine thA_r ?_
    obtain rfl := some_in hh0
    exact FinA.mk (r := bA false) (bl := []) [] (.inl rfl) rfl (rl := [.tmp 4]) (.tmp .nil) rfl rfl rfl (.t _) trivial ⟨rfl, rfl⟩
  clear hh0
  rintro ⟨⟩ hh0
  replace hh0 : m_L_eqStringS_k1 N  = some r := hh0
  unfold m_L_eqStringS_k1 at hh0
  refine thA_n ?_
  refine PC.seq ?_
  refine PC.region ?_
  refine PL.op rfl (Rd.asnT rfl) ?_
  refine PL.nil ?_
  refine thA_n ?_
  refine PC.ret ?_
  obtain rfl := some_in hh0
  exact FinA.mk (r := bA true) (bl := []) [] (.inl rfl) rfl (rl := [.tmp 4]) (.tmp .nil) rfl rfl rfl (.t _) trivial ⟨rfl, rfl⟩

def m_L_eqEntry (N : Nat) (p_a : I_Entry) (p_b : I_Entry) : Option (Bool) :=
  cond (p_a.name.toList == p_b.name.toList)
    (cond (p_a.table.toList == p_b.table.toList)
      (cond (decide (p_a.state = p_b.state))
        (some true)
        (some false))
      (some false))
    (some false)
theorem w_L_eqEntry (N : Nat) (p_a : I_Entry) (p_b : I_Entry) (r : Bool) (hh0 : m_L_eqEntry N p_a p_b = some r) : FnX Try.prog 35 [] [.agg [sA p_a.name, sA p_a.table, iA p_a.state], .agg [sA p_b.name, sA p_b.table, iA p_b.state]] (RE (bA r) []) := by
  unfold m_L_eqEntry at hh0
  refine FnX.mk Try.func35 rfl rfl ?_
  intro s hs
  refine PC.seq ?_
  refine PC.region ?_
  refine PL.ef rfl (Ef.box rfl rfl rfl) ?_
  refine PL.nm (.op 0 0) [some ⟨.mx [sA p_a.name, sA p_a.table, iA p_a.state], 62, 0⟩] rfl rfl ?_
  refine PL.ef rfl (Ef.box rfl rfl rfl) ?_
  refine PL.nm (.op 1 0) [some ⟨.mx [sA p_a.name, sA p_a.table, iA p_a.state], 62, 0⟩, some ⟨.mx [sA p_b.name, sA p_b.table, iA p_b.state], 62, 0⟩] rfl rfl ?_
  refine PL.op rfl (Rd.asnT rfl) ?_
  refine PL.nil ?_
  refine thA_n ?_
  refine PC.seq ?_
  refine PC.seq ?_
  refine PC.region ?_
  refine PL.op rfl (Rd.fieldO rfl rfl) ?_
  refine PL.op rfl (Rd.loadO rfl rfl rfl) ?_
  refine PL.op rfl (Rd.fieldO rfl rfl) ?_
  refine PL.op rfl (Rd.loadO rfl rfl rfl) ?_
  refine PL.op rfl (Rd.neqS rfl rfl) ?_
  refine PL.nil ?_
  refine thA_n ?_
  rcases cond_some hh0 with ⟨h_1, hh0⟩ | ⟨h_1, hh0⟩
  rotate_left
  · refine PC.cond_true rfl (not_f h_1) ?_
    refine PC.seq ?_
    refine PC.region ?_
    refine PL.op rfl (Rd.asnT rfl) ?_
    refine PL.nil ?_
    refine thA_n ?_
    refine PC.ret ?_
    refine thA_r ?_
    obtain rfl := some_in hh0
    exact FinA.mk (r := bA false) (bl := []) [] (.inl rfl) rfl (rl := [.tmp 4]) (.tmp .nil) rfl rfl rfl (.t _) trivial ⟨rfl, rfl⟩
  refine PC.cond_false rfl (not_t h_1) ?_
  refine PC.skip ?_
  refine thA_n ?_
  refine PC.seq ?_
  refine PC.seq ?_
  refine PC.region ?_
  refine PL.op rfl (Rd.fieldO rfl rfl) ?_
  refine PL.op rfl (Rd.loadO rfl rfl rfl) ?_
  refine PL.op rfl (Rd.fieldO rfl rfl) ?_
  refine PL.op rfl (Rd.loadO rfl rfl rfl) ?_
  refine PL.op rfl (Rd.neqS rfl rfl) ?_
  refine PL.nil ?_
  refine thA_n ?_
  rcases cond_some hh0 with ⟨h_2, hh0⟩ | ⟨h_2, hh0⟩
  rotate_left
  · refine PC.cond_true rfl (not_f h_2) ?_
    refine PC.seq ?_
    refine PC.region ?_
    refine PL.op rfl (Rd.asnT rfl) ?_
    refine PL.nil ?_
    refine thA_n ?_
    refine PC.ret ?_
    refine thA_r ?_
    obtain rfl := some_in hh0
    exact FinA.mk (r := bA false) (bl := []) [] (.inl rfl) rfl (rl := [.tmp 4]) (.tmp .nil) rfl rfl rfl (.t _) trivial ⟨rfl, rfl⟩
  refine PC.cond_false rfl (not_t h_2) ?_
  refine PC.skip ?_
  refine thA_n ?_
  refine PC.seq ?_
  refine PC.seq ?_
  refine PC.region ?_
  refine PL.op rfl (Rd.fieldO rfl rfl) ?_
  refine PL.op rfl (Rd.loadO rfl rfl rfl) ?_
  refine PL.op rfl (Rd.fieldO rfl rfl) ?_
  refine PL.op rfl (Rd.loadO rfl rfl rfl) ?_
  refine PL.op rfl (Rd.neq rfl rfl) ?_
  refine PL.nil ?_
  refine thA_n ?_
  rcases cond_some hh0 with ⟨h_3, hh0⟩ | ⟨h_3, hh0⟩
  rotate_left
  · refine PC.cond_true rfl (not_f h_3) ?_
    refine PC.seq ?_
    refine PC.region ?_
    refine PL.op rfl (Rd.asnT rfl) ?_
    refine PL.nil ?_
    refine thA_n ?_
    refine PC.ret ?_
    refine thA_r ?_
    obtain rfl := some_in hh0
    exact FinA.mk (r := bA false) (bl := []) [] (.inl rfl) rfl (rl := [.tmp 4]) (.tmp .nil) rfl rfl rfl (.t _) trivial ⟨rfl, rfl⟩
  refine PC.cond_false rfl (not_t h_3) ?_
  refine PC.skip ?_
  refine thA_n ?_
  refine PC.seq ?_
  refine PC.region ?_
  refine PL.op rfl (Rd.asnT rfl) ?_
  refine PL.nil ?_
  refine thA_n ?_
  refine PC.ret ?_
  obtain rfl := some_in hh0
  exact FinA.mk (r := bA true) (bl := []) [] (.inl rfl) rfl (rl := [.tmp 4]) (.tmp .nil) rfl rfl rfl (.t _) trivial ⟨rfl, rfl⟩

def m_L_eqEntryS_k1 (N : Nat) : Option (Bool) :=
  some true
def m_L_eqEntryS_b1 (N : Nat) (p_a : (List I_Entry)) (p_b : (List I_Entry)) (i2 : Int) : Option (Int ⊕ (Unit ⊕ Bool)) :=
  cond (decide (i2 < (p_a.length : Int)))
    ((ixI p_a i2).bind fun x19 =>
    (ixI p_b i2).bind fun x21 =>
    (m_L_eqEntry N x19 x21).bind fun r23 =>
    cond r23
      ((chk (i2 + (1 : Int))).bind fun n26 =>
      some (.inl n26))
      (some (.inr (.inr false))))
    (some (.inr (.inl ())))
def m_L_eqEntryS (N : Nat) (p_a : (List I_Entry)) (p_b : (List I_Entry)) : Option (Bool) :=
  cond (decide ((p_a.length : Int) = (p_b.length : Int)))
    ((loopM (β := Unit ⊕ Bool) (fun s : Int => m_L_eqEntryS_b1 N p_a p_b s) N (0 : Int)).bind fun o => match o with
    | .inl e =>
      m_L_eqEntryS_k1 N 
    | .inr v =>
      some v)
    (some false)
theorem w_L_eqEntryS (N : Nat) (p_a : (List I_Entry)) (p_b : (List I_Entry)) (r : Bool) (hh0 : m_L_eqEntryS N p_a p_b = some r) : FnX Try.prog 11 [] [sL p_a, sL p_b] (RE (bA r) []) := by
  unfold m_L_eqEntryS at hh0
  refine FnX.mk Try.func11 rfl rfl ?_
  intro s hs
  refine PC.seq ?_
  refine PC.region ?_
  refine PL.op rfl (Rd.asnT rfl) ?_
  refine PL.nil ?_
  refine thA_n ?_
  refine PC.seq ?_
  refine PC.seq ?_
  refine PC.region ?_
  refine PL.op rfl (Rd.moveT rfl) ?_
  refine PL.op rfl (Rd.lenT rfl) ?_
  refine PL.op rfl (Rd.moveT rfl) ?_
  refine PL.op rfl (Rd.lenT rfl) ?_
  refine PL.op rfl (Rd.neq rfl rfl) ?_
  refine PL.nil ?_
  refine thA_n ?_
  rcases cond_some hh0 with ⟨h_1, hh0⟩ | ⟨h_1, hh0⟩
  rotate_left
  · refine PC.cond_true rfl (not_f h_1) ?_
    refine PC.seq ?_
    refine PC.region ?_
    refine PL.op rfl (Rd.asnT rfl) ?_
    refine PL.nil ?_
    refine thA_n ?_
    refine PC.ret ?_
    refine thA_r ?_
    obtain rfl := some_in hh0
    exact FinA.mk (r := bA false) (bl := []) [] (.inl rfl) rfl (rl := [.tmp 4]) (.tmp .nil) rfl rfl rfl (.t _) trivial ⟨rfl, rfl⟩
  refine PC.cond_false rfl (not_t h_1) ?_
  refine PC.skip ?_
  refine thA_n ?_
  refine PC.seq ?_
  refine PC.seq ?_
  refine PC.region ?_
  refine PL.op rfl (Rd.asnT rfl) ?_
  refine PL.nil ?_
  refine thA_n ?_
  obtain ⟨o13, h_14, hh0⟩ := bind_some hh0
  refine PC.cutE hs (fun x : Unit => []) (fun x => []) (fun x => m_L_eqEntryS_k1 N  = some r) ?_ ?_
  · refine PC.block ?_
    refine PC.loop hs (fun x : Nat × (Int) => [(0, sL p_a), (1, sL p_b), (5, iA x.2)]) (fun x => []) (fun x => loopM (β := Unit ⊕ Bool) (fun s : Int => m_L_eqEntryS_b1 N p_a p_b s) x.1 x.2 = some o13) (fun x => x.1) (N, (0 : Int)) [] ⟨rfl, rfl, trivial, ⟨.t _, .t _, .t _, trivial⟩⟩ h_14 ?_
    rintro ⟨f15_, i2⟩ h_17
    obtain ⟨f15, y16, rfl, hh1, kk1⟩ := loopM_some h_17
    replace hh1 : m_L_eqEntryS_b1 N p_a p_b i2 = some y16 := hh1
    unfold m_L_eqEntryS_b1 at hh1
    refine PC.seq ?_
    refine PC.seq ?_
    refine PC.region ?_
    refine PL.op rfl (Rd.moveT rfl) ?_
    refine PL.op rfl (Rd.moveT rfl) ?_
    refine PL.op rfl (Rd.lenT rfl) ?_
    refine PL.op rfl (Rd.lss rfl rfl) ?_
    refine PL.nil ?_
    refine thA_n ?_
    rcases cond_some hh1 with ⟨h_18, hh1⟩ | ⟨h_18, hh1⟩
    rotate_left
    · refine PC.cond_false rfl h_18 ?_
      refine PC.exit ?_
      refine thA_e ?_
      refine thA_e ?_
      refine inA_eq rfl ?_
      refine thA_n ?_
      obtain rfl := some_in hh1
      obtain rfl : (.inl () : Unit ⊕ Bool) = o13 := kk1
      exact ⟨(), hh0, [], ⟨rfl, rfl, trivial, trivial⟩⟩
    refine PC.cond_true rfl h_18 ?_
    refine PC.skip ?_
    refine thA_n ?_
    refine PC.seq ?_
    refine PC.block ?_
    refine PC.seq ?_
    obtain ⟨x19, h_20, hh1⟩ := bind_some hh1
    obtain ⟨x21, h_22, hh1⟩ := bind_some hh1
    obtain ⟨r23, h_24, hh1⟩ := bind_some hh1
    refine PC.any (id := 6) 10 (.seg [0, 1, 2, 3, 4, 5, 6, 7, 8, 9] .done) [] rfl (by kernel_rfl) rfl ?_
    refine PT.seg ?_
    refine PR.op rfl (Rd.moveT rfl) ?_
    refine PR.op rfl (Rd.moveT rfl) ?_
    refine PR.op rfl (Rd.ixM rfl rfl h_20) ?_
    refine PR.op rfl (Rd.elMR rfl h_20 rfl rfl) ?_
    refine PR.op rfl (Rd.moveT rfl) ?_
    refine PR.op rfl (Rd.moveT rfl) ?_
    refine PR.op rfl (Rd.ixM rfl rfl h_22) ?_
    refine PR.op rfl (Rd.elMR rfl h_22 rfl rfl) ?_
    refine PR.callM false [] (w_L_eqEntry N x19 x21 r23 h_24) rfl Try.call35 rfl ⟨.aggL ⟨.t _, .t _, .t _, trivial⟩, .aggL ⟨.t _, .t _, .t _, trivial⟩, trivial⟩ rfl trivial (fun h => by cases h) rfl ?_
    refine PR.op rfl (Rd.unnot rfl) ?_
    refine PR.nil ?_
    refine PT.done ?_
    refine PL.nil ?_
    refine thA_n ?_
    rcases cond_some hh1 with ⟨h_25, hh1⟩ | ⟨h_25, hh1⟩
    · refine PC.cond_false rfl (not_t h_25) ?_
      refine PC.skip ?_
      refine inA_n ?_
      refine thA_n ?_
      obtain ⟨n26, h_27, hh1⟩ := bind_some hh1
      refine PC.region ?_
      refine PL.op rfl (Rd.moveT rfl) ?_
      refine PL.op rfl (Rd.addM rfl rfl h_27) ?_
      refine PL.op rfl (Rd.asnT rfl) ?_
      refine PL.nil ?_
      obtain rfl := some_in hh1
      refine thA_n ?_
      exact ⟨(f15, n26), Nat.lt_succ_self _, kk1, [], ⟨rfl, rfl, trivial, ⟨.t _, .t _, .t _, trivial⟩⟩⟩
    refine PC.cond_true rfl (not_f h_25) ?_
    refine PC.seq ?_
    refine PC.region ?_
    refine PL.op rfl (Rd.asnT rfl) ?_
    refine PL.nil ?_
    refine thA_n ?_
    refine PC.ret ?_
    refine inA_r ?_
    refine thA_r ?_
    refine thA_r ?_
    refine inA_r ?_
    refine thA_r ?_
    obtain rfl := some_in hh1
    obtain rfl : (.inr false : Unit ⊕ Bool) = o13 := kk1
    refine thA_r ?_
    obtain rfl := some_in hh0
    exact FinA.mk (r := bA false) (bl := []) [] (.inl rfl) rfl (rl := [.tmp 4]) (.tmp .nil) rfl rfl rfl (.t _) trivial ⟨rfl, rfl⟩
  clear hh0
  rintro ⟨⟩ hh0
  replace hh0 : m_L_eqEntryS_k1 N  = some r := hh0
  unfold m_L_eqEntryS_k1 at hh0
  refine thA_n ?_
  refine PC.seq ?_
  refine PC.region ?_
  refine PL.op rfl (Rd.asnT rfl) ?_
  refine PL.nil ?_
  refine thA_n ?_
  refine PC.ret ?_
  obtain rfl := some_in hh0
  exact FinA.mk (r := bA true) (bl := []) [] (.inl rfl) rfl (rl := [.tmp 4]) (.tmp .nil) rfl rfl rfl (.t _) trivial ⟨rfl, rfl⟩

def m_L_markEntryS_k1 (N : Nat) (k19 : Int) (v20 : (List I_Entry)) : Option (Int × (List I_Entry)) :=
  some (k19, v20)
def m_L_markEntryS_b1 (N : Nat) (k1 : Int) (i2 : Int) (v3 : (List I_Entry)) : Option ((Int × Int × (List I_Entry)) ⊕ (Int × (List I_Entry))) :=
  cond (decide (i2 < (v3.length : Int)))
    ((m_L_markText N k1).bind fun r27 =>
    (ixI v3 i2).bind fun x29 =>
    (chk (k1 + (1 : Int))).bind fun n31 =>
    (m_L_markText N n31).bind fun r33 =>
    (chk (n31 + (1 : Int))).bind fun n35 =>
    (chk (n35 + (1 : Int))).bind fun n37 =>
    (chk (i2 + (1 : Int))).bind fun n39 =>
    some (.inl (n37, n39, (((v3.set i2.toNat (I_Entry.mk r27 x29.table x29.state)).set i2.toNat (I_Entry.mk r27 r33 x29.state)).set i2.toNat (I_Entry.mk r27 r33 n35)))))
    (some (.inr (k1, v3)))
def m_L_markEntryS (N : Nat) (p_a : (List I_Entry)) (p_k : Int) : Option (Int × (List I_Entry)) :=
  (loopM (β := Int × (List I_Entry)) (fun s : Int × Int × (List I_Entry) => m_L_markEntryS_b1 N s.1 s.2.1 s.2.2) N (p_k, (0 : Int), p_a)).bind fun e =>
  m_L_markEntryS_k1 N e.1 e.2
theorem w_L_markEntryS (N : Nat) (p_a : (List I_Entry)) (p_k : Int) (r : Int × (List I_Entry)) (hh0 : m_L_markEntryS N p_a p_k = some r) : FnX Try.prog 12 [⟨.tr (eL p_a), 62, 3⟩] [.os 0 0 p_a.length, iA p_k] (RE (iA r.1) [⟨.tr (eL r.2), 62, 3⟩]) := by
  unfold m_L_markEntryS at hh0
  refine FnX.mk Try.func12 rfl rfl ?_
  intro s hs
  refine PC.seq ?_
  refine PC.region ?_
  refine PL.op rfl (Rd.asnT rfl) ?_
  refine PL.nil ?_
  refine thA_n ?_
  refine PC.seq ?_
  refine PC.seq ?_
  refine PC.region ?_
  refine PL.op rfl (Rd.asnT rfl) ?_
  refine PL.nil ?_
  refine thA_n ?_
  obtain ⟨o21, h_22, hh0⟩ := bind_some hh0
  refine PC.cutE hs (fun x : Int × (List I_Entry) => [(1, iA x.1)]) (fun x => [⟨.tr (eL x.2), 62, 3⟩]) (fun x => m_L_markEntryS_k1 N x.1 x.2 = some r) ?_ ?_
  · refine PC.block ?_
    refine PC.loop hs (fun x : Nat × (Int × Int × (List I_Entry)) => [(0, .os 0 0 x.2.2.2.length), (1, iA x.2.1), (5, iA x.2.2.1)]) (fun x => [⟨.tr (eL x.2.2.2), 62, 3⟩]) (fun x => loopM (β := Int × (List I_Entry)) (fun s : Int × Int × (List I_Entry) => m_L_markEntryS_b1 N s.1 s.2.1 s.2.2) x.1 x.2 = some o21) (fun x => x.1) (N, (p_k, (0 : Int), p_a)) [some 0] ⟨rfl, rfl, ⟨⟨_, rfl, rfl, rfl, .tr _⟩, trivial⟩, ⟨.os rfl, .t _, .t _, trivial⟩⟩ h_22 ?_
    rintro ⟨f23_, k1, i2, v3⟩ h_25
    obtain ⟨f23, y24, rfl, hh1, kk1⟩ := loopM_some h_25
    replace hh1 : m_L_markEntryS_b1 N k1 i2 v3 = some y24 := hh1
    unfold m_L_markEntryS_b1 at hh1
    refine PC.seq ?_
    refine PC.seq ?_
    refine PC.region ?_
    refine PL.op rfl (Rd.moveT rfl) ?_
    refine PL.op rfl (Rd.moveO rfl) ?_
    refine PL.op rfl (Rd.lenO rfl rfl) ?_
    refine PL.op rfl (Rd.lss rfl rfl) ?_
    refine PL.nil ?_
    refine thA_n ?_
    rcases cond_some hh1 with ⟨h_26, hh1⟩ | ⟨h_26, hh1⟩
    rotate_left
    · refine PC.cond_false rfl h_26 ?_
      refine PC.exit ?_
      refine thA_e ?_
      refine thA_e ?_
      refine inA_eq rfl ?_
      refine thA_n ?_
      obtain rfl := some_in hh1
      obtain rfl : ((k1, v3) : Int × (List I_Entry)) = o21 := kk1
      exact ⟨(k1, v3), hh0, [some 0], ⟨rfl, rfl, ⟨⟨_, rfl, rfl, rfl, .tr _⟩, trivial⟩, ⟨.t _, trivial⟩⟩⟩
    refine PC.cond_true rfl h_26 ?_
    refine PC.skip ?_
    refine thA_n ?_
    refine PC.seq ?_
    refine PC.block ?_
    refine PC.seq ?_
    obtain ⟨r27, h_28, hh1⟩ := bind_some hh1
    obtain ⟨x29, h_30, hh1⟩ := bind_some hh1
    refine PC.region ?_
    refine PL.op rfl (Rd.moveO rfl) ?_
    refine PL.op rfl (Rd.moveT rfl) ?_
    refine PL.op rfl (Rd.moveT rfl) ?_
    refine PL.callM false [] (w_L_markText N k1 r27 h_28) rfl Try.call36 rfl ⟨.t _, trivial⟩ rfl trivial (fun h => by cases h) ?_
    refine PL.op rfl (Rd.ixOM rfl rfl rfl (ixI_lt h_30)) ?_
    refine PL.op rfl (Rd.fieldO rfl rfl) ?_
    refine PL.stFM (f := 0) (I_Entry.mk r27 x29.table x29.state) rfl rfl rfl rfl h_30 rfl rfl ?_
    refine PL.nO [some ⟨.tr (eL (v3.set i2.toNat (I_Entry.mk r27 x29.table x29.state))), 62, 3⟩] rfl ?_
    refine PL.nil ?_
    refine thA_n ?_
    refine PC.seq ?_
    obtain ⟨n31, h_32, hh1⟩ := bind_some hh1
    refine PC.region ?_
    refine PL.op rfl (Rd.moveT rfl) ?_
    refine PL.op rfl (Rd.addM rfl rfl h_32) ?_
    refine PL.op rfl (Rd.asnT rfl) ?_
    refine PL.nil ?_
    refine thA_n ?_
    refine PC.seq ?_
    obtain ⟨r33, h_34, hh1⟩ := bind_some hh1
    refine PC.region ?_
    refine PL.op rfl (Rd.moveO rfl) ?_
    refine PL.op rfl (Rd.moveT rfl) ?_
    refine PL.op rfl (Rd.moveT rfl) ?_
    refine PL.callM false [] (w_L_markText N n31 r33 h_34) rfl Try.call36 rfl ⟨.t _, trivial⟩ rfl trivial (fun h => by cases h) ?_
    refine PL.op rfl (Rd.ixOM rfl rfl rfl (by have hq := ixI_lt (ixI_set (y := (I_Entry.mk r27 x29.table x29.state)) h_30); simp only [List.length_set] at hq ⊢; exact hq)) ?_
    refine PL.op rfl (Rd.fieldO rfl rfl) ?_
    refine PL.stFM (f := 1) (I_Entry.mk r27 r33 x29.state) rfl rfl rfl rfl (ixI_set (y := (I_Entry.mk r27 x29.table x29.state)) h_30) rfl rfl ?_
    refine PL.nO [some ⟨.tr (eL ((v3.set i2.toNat (I_Entry.mk r27 x29.table x29.state)).set i2.toNat (I_Entry.mk r27 r33 x29.state))), 62, 3⟩] rfl ?_
    refine PL.nil ?_
    refine thA_n ?_
    refine PC.seq ?_
    obtain ⟨n35, h_36, hh1⟩ := bind_some hh1
    refine PC.region ?_
    refine PL.op rfl (Rd.moveT rfl) ?_
    refine PL.op rfl (Rd.addM rfl rfl h_36) ?_
    refine PL.op rfl (Rd.asnT rfl) ?_
    refine PL.nil ?_
    refine thA_n ?_
    refine PC.seq ?_
    refine PC.region ?_
    refine PL.op rfl (Rd.moveO rfl) ?_
    refine PL.op rfl (Rd.moveT rfl) ?_
    refine PL.op rfl (Rd.moveT rfl) ?_
    refine PL.op rfl (Rd.ixOM rfl rfl rfl (by have hq := ixI_lt (ixI_set (y := (I_Entry.mk r27 r33 x29.state)) (ixI_set (y := (I_Entry.mk r27 x29.table x29.state)) h_30)); simp only [List.length_set] at hq ⊢; exact hq)) ?_
    refine PL.op rfl (Rd.fieldO rfl rfl) ?_
    refine PL.stFM (f := 2) (I_Entry.mk r27 r33 n35) rfl rfl rfl rfl (ixI_set (y := (I_Entry.mk r27 r33 x29.state)) (ixI_set (y := (I_Entry.mk r27 x29.table x29.state)) h_30)) rfl rfl ?_
    refine PL.nO [some ⟨.tr (eL (((v3.set i2.toNat (I_Entry.mk r27 x29.table x29.state)).set i2.toNat (I_Entry.mk r27 r33 x29.state)).set i2.toNat (I_Entry.mk r27 r33 n35))), 62, 3⟩] rfl ?_
    refine PL.nil ?_
    refine thA_n ?_
    obtain ⟨n37, h_38, hh1⟩ := bind_some hh1
    refine PC.region ?_
    refine PL.op rfl (Rd.moveT rfl) ?_
    refine PL.op rfl (Rd.addM rfl rfl h_38) ?_
    refine PL.op rfl (Rd.asnT rfl) ?_
    refine PL.nil ?_
    refine inA_n ?_
    refine thA_n ?_
    obtain ⟨n39, h_40, hh1⟩ := bind_some hh1
    refine PC.region ?_
    refine PL.op rfl (Rd.moveT rfl) ?_
    refine PL.op rfl (Rd.addM rfl rfl h_40) ?_
    refine PL.op rfl (Rd.asnT rfl) ?_
    refine PL.nil ?_
    obtain rfl := some_in hh1
    refine thA_n ?_
    exact ⟨(f23, (n37, n39, (((v3.set i2.toNat (I_Entry.mk r27 x29.table x29.state)).set i2.toNat (I_Entry.mk r27 r33 x29.state)).set i2.toNat (I_Entry.mk r27 r33 n35)))), Nat.lt_succ_self _, kk1, [some 0], ⟨rfl, rfl, ⟨⟨_, rfl, rfl, rfl, .tr _⟩, trivial⟩, ⟨.osE rfl (by simp only [List.length_set]), .t _, .t _, trivial⟩⟩⟩
  clear hh0
  rintro ⟨k19, v20⟩ hh0
  replace hh0 : m_L_markEntryS_k1 N k19 v20 = some r := hh0
  unfold m_L_markEntryS_k1 at hh0
  refine thA_n ?_
  refine PC.seq ?_
  refine PC.region ?_
  refine PL.op rfl (Rd.moveT rfl) ?_
  refine PL.op rfl (Rd.asnT rfl) ?_
  refine PL.nil ?_
  refine thA_n ?_
  refine PC.ret ?_
  obtain rfl := some_in hh0
  exact FinA.mk (r := iA ((k19, v20).1)) (bl := [⟨.tr (eL ((k19, v20).2)), 62, 3⟩]) [some 0] (.inl rfl) rfl (rl := [.tmp 4]) (.tmp .nil) rfl rfl rfl (.t _) ⟨⟨_, rfl, rfl, rfl, .tr _⟩, trivial⟩ ⟨rfl, rfl⟩

def m_L_markStringS_k1 (N : Nat) (k13 : Int) (v14 : (List ByteArray)) : Option (Int × (List ByteArray)) :=
  some (k13, v14)
def m_L_markStringS_b1 (N : Nat) (k1 : Int) (i2 : Int) (v3 : (List ByteArray)) : Option ((Int × Int × (List ByteArray)) ⊕ (Int × (List ByteArray))) :=
  cond (decide (i2 < (v3.length : Int)))
    ((m_L_markText N k1).bind fun r21 =>
    (ixI v3 i2).bind fun x23 =>
    (chk (k1 + (1 : Int))).bind fun n25 =>
    (chk (i2 + (1 : Int))).bind fun n27 =>
    some (.inl (n25, n27, (v3.set i2.toNat r21))))
    (some (.inr (k1, v3)))
def m_L_markStringS (N : Nat) (p_a : (List ByteArray)) (p_k : Int) : Option (Int × (List ByteArray)) :=
  (loopM (β := Int × (List ByteArray)) (fun s : Int × Int × (List ByteArray) => m_L_markStringS_b1 N s.1 s.2.1 s.2.2) N (p_k, (0 : Int), p_a)).bind fun e =>
  m_L_markStringS_k1 N e.1 e.2
theorem w_L_markStringS (N : Nat) (p_a : (List ByteArray)) (p_k : Int) (r : Int × (List ByteArray)) (hh0 : m_L_markStringS N p_a p_k = some r) : FnX Try.prog 13 [⟨.tr (eL p_a), 9, 1⟩] [.os 0 0 p_a.length, iA p_k] (RE (iA r.1) [⟨.tr (eL r.2), 9, 1⟩]) := by
  unfold m_L_markStringS at hh0
  refine FnX.mk Try.func13 rfl rfl ?_
  intro s hs
  refine PC.seq ?_
  refine PC.region ?_
  refine PL.op rfl (Rd.asnT rfl) ?_
  refine PL.nil ?_
  refine thA_n ?_
  refine PC.seq ?_
  refine PC.seq ?_
  refine PC.region ?_
  refine PL.op rfl (Rd.asnT rfl) ?_
  refine PL.nil ?_
  refine thA_n ?_
  obtain ⟨o15, h_16, hh0⟩ := bind_some hh0
  refine PC.cutE hs (fun x : Int × (List ByteArray) => [(1, iA x.1)]) (fun x => [⟨.tr (eL x.2), 9, 1⟩]) (fun x => m_L_markStringS_k1 N x.1 x.2 = some r) ?_ ?_
  · refine PC.block ?_
    refine PC.loop hs (fun x : Nat × (Int × Int × (List ByteArray)) => [(0, .os 0 0 x.2.2.2.length), (1, iA x.2.1), (5, iA x.2.2.1)]) (fun x => [⟨.tr (eL x.2.2.2), 9, 1⟩]) (fun x => loopM (β := Int × (List ByteArray)) (fun s : Int × Int × (List ByteArray) => m_L_markStringS_b1 N s.1 s.2.1 s.2.2) x.1 x.2 = some o15) (fun x => x.1) (N, (p_k, (0 : Int), p_a)) [some 0] ⟨rfl, rfl, ⟨⟨_, rfl, rfl, rfl, .tr _⟩, trivial⟩, ⟨.os rfl, .t _, .t _, trivial⟩⟩ h_16 ?_
    rintro ⟨f17_, k1, i2, v3⟩ h_19
    obtain ⟨f17, y18, rfl, hh1, kk1⟩ := loopM_some h_19
    replace hh1 : m_L_markStringS_b1 N k1 i2 v3 = some y18 := hh1
    unfold m_L_markStringS_b1 at hh1
    refine PC.seq ?_
    refine PC.seq ?_
    refine PC.region ?_
    refine PL.op rfl (Rd.moveT rfl) ?_
    refine PL.op rfl (Rd.moveO rfl) ?_
    refine PL.op rfl (Rd.lenO rfl rfl) ?_
    refine PL.op rfl (Rd.lss rfl rfl) ?_
    refine PL.nil ?_
    refine thA_n ?_
    rcases cond_some hh1 with ⟨h_20, hh1⟩ | ⟨h_20, hh1⟩
    rotate_left
    · refine PC.cond_false rfl h_20 ?_
      refine PC.exit ?_
      refine thA_e ?_
      refine thA_e ?_
      refine inA_eq rfl ?_
      refine thA_n ?_
      obtain rfl := some_in hh1
      obtain rfl : ((k1, v3) : Int × (List ByteArray)) = o15 := kk1
      exact ⟨(k1, v3), hh0, [some 0], ⟨rfl, rfl, ⟨⟨_, rfl, rfl, rfl, .tr _⟩, trivial⟩, ⟨.t _, trivial⟩⟩⟩
    refine PC.cond_true rfl h_20 ?_
    refine PC.skip ?_
    refine thA_n ?_
    refine PC.seq ?_
    refine PC.block ?_
    refine PC.seq ?_
    obtain ⟨r21, h_22, hh1⟩ := bind_some hh1
    obtain ⟨x23, h_24, hh1⟩ := bind_some hh1
    refine PC.region ?_
    refine PL.op rfl (Rd.moveO rfl) ?_
    refine PL.op rfl (Rd.moveT rfl) ?_
    refine PL.op rfl (Rd.moveT rfl) ?_
    refine PL.callM false [] (w_L_markText N k1 r21 h_22) rfl Try.call36 rfl ⟨.t _, trivial⟩ rfl trivial (fun h => by cases h) ?_
    refine PL.op rfl (Rd.ixOM rfl rfl rfl (ixI_lt h_24)) ?_
    refine PL.stRM r21 rfl rfl rfl rfl rfl h_24 rfl ?_
    refine PL.nO [some ⟨.tr (eL (v3.set i2.toNat r21)), 9, 1⟩] rfl ?_
    refine PL.nil ?_
    refine thA_n ?_
    obtain ⟨n25, h_26, hh1⟩ := bind_some hh1
    refine PC.region ?_
    refine PL.op rfl (Rd.moveT rfl) ?_
    refine PL.op rfl (Rd.addM rfl rfl h_26) ?_
    refine PL.op rfl (Rd.asnT rfl) ?_
    refine PL.nil ?_
    refine inA_n ?_
    refine thA_n ?_
    obtain ⟨n27, h_28, hh1⟩ := bind_some hh1
    refine PC.region ?_
    refine PL.op rfl (Rd.moveT rfl) ?_
    refine PL.op rfl (Rd.addM rfl rfl h_28) ?_
    refine PL.op rfl (Rd.asnT rfl) ?_
    refine PL.nil ?_
    obtain rfl := some_in hh1
    refine thA_n ?_
    exact ⟨(f17, (n25, n27, (v3.set i2.toNat r21))), Nat.lt_succ_self _, kk1, [some 0], ⟨rfl, rfl, ⟨⟨_, rfl, rfl, rfl, .tr _⟩, trivial⟩, ⟨.osE rfl (by simp only [List.length_set]), .t _, .t _, trivial⟩⟩⟩
  clear hh0
  rintro ⟨k13, v14⟩ hh0
  replace hh0 : m_L_markStringS_k1 N k13 v14 = some r := hh0
  unfold m_L_markStringS_k1 at hh0
  refine thA_n ?_
  refine PC.seq ?_
  refine PC.region ?_
  refine PL.op rfl (Rd.moveT rfl) ?_
  refine PL.op rfl (Rd.asnT rfl) ?_
  refine PL.nil ?_
  refine thA_n ?_
  refine PC.ret ?_
  obtain rfl := some_in hh0
  exact FinA.mk (r := iA ((k13, v14).1)) (bl := [⟨.tr (eL ((k13, v14).2)), 9, 1⟩]) [some 0] (.inl rfl) rfl (rl := [.tmp 4]) (.tmp .nil) rfl rfl rfl (.t _) ⟨⟨_, rfl, rfl, rfl, .tr _⟩, trivial⟩ ⟨rfl, rfl⟩

def m_L_heldStringS_k1 (N : Nat) (k13 : Int) : Option (Int) :=
  some k13
def m_L_heldStringS_b1 (N : Nat) (p_a : (List ByteArray)) (k1 : Int) (i2 : Int) : Option ((Int × Int) ⊕ (Int ⊕ Int)) :=
  cond (decide (i2 < (p_a.length : Int)))
    ((ixI p_a i2).bind fun x20 =>
    (m_L_markText N k1).bind fun r22 =>
    cond (x20.toList == r22.toList)
      ((chk (k1 + (1 : Int))).bind fun n25 =>
      (chk (i2 + (1 : Int))).bind fun n27 =>
      some (.inl (n25, n27)))
      (some (.inr (.inr (-1 : Int)))))
    (some (.inr (.inl k1)))
def m_L_heldStringS (N : Nat) (p_a : (List ByteArray)) (p_k : Int) : Option (Int) :=
  (loopM (β := Int ⊕ Int) (fun s : Int × Int => m_L_heldStringS_b1 N p_a s.1 s.2) N (p_k, (0 : Int))).bind fun o => match o with
  | .inl e =>
    m_L_heldStringS_k1 N e
  | .inr v =>
    some v
theorem w_L_heldStringS (N : Nat) (p_a : (List ByteArray)) (p_k : Int) (r : Int) (hh0 : m_L_heldStringS N p_a p_k = some r) : FnX Try.prog 14 [] [sL p_a, iA p_k] (RE (iA r) []) := by
  unfold m_L_heldStringS at hh0
  refine FnX.mk Try.func14 rfl rfl ?_
  intro s hs
  refine PC.seq ?_
  refine PC.region ?_
  refine PL.op rfl (Rd.asnT rfl) ?_
  refine PL.nil ?_
  refine thA_n ?_
  refine PC.seq ?_
  refine PC.seq ?_
  refine PC.region ?_
  refine PL.op rfl (Rd.asnT rfl) ?_
  refine PL.nil ?_
  refine thA_n ?_
  obtain ⟨o14, h_15, hh0⟩ := bind_some hh0
  refine PC.cutE hs (fun x : Int => [(1, iA x)]) (fun x => []) (fun x => m_L_heldStringS_k1 N x = some r) ?_ ?_
  · refine PC.block ?_
    refine PC.loop hs (fun x : Nat × (Int × Int) => [(0, sL p_a), (1, iA x.2.1), (5, iA x.2.2)]) (fun x => []) (fun x => loopM (β := Int ⊕ Int) (fun s : Int × Int => m_L_heldStringS_b1 N p_a s.1 s.2) x.1 x.2 = some o14) (fun x => x.1) (N, (p_k, (0 : Int))) [] ⟨rfl, rfl, trivial, ⟨.t _, .t _, .t _, trivial⟩⟩ h_15 ?_
    rintro ⟨f16_, k1, i2⟩ h_18
    obtain ⟨f16, y17, rfl, hh1, kk1⟩ := loopM_some h_18
    replace hh1 : m_L_heldStringS_b1 N p_a k1 i2 = some y17 := hh1
    unfold m_L_heldStringS_b1 at hh1
    refine PC.seq ?_
    refine PC.seq ?_
    refine PC.region ?_
    refine PL.op rfl (Rd.moveT rfl) ?_
    refine PL.op rfl (Rd.moveT rfl) ?_
    refine PL.op rfl (Rd.lenT rfl) ?_
    refine PL.op rfl (Rd.lss rfl rfl) ?_
    refine PL.nil ?_
    refine thA_n ?_
    rcases cond_some hh1 with ⟨h_19, hh1⟩ | ⟨h_19, hh1⟩
    rotate_left
    · refine PC.cond_false rfl h_19 ?_
      refine PC.exit ?_
      refine thA_e ?_
      refine thA_e ?_
      refine inA_eq rfl ?_
      refine thA_n ?_
      obtain rfl := some_in hh1
      obtain rfl : (.inl k1 : Int ⊕ Int) = o14 := kk1
      exact ⟨k1, hh0, [], ⟨rfl, rfl, trivial, ⟨.t _, trivial⟩⟩⟩
    refine PC.cond_true rfl h_19 ?_
    refine PC.skip ?_
    refine thA_n ?_
    refine PC.seq ?_
    refine PC.block ?_
    refine PC.seq ?_
    refine PC.seq ?_
    obtain ⟨x20, h_21, hh1⟩ := bind_some hh1
    obtain ⟨r22, h_23, hh1⟩ := bind_some hh1
    refine PC.any (id := 4) 7 (.seg [0, 1, 2, 3, 4, 5, 6] .done) [] rfl (by kernel_rfl) rfl ?_
    refine PT.seg ?_
    refine PR.op rfl (Rd.moveT rfl) ?_
    refine PR.op rfl (Rd.moveT rfl) ?_
    refine PR.op rfl (Rd.ixM rfl rfl h_21) ?_
    refine PR.op rfl (Rd.elM1 rfl h_21 rfl rfl) ?_
    refine PR.op rfl (Rd.moveT rfl) ?_
    refine PR.callM false [] (w_L_markText N k1 r22 h_23) rfl Try.call36 rfl ⟨.t _, trivial⟩ rfl trivial (fun h => by cases h) rfl ?_
    refine PR.op rfl (Rd.neqS rfl rfl) ?_
    refine PR.nil ?_
    refine PT.done ?_
    refine PL.nil ?_
    refine thA_n ?_
    rcases cond_some hh1 with ⟨h_24, hh1⟩ | ⟨h_24, hh1⟩
    rotate_left
    · refine PC.cond_true rfl (not_f h_24) ?_
      refine PC.seq ?_
      refine PC.region ?_
      refine PL.op rfl (Rd.asnT rfl) ?_
      refine PL.nil ?_
      refine thA_n ?_
      refine PC.ret ?_
      refine thA_r ?_
      refine inA_r ?_
      refine thA_r ?_
      refine thA_r ?_
      refine inA_r ?_
      refine thA_r ?_
      obtain rfl := some_in hh1
      obtain rfl : (.inr (-1 : Int) : Int ⊕ Int) = o14 := kk1
      refine thA_r ?_
      obtain rfl := some_in hh0
      exact FinA.mk (r := iA (-1 : Int)) (bl := []) [] (.inl rfl) rfl (rl := [.tmp 4]) (.tmp .nil) rfl rfl rfl (.t _) trivial ⟨rfl, rfl⟩
    refine PC.cond_false rfl (not_t h_24) ?_
    refine PC.skip ?_
    refine thA_n ?_
    obtain ⟨n25, h_26, hh1⟩ := bind_some hh1
    refine PC.region ?_
    refine PL.op rfl (Rd.moveT rfl) ?_
    refine PL.op rfl (Rd.addM rfl rfl h_26) ?_
    refine PL.op rfl (Rd.asnT rfl) ?_
    refine PL.nil ?_
    refine inA_n ?_
    refine thA_n ?_
    obtain ⟨n27, h_28, hh1⟩ := bind_some hh1
    refine PC.region ?_
    refine PL.op rfl (Rd.moveT rfl) ?_
    refine PL.op rfl (Rd.addM rfl rfl h_28) ?_
    refine PL.op rfl (Rd.asnT rfl) ?_
    refine PL.nil ?_
    obtain rfl := some_in hh1
    refine thA_n ?_
    exact ⟨(f16, (n25, n27)), Nat.lt_succ_self _, kk1, [], ⟨rfl, rfl, trivial, ⟨.t _, .t _, .t _, trivial⟩⟩⟩
  clear hh0
  rintro k13 hh0
  replace hh0 : m_L_heldStringS_k1 N k13 = some r := hh0
  unfold m_L_heldStringS_k1 at hh0
  refine thA_n ?_
  refine PC.seq ?_
  refine PC.region ?_
  refine PL.op rfl (Rd.moveT rfl) ?_
  refine PL.op rfl (Rd.asnT rfl) ?_
  refine PL.nil ?_
  refine thA_n ?_
  refine PC.ret ?_
  obtain rfl := some_in hh0
  exact FinA.mk (r := iA k13) (bl := []) [] (.inl rfl) rfl (rl := [.tmp 4]) (.tmp .nil) rfl rfl rfl (.t _) trivial ⟨rfl, rfl⟩

end V
end Go.Proofs.Ytlpbgmahegoidaa
