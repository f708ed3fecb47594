/- Pages: the functions of the program and of the reference. No condition. -/
import Derived.Test.YtoljdhdfijnjiaaRdra
namespace Go.Proofs.Ytoljdhdfijnjiaa
namespace V
open Enc (enc)
set_option linter.unusedVariables false
set_option linter.unusedSimpArgs false
set_option maxHeartbeats 4000000
set_option maxRecDepth 100000
open Go.RowKit
attribute [local irreducible] thA inA FinA eL

structure I_Slot where
  live : Bool
  data : ByteArray
deriving DecidableEq
instance : Enc I_Slot := ⟨fun x => [.v (.bool x.live), .v (.string x.data)], 2, fun _ => rfl⟩
instance : EncF I_Slot := ⟨fun _ c h => by simp [enc] at h; rcases h with h | h <;> exact ⟨_, h⟩⟩
instance : EncI I_Slot := ⟨fun a b h => by rcases a with ⟨_, _⟩; rcases b with ⟨_, _⟩; simp [enc] at h; simp [h]⟩
instance : CEq Try.prog 35 [0, 2] := ⟨by kernel_rfl, by kernel_rfl, by kernel_rfl⟩
structure I_Page where
  slots : List I_Slot
deriving DecidableEq
instance : Enc I_Page := ⟨fun x => [.sl x.slots.length (eL x.slots)], 1, fun _ => rfl⟩
def m_I_Page_used_k1 (N : Nat) (x12 : Int) : Option (Int) :=
  some x12
def m_I_Page_used_b1 (N : Nat) (p_p : I_Page) (x1 : Int) (i2 : Int) : Option ((Int × Int) ⊕ Int) :=
  cond (decide (i2 < (p_p.slots.length : Int)))
    ((ixI p_p.slots i2).bind fun x19 =>
    (chk ((2 : Int) + (x19.data.size : Int))).bind fun n21 =>
    (chk (x1 + n21)).bind fun n23 =>
    (chk (i2 + (1 : Int))).bind fun n25 =>
    some (.inl (n23, n25)))
    (some (.inr x1))
def m_I_Page_used (N : Nat) (p_p : I_Page) : Option (Int) :=
  (loopM (β := Int) (fun s : Int × Int => m_I_Page_used_b1 N p_p s.1 s.2) N ((0 : Int), (0 : Int))).bind fun e =>
  m_I_Page_used_k1 N e
theorem w_I_Page_used (N : Nat) (p_p : I_Page) (r : Int) (hh0 : m_I_Page_used N p_p = some r) : FnX Try.prog 60 [] [.agg [sL p_p.slots]] (RE (iA r) []) := by
  unfold m_I_Page_used at hh0
  refine FnX.mk Try.func60 rfl rfl ?_
  intro s hs
  refine PC.seq ?_
  refine PC.region ?_
  refine PL.ef rfl (Ef.box rfl rfl rfl) ?_
  refine PL.nm (.op 0 0) [some ⟨.mx [sL p_p.slots], 25, 0⟩] rfl rfl ?_
  refine PL.op rfl (Rd.asnT rfl) ?_
  refine PL.nil ?_
  refine thA_n ?_
  refine PC.seq ?_
  refine PC.region ?_
  refine PL.op rfl (Rd.asnT rfl) ?_
  refine PL.nil ?_
  refine thA_n ?_
  refine PC.seq ?_
  refine PC.seq ?_
  refine PC.region ?_
  refine PL.op rfl (Rd.fieldO rfl rfl) ?_
  refine PL.op rfl (Rd.loadO rfl rfl rfl) ?_
  refine PL.op rfl (Rd.lenT rfl) ?_
  refine PL.op rfl (Rd.moveT rfl) ?_
  refine PL.nil ?_
  refine thA_n ?_
  obtain ⟨o13, h_14, hh0⟩ := bind_some hh0
  refine PC.cutE hs (fun x : Int => [(3, iA x)]) (fun x => []) (fun x => m_I_Page_used_k1 N x = some r) ?_ ?_
  · refine PC.block ?_
    refine PC.loop hs (fun x : Nat × (Int × Int) => [(3, iA x.2.1), (7, sL p_p.slots), (8, iA (p_p.slots.length : Int)), (9, iA x.2.2)]) (fun x => []) (fun x => loopM (β := Int) (fun s : Int × Int => m_I_Page_used_b1 N p_p s.1 s.2) x.1 x.2 = some o13) (fun x => x.1) (N, ((0 : Int), (0 : Int))) [] ⟨rfl, rfl, trivial, ⟨.t _, .t _, .t _, .t _, trivial⟩⟩ h_14 ?_
    rintro ⟨f15_, x1, i2⟩ h_17
    obtain ⟨f15, y16, rfl, hh1, kk1⟩ := loopM_some h_17
    replace hh1 : m_I_Page_used_b1 N p_p x1 i2 = some y16 := hh1
    unfold m_I_Page_used_b1 at hh1
    refine PC.seq ?_
    refine PC.region ?_
    refine PL.op rfl (Rd.lss rfl rfl) ?_
    refine PL.nil ?_
    refine thA_n ?_
    refine PC.seq ?_
    rcases cond_some hh1 with ⟨h_18, hh1⟩ | ⟨h_18, hh1⟩
    rotate_left
    · refine PC.cond_false rfl h_18 ?_
      refine PC.exit ?_
      refine thA_e ?_
      refine thA_e ?_
      refine inA_eq rfl ?_
      refine thA_n ?_
      obtain rfl := some_in hh1
      obtain rfl : (x1 : Int) = o13 := kk1
      exact ⟨x1, hh0, [], ⟨rfl, rfl, trivial, ⟨.t _, trivial⟩⟩⟩
    refine PC.cond_true rfl h_18 ?_
    refine PC.skip ?_
    refine thA_n ?_
    refine PC.seq ?_
    refine PC.block ?_
    refine PC.seq ?_
    obtain ⟨x19, h_20, hh1⟩ := bind_some hh1
    refine PC.region ?_
    refine PL.op rfl (Rd.ixM rfl rfl h_20) ?_
    refine PL.op rfl (Rd.elMR rfl h_20 rfl rfl) ?_
    refine PL.ef rfl (Ef.alloc rfl rfl) ?_
    refine PL.nm (.op 0 0) [some ⟨.mx [bA false, sA ByteArray.empty], 35, 0⟩] rfl rfl ?_
    refine PL.store rfl rfl rfl rfl rfl rfl rfl ?_
    refine PL.nO [some ⟨.mx [bA x19.live, sA x19.data], 35, 0⟩] rfl ?_
    refine PL.nil ?_
    refine thA_n ?_
    obtain ⟨n21, h_22, hh1⟩ := bind_some hh1
    obtain ⟨n23, h_24, hh1⟩ := bind_some hh1
    refine PC.region ?_
    refine PL.op rfl (Rd.moveT rfl) ?_
    refine PL.op rfl (Rd.fieldO rfl rfl) ?_
    refine PL.op rfl (Rd.loadO rfl rfl rfl) ?_
    refine PL.op rfl (Rd.lenSt rfl) ?_
    refine PL.op rfl (Rd.addM rfl rfl h_22) ?_
    refine PL.op rfl (Rd.addM rfl rfl h_24) ?_
    refine PL.op rfl (Rd.asnT rfl) ?_
    refine PL.nil ?_
    refine inA_n ?_
    refine thA_n ?_
    obtain ⟨n25, h_26, hh1⟩ := bind_some hh1
    refine PC.region ?_
    refine PL.op rfl (Rd.addM rfl rfl h_26) ?_
    refine PL.op rfl (Rd.moveT rfl) ?_
    refine PL.nil ?_
    obtain rfl := some_in hh1
    refine thA_n ?_
    exact ⟨(f15, (n23, n25)), Nat.lt_succ_self _, kk1, [], ⟨rfl, rfl, trivial, ⟨.t _, .t _, .t _, .t _, trivial⟩⟩⟩
  clear hh0
  rintro x12 hh0
  replace hh0 : m_I_Page_used_k1 N x12 = some r := hh0
  unfold m_I_Page_used_k1 at hh0
  refine thA_n ?_
  refine PC.seq ?_
  refine PC.region ?_
  refine PL.op rfl (Rd.moveT rfl) ?_
  refine PL.op rfl (Rd.asnT rfl) ?_
  refine PL.nil ?_
  refine thA_n ?_
  refine PC.ret ?_
  obtain rfl := some_in hh0
  exact FinA.mk (r := iA x12) (bl := []) [] (.inl rfl) rfl (rl := [.tmp 2]) (.tmp .nil) rfl rfl rfl (.t _) trivial ⟨rfl, rfl⟩

def m_I_ValidPage_k1 (N : Nat) (p_p : I_Page) : Option (Bool) :=
  cond (decide ((0 : Int) < (p_p.slots.length : Int)))
    ((chk ((p_p.slots.length : Int) - (1 : Int))).bind fun n18 =>
    (ixI p_p.slots n18).bind fun x20 =>
    cond x20.live
      ((m_I_Page_used N p_p).bind fun r23 =>
      some (decide (r23 ≤ (100 : Int))))
      (some false))
    ((m_I_Page_used N p_p).bind fun r25 =>
    some (decide (r25 ≤ (100 : Int))))
def m_I_ValidPage_b1 (N : Nat) (p_p : I_Page) (i2 : Int) : Option (Int ⊕ (Unit ⊕ Bool)) :=
  cond (decide (i2 < (p_p.slots.length : Int)))
    ((ixI p_p.slots i2).bind fun x28 =>
    cond x28.live
      ((chk (i2 + (1 : Int))).bind fun n31 =>
      some (.inl n31))
      (cond (x28.data.toList == ByteArray.empty.toList)
        ((chk (i2 + (1 : Int))).bind fun n34 =>
        some (.inl n34))
        (some (.inr (.inr false)))))
    (some (.inr (.inl ())))
def m_I_ValidPage (N : Nat) (p_p : I_Page) : Option (Bool) :=
  cond (decide ((8 : Int) < (p_p.slots.length : Int)))
    (some false)
    ((loopM (β := Unit ⊕ Bool) (fun s : Int => m_I_ValidPage_b1 N p_p s) N (0 : Int)).bind fun o => match o with
    | .inl e =>
      m_I_ValidPage_k1 N p_p 
    | .inr v =>
      some v)
theorem w_I_ValidPage (N : Nat) (p_p : I_Page) (r : Bool) (hh0 : m_I_ValidPage N p_p = some r) : FnX Try.prog 27 [] [.agg [sL p_p.slots]] (RE (bA r) []) := by
  unfold m_I_ValidPage at hh0
  refine FnX.mk Try.func27 rfl rfl ?_
  intro s hs
  refine PC.seq ?_
  refine PC.region ?_
  refine PL.ef rfl (Ef.box rfl rfl rfl) ?_
  refine PL.nm (.op 0 0) [some ⟨.mx [sL p_p.slots], 25, 0⟩] rfl rfl ?_
  refine PL.op rfl (Rd.asnT rfl) ?_
  refine PL.nil ?_
  refine thA_n ?_
  refine PC.seq ?_
  refine PC.seq ?_
  refine PC.region ?_
  refine PL.op rfl (Rd.fieldO rfl rfl) ?_
  refine PL.op rfl (Rd.loadO rfl rfl rfl) ?_
  refine PL.op rfl (Rd.lenT rfl) ?_
  refine PL.op rfl (Rd.gtr rfl rfl) ?_
  refine PL.nil ?_
  refine thA_n ?_
  rcases cond_some hh0 with ⟨h_1, hh0⟩ | ⟨h_1, hh0⟩
  · refine PC.cond_true rfl h_1 ?_
    refine PC.seq ?_
    refine PC.region ?_
    refine PL.op rfl (Rd.asnT rfl) ?_
    refine PL.nil ?_
    refine thA_n ?_
    refine PC.ret ?_
    refine thA_r ?_
    obtain rfl := some_in hh0
    exact FinA.mk (r := bA false) (bl := []) [] (.inl rfl) rfl (rl := [.tmp 2]) (.tmp .nil) rfl rfl rfl (.t _) trivial ⟨rfl, rfl⟩
  refine PC.cond_false rfl h_1 ?_
  refine PC.skip ?_
  refine thA_n ?_
  refine PC.seq ?_
  refine PC.seq ?_
  refine PC.region ?_
  refine PL.op rfl (Rd.fieldO rfl rfl) ?_
  refine PL.op rfl (Rd.loadO rfl rfl rfl) ?_
  refine PL.op rfl (Rd.lenT rfl) ?_
  refine PL.op rfl (Rd.moveT rfl) ?_
  refine PL.nil ?_
  refine thA_n ?_
  obtain ⟨o12, h_13, hh0⟩ := bind_some hh0
  refine PC.cutE hs (fun x : Unit => [(1, .op 0 0)]) (fun x => [⟨.mx [sL p_p.slots], 25, 0⟩]) (fun x => m_I_ValidPage_k1 N p_p  = some r) ?_ ?_
  · refine PC.block ?_
    refine PC.loop hs (fun x : Nat × (Int) => [(1, .op 0 0), (11, sL p_p.slots), (12, iA (p_p.slots.length : Int)), (13, iA x.2)]) (fun x => [⟨.mx [sL p_p.slots], 25, 0⟩]) (fun x => loopM (β := Unit ⊕ Bool) (fun s : Int => m_I_ValidPage_b1 N p_p s) x.1 x.2 = some o12) (fun x => x.1) (N, (0 : Int)) [some 0] ⟨rfl, rfl, ⟨⟨_, rfl, rfl, rfl, .mx ⟨.t _, trivial⟩⟩, trivial⟩, ⟨.op rfl, .t _, .t _, .t _, trivial⟩⟩ h_13 ?_
    rintro ⟨f14_, i2⟩ h_16
    obtain ⟨f14, y15, rfl, hh1, kk1⟩ := loopM_some h_16
    replace hh1 : m_I_ValidPage_b1 N p_p i2 = some y15 := hh1
    unfold m_I_ValidPage_b1 at hh1
    refine PC.seq ?_
    refine PC.region ?_
    refine PL.op rfl (Rd.lss rfl rfl) ?_
    refine PL.nil ?_
    refine thA_n ?_
    refine PC.seq ?_
    rcases cond_some hh1 with ⟨h_27, hh1⟩ | ⟨h_27, hh1⟩
    rotate_left
    · refine PC.cond_false rfl h_27 ?_
      refine PC.exit ?_
      refine thA_e ?_
      refine thA_e ?_
      refine inA_eq rfl ?_
      refine thA_n ?_
      obtain rfl := some_in hh1
      obtain rfl : (.inl () : Unit ⊕ Bool) = o12 := kk1
      exact ⟨(), hh0, [some 0], ⟨rfl, rfl, ⟨⟨_, rfl, rfl, rfl, .mx ⟨.t _, trivial⟩⟩, trivial⟩, ⟨.op rfl, trivial⟩⟩⟩
    refine PC.cond_true rfl h_27 ?_
    refine PC.skip ?_
    refine thA_n ?_
    refine PC.seq ?_
    refine PC.block ?_
    refine PC.seq ?_
    obtain ⟨x28, h_29, hh1⟩ := bind_some hh1
    refine PC.region ?_
    refine PL.op rfl (Rd.ixM rfl rfl h_29) ?_
    refine PL.op rfl (Rd.elMR rfl h_29 rfl rfl) ?_
    refine PL.ef rfl (Ef.alloc rfl rfl) ?_
    refine PL.nm (.op 1 0) [some ⟨.mx [sL p_p.slots], 25, 0⟩, some ⟨.mx [bA false, sA ByteArray.empty], 35, 0⟩] rfl rfl ?_
    refine PL.store rfl rfl rfl rfl rfl rfl rfl ?_
    refine PL.nO [some ⟨.mx [sL p_p.slots], 25, 0⟩, some ⟨.mx [bA x28.live, sA x28.data], 35, 0⟩] rfl ?_
    refine PL.nil ?_
    refine thA_n ?_
    refine PC.seq ?_
    rcases cond_some hh1 with ⟨h_30, hh1⟩ | ⟨h_30, hh1⟩
    · refine PC.region ?_
      refine PL.op rfl (Rd.fieldO rfl rfl) ?_
      refine PL.op rfl (Rd.loadO rfl rfl rfl) ?_
      refine PL.op rfl (Rd.unnot rfl) ?_
      refine PL.op rfl (Rd.moveT rfl) ?_
      refine PL.guard_off rfl rfl (not_t h_30) ?_
      refine PL.guard_off rfl rfl (not_t h_30) ?_
      refine PL.guard_off rfl rfl (not_t h_30) ?_
      refine PL.op rfl (Rd.pick_f rfl (not_t h_30)) ?_
      refine PL.nil ?_
      refine thA_n ?_
      refine PC.cond_false rfl rfl ?_
      refine PC.skip ?_
      refine inA_n ?_
      refine thA_n ?_
      obtain ⟨n31, h_32, hh1⟩ := bind_some hh1
      refine PC.region ?_
      refine PL.op rfl (Rd.addM rfl rfl h_32) ?_
      refine PL.op rfl (Rd.moveT rfl) ?_
      refine PL.nil ?_
      obtain rfl := some_in hh1
      refine thA_n ?_
      exact ⟨(f14, n31), Nat.lt_succ_self _, kk1, [some 0], ⟨rfl, rfl, ⟨⟨_, rfl, rfl, rfl, .mx ⟨.t _, trivial⟩⟩, trivial⟩, ⟨.op rfl, .t _, .t _, .t _, trivial⟩⟩⟩
    refine PC.region ?_
    refine PL.op rfl (Rd.fieldO rfl rfl) ?_
    refine PL.op rfl (Rd.loadO rfl rfl rfl) ?_
    refine PL.op rfl (Rd.unnot rfl) ?_
    refine PL.op rfl (Rd.moveT rfl) ?_
    refine PL.guard_on rfl (not_f h_30) ?_
    refine PL.op rfl (Rd.fieldO rfl rfl) ?_
    refine PL.guard_on rfl (not_f h_30) ?_
    refine PL.op rfl (Rd.loadO rfl rfl rfl) ?_
    refine PL.guard_on rfl (not_f h_30) ?_
    refine PL.op rfl (Rd.neqS rfl rfl) ?_
    refine PL.op rfl (Rd.pick_t rfl (not_f h_30)) ?_
    refine PL.nil ?_
    refine thA_n ?_
    rcases cond_some hh1 with ⟨h_33, hh1⟩ | ⟨h_33, hh1⟩
    · refine PC.cond_false rfl (not_t h_33) ?_
      refine PC.skip ?_
      refine inA_n ?_
      refine thA_n ?_
      obtain ⟨n34, h_35, hh1⟩ := bind_some hh1
      refine PC.region ?_
      refine PL.op rfl (Rd.addM rfl rfl h_35) ?_
      refine PL.op rfl (Rd.moveT rfl) ?_
      refine PL.nil ?_
      obtain rfl := some_in hh1
      refine thA_n ?_
      exact ⟨(f14, n34), Nat.lt_succ_self _, kk1, [some 0], ⟨rfl, rfl, ⟨⟨_, rfl, rfl, rfl, .mx ⟨.t _, trivial⟩⟩, trivial⟩, ⟨.op rfl, .t _, .t _, .t _, trivial⟩⟩⟩
    refine PC.cond_true rfl (not_f h_33) ?_
    refine PC.seq ?_
    refine PC.region ?_
    refine PL.op rfl (Rd.asnT rfl) ?_
    refine PL.nil ?_
    refine thA_n ?_
    refine PC.ret ?_
    refine inA_r ?_
    refine thA_r ?_
    refine thA_r ?_
    refine inA_r ?_
    refine thA_r ?_
    obtain rfl := some_in hh1
    obtain rfl : (.inr false : Unit ⊕ Bool) = o12 := kk1
    refine thA_r ?_
    obtain rfl := some_in hh0
    exact FinA.mk (r := bA false) (bl := []) [] (.inl rfl) rfl (rl := [.tmp 2]) (.tmp .nil) rfl rfl rfl (.t _) trivial ⟨rfl, rfl⟩
  clear hh0
  rintro ⟨⟩ hh0
  replace hh0 : m_I_ValidPage_k1 N p_p  = some r := hh0
  unfold m_I_ValidPage_k1 at hh0
  refine thA_n ?_
  refine PC.seq ?_
  refine PC.seq ?_
  refine PC.region ?_
  refine PL.op rfl (Rd.fieldO rfl rfl) ?_
  refine PL.op rfl (Rd.loadO rfl rfl rfl) ?_
  refine PL.op rfl (Rd.lenT rfl) ?_
  refine PL.op rfl (Rd.asnT rfl) ?_
  refine PL.nil ?_
  refine thA_n ?_
  refine PC.seq ?_
  rcases cond_some hh0 with ⟨h_17, hh0⟩ | ⟨h_17, hh0⟩
  rotate_left
  · refine PC.region ?_
    refine PL.op rfl (Rd.moveT rfl) ?_
    refine PL.op rfl (Rd.gtr rfl rfl) ?_
    refine PL.op rfl (Rd.moveT rfl) ?_
    refine PL.guard_off rfl rfl h_17 ?_
    refine PL.guard_off rfl rfl h_17 ?_
    refine PL.guard_off rfl rfl h_17 ?_
    refine PL.guard_off rfl rfl h_17 ?_
    refine PL.guard_off rfl rfl h_17 ?_
    refine PL.guard_off rfl rfl h_17 ?_
    refine PL.guard_off rfl rfl h_17 ?_
    refine PL.guard_off rfl rfl h_17 ?_
    refine PL.op rfl (Rd.pick_f rfl h_17) ?_
    refine PL.nil ?_
    refine thA_n ?_
    refine PC.cond_false rfl rfl ?_
    refine PC.skip ?_
    refine thA_n ?_
    refine PC.seq ?_
    obtain ⟨r25, h_26, hh0⟩ := bind_some hh0
    refine PC.region ?_
    refine PL.op rfl (Rd.loadBox rfl rfl rfl) ?_
    refine PL.callM false [] (w_I_Page_used N p_p r25 h_26) rfl Try.call60 rfl ⟨.aggL ⟨.t _, trivial⟩, trivial⟩ rfl trivial (fun h => by cases h) ?_
    refine PL.op rfl (Rd.leq rfl rfl) ?_
    refine PL.op rfl (Rd.asnT rfl) ?_
    refine PL.nil ?_
    refine thA_n ?_
    refine PC.ret ?_
    obtain rfl := some_in hh0
    exact FinA.mk (r := bA (decide (r25 ≤ (100 : Int)))) (bl := []) [] (.inl rfl) rfl (rl := [.tmp 2]) (.tmp .nil) rfl rfl rfl (.t _) trivial ⟨rfl, rfl⟩
  obtain ⟨n18, h_19, hh0⟩ := bind_some hh0
  obtain ⟨x20, h_21, hh0⟩ := bind_some hh0
  refine PC.region ?_
  refine PL.op rfl (Rd.moveT rfl) ?_
  refine PL.op rfl (Rd.gtr rfl rfl) ?_
  refine PL.op rfl (Rd.moveT rfl) ?_
  refine PL.guard_on rfl h_17 ?_
  refine PL.op rfl (Rd.fieldO rfl rfl) ?_
  refine PL.guard_on rfl h_17 ?_
  refine PL.op rfl (Rd.loadO rfl rfl rfl) ?_
  refine PL.guard_on rfl h_17 ?_
  refine PL.op rfl (Rd.moveT rfl) ?_
  refine PL.guard_on rfl h_17 ?_
  refine PL.op rfl (Rd.subM rfl rfl h_19) ?_
  refine PL.guard_on rfl h_17 ?_
  refine PL.op rfl (Rd.ixM rfl rfl h_21) ?_
  refine PL.guard_on rfl h_17 ?_
  refine PL.op rfl (Rd.fieldT rfl) ?_
  refine PL.guard_on rfl h_17 ?_
  refine PL.op rfl (Rd.elMF (f := 0) rfl h_21 rfl rfl) ?_
  refine PL.guard_on rfl h_17 ?_
  refine PL.op rfl (Rd.unnot rfl) ?_
  refine PL.op rfl (Rd.pick_t rfl h_17) ?_
  refine PL.nil ?_
  refine thA_n ?_
  rcases cond_some hh0 with ⟨h_22, hh0⟩ | ⟨h_22, hh0⟩
  rotate_left
  · refine PC.cond_true rfl (not_f h_22) ?_
    refine PC.seq ?_
    refine PC.region ?_
    refine PL.op rfl (Rd.asnT rfl) ?_
    refine PL.nil ?_
    refine thA_n ?_
    refine PC.ret ?_
    refine thA_r ?_
    obtain rfl := some_in hh0
    exact FinA.mk (r := bA false) (bl := []) [] (.inl rfl) rfl (rl := [.tmp 2]) (.tmp .nil) rfl rfl rfl (.t _) trivial ⟨rfl, rfl⟩
  refine PC.cond_false rfl (not_t h_22) ?_
  refine PC.skip ?_
  refine thA_n ?_
  refine PC.seq ?_
  obtain ⟨r23, h_24, hh0⟩ := bind_some hh0
  refine PC.region ?_
  refine PL.op rfl (Rd.loadBox rfl rfl rfl) ?_
  refine PL.callM false [] (w_I_Page_used N p_p r23 h_24) rfl Try.call60 rfl ⟨.aggL ⟨.t _, trivial⟩, trivial⟩ rfl trivial (fun h => by cases h) ?_
  refine PL.op rfl (Rd.leq rfl rfl) ?_
  refine PL.op rfl (Rd.asnT rfl) ?_
  refine PL.nil ?_
  refine thA_n ?_
  refine PC.ret ?_
  obtain rfl := some_in hh0
  exact FinA.mk (r := bA (decide (r23 ≤ (100 : Int)))) (bl := []) [] (.inl rfl) rfl (rl := [.tmp 2]) (.tmp .nil) rfl rfl rfl (.t _) trivial ⟨rfl, rfl⟩

def m_I_PageFree (N : Nat) (p_p : I_Page) : Option (Int) :=
  (m_I_ValidPage N p_p).bind fun r1 =>
  cond r1
    ((m_I_Page_used N p_p).bind fun r4 =>
    (chk ((100 : Int) - r4)).bind fun n6 =>
    some n6)
    (some (-1 : Int))
theorem w_I_PageFree (N : Nat) (p_p : I_Page) (r : Int) (hh0 : m_I_PageFree N p_p = some r) : FnX Try.prog 20 [] [.agg [sL p_p.slots]] (RE (iA r) []) := by
  unfold m_I_PageFree at hh0
  refine FnX.mk Try.func20 rfl rfl ?_
  intro s hs
  refine PC.seq ?_
  refine PC.region ?_
  refine PL.ef rfl (Ef.box rfl rfl rfl) ?_
  refine PL.nm (.op 0 0) [some ⟨.mx [sL p_p.slots], 25, 0⟩] rfl rfl ?_
  refine PL.op rfl (Rd.asnT rfl) ?_
  refine PL.nil ?_
  refine thA_n ?_
  refine PC.seq ?_
  refine PC.seq ?_
  obtain ⟨r1, h_2, hh0⟩ := bind_some hh0
  refine PC.region ?_
  refine PL.op rfl (Rd.loadBox rfl rfl rfl) ?_
  refine PL.callM false [] (w_I_ValidPage N p_p r1 h_2) rfl Try.call27 rfl ⟨.aggL ⟨.t _, trivial⟩, trivial⟩ rfl trivial (fun h => by cases h) ?_
  refine PL.op rfl (Rd.unnot rfl) ?_
  refine PL.nil ?_
  refine thA_n ?_
  rcases cond_some hh0 with ⟨h_3, hh0⟩ | ⟨h_3, hh0⟩
  rotate_left
  · refine PC.cond_true rfl (not_f h_3) ?_
    refine PC.seq ?_
    refine PC.region ?_
    refine PL.op rfl (Rd.asnT rfl) ?_
    refine PL.nil ?_
    refine thA_n ?_
    refine PC.ret ?_
    refine thA_r ?_
    obtain rfl := some_in hh0
    exact FinA.mk (r := iA (-1 : Int)) (bl := []) [] (.inl rfl) rfl (rl := [.tmp 2]) (.tmp .nil) rfl rfl rfl (.t _) trivial ⟨rfl, rfl⟩
  refine PC.cond_false rfl (not_t h_3) ?_
  refine PC.skip ?_
  refine thA_n ?_
  refine PC.seq ?_
  obtain ⟨r4, h_5, hh0⟩ := bind_some hh0
  obtain ⟨n6, h_7, hh0⟩ := bind_some hh0
  refine PC.region ?_
  refine PL.op rfl (Rd.loadBox rfl rfl rfl) ?_
  refine PL.callM false [] (w_I_Page_used N p_p r4 h_5) rfl Try.call60 rfl ⟨.aggL ⟨.t _, trivial⟩, trivial⟩ rfl trivial (fun h => by cases h) ?_
  refine PL.op rfl (Rd.subM rfl rfl h_7) ?_
  refine PL.op rfl (Rd.asnT rfl) ?_
  refine PL.nil ?_
  refine thA_n ?_
  refine PC.ret ?_
  obtain rfl := some_in hh0
  exact FinA.mk (r := iA n6) (bl := []) [] (.inl rfl) rfl (rl := [.tmp 2]) (.tmp .nil) rfl rfl rfl (.t _) trivial ⟨rfl, rfl⟩

def m_slices_Clone_I_Slot (N : Nat) (p_s : List I_Slot) : Option (List I_Slot) := appM 24 ([] : List I_Slot) p_s
theorem w_slices_Clone_I_Slot (N : Nat) (p_s : List I_Slot) (r : List I_Slot) (hh0 : m_slices_Clone_I_Slot N p_s = some r) : FnX Try.prog 95 [] [sL p_s] (RE (.os 0 0 r.length) [⟨.tr (eL r), 35, 2⟩]) := by
  unfold m_slices_Clone_I_Slot at hh0
  have hr := (appM_spec hh0).1
  simp only [List.nil_append] at hr
  refine FnX.mk Try.func95 rfl rfl ?_
  intro s hs
  refine PC.seq ?_
  refine PC.region ?_
  refine PL.op rfl (Rd.asnT rfl) ?_
  refine PL.nil ?_
  refine thA_n ?_
  refine PC.seq ?_
  refine PC.seq ?_
  refine PC.region ?_
  refine PL.op rfl (Rd.moveT rfl) ?_
  refine PL.eqNil rfl rfl rfl ?_
  intro b hb
  refine PL.nil ?_
  refine thA_n ?_
  cases b with
  | true =>
    have h0 : p_s = [] := List.eq_nil_of_length_eq_zero (hb rfl)
    subst h0; subst hr
    refine PC.cond_true rfl rfl ?_
    refine PC.seq ?_
    refine PC.region ?_
    refine PL.op rfl (Rd.asnT rfl) ?_
    refine PL.nil ?_
    refine thA_n ?_
    refine PC.ret ?_
    refine thA_r ?_
    exact FinA.mk (r := .os 0 0 0) (bl := [⟨.tr (eL ([] : List I_Slot)), 35, 2⟩]) [none] (.inl rfl) rfl (rl := [.tmp 2]) (.tmp .nil) rfl rfl rfl (.osn rfl) ⟨ow_nil _, trivial⟩ ⟨rfl, rfl⟩
  | false =>
    clear hr
    refine PC.cond_false rfl rfl ?_
    refine PC.skip ?_
    refine thA_n ?_
    refine PC.seq ?_
    refine PC.region ?_
    refine PL.ef rfl (Ef.lit0M I_Slot) ?_
    refine PL.op rfl (Rd.moveT rfl) ?_
    refine PL.apM hs rfl rfl rfl rfl (SrcA.eL rfl) rfl rfl rfl rfl hh0 ?_
    refine PL.op rfl (Rd.asnO rfl) ?_
    refine PL.nil ?_
    refine thA_n ?_
    refine PC.ret ?_
    exact FinA.mk (r := .os 0 0 r.length) (bl := [⟨.tr (eL r), 35, 2⟩]) [some 1] (.inl rfl) rfl (rl := [.tmp 2]) (.tmp .nil) rfl rfl rfl (.os rfl) ⟨⟨_, rfl, rfl, rfl, .tr _⟩, trivial⟩ ⟨rfl, rfl⟩

def m_I_Page_clone (N : Nat) (p_p : I_Page) : Option (I_Page) :=
  (m_slices_Clone_I_Slot N p_p.slots).bind fun r1 =>
  some (I_Page.mk r1)
theorem w_I_Page_clone (N : Nat) (p_p : I_Page) (r : I_Page) (hh0 : m_I_Page_clone N p_p = some r) : FnX Try.prog 63 [] [.agg [sL p_p.slots]] (RE (.agg [.os 0 0 r.slots.length]) [⟨.tr (eL r.slots), 35, 2⟩]) := by
  unfold m_I_Page_clone at hh0
  refine FnX.mk Try.func63 rfl rfl ?_
  intro s hs
  refine PC.seq ?_
  refine PC.region ?_
  refine PL.ef rfl (Ef.box rfl rfl rfl) ?_
  refine PL.nm (.op 0 0) [some ⟨.mx [sL p_p.slots], 25, 0⟩] rfl rfl ?_
  refine PL.ef rfl (Ef.alloc rfl rfl) ?_
  refine PL.nm (.op 1 0) [some ⟨.mx [sL p_p.slots], 25, 0⟩, some ⟨.mx [.t (.v (.slice none 0 0))], 25, 0⟩] rfl rfl ?_
  refine PL.nil ?_
  refine thA_n ?_
  refine PC.seq ?_
  obtain ⟨r1, h_2, hh0⟩ := bind_some hh0
  refine PC.region ?_
  refine PL.op rfl (Rd.fieldO rfl rfl) ?_
  refine PL.op rfl (Rd.loadO rfl rfl rfl) ?_
  refine PL.callM false [] (w_slices_Clone_I_Slot N p_p.slots r1 h_2) rfl Try.call95 rfl ⟨.t _, trivial⟩ rfl trivial (fun h => by cases h) ?_
  refine PL.nm (.os 2 0 r1.length) [some ⟨.mx [sL p_p.slots], 25, 0⟩, some ⟨.mx [.t (.v (.slice none 0 0))], 25, 0⟩, some ⟨.tr (eL r1), 35, 2⟩] rfl rfl ?_
  refine PL.op rfl (Rd.build rfl rfl rfl rfl) ?_
  refine PL.store rfl rfl rfl rfl rfl rfl rfl ?_
  refine PL.nO [some ⟨.mx [sL p_p.slots], 25, 0⟩, some ⟨.mx [.os 2 0 r1.length], 25, 0⟩, some ⟨.tr (eL r1), 35, 2⟩] rfl ?_
  refine PL.nil ?_
  refine thA_n ?_
  refine PC.ret ?_
  obtain rfl := some_in hh0
  exact FinA.mk (r := .agg [.os 0 0 r1.length]) (bl := [⟨.tr (eL r1), 35, 2⟩]) [some 2] (.inl rfl) rfl (rl := [.cell 2 25]) (.cellN rfl rfl rfl rfl .nil) rfl rfl rfl (.aggL ⟨.os rfl, trivial⟩) ⟨⟨_, rfl, rfl, rfl, .tr _⟩, trivial⟩ ⟨rfl, rfl⟩

def m_slices_IndexFunc_I_Slot_k1 (N : Nat) (p_f : I_Slot → Option Bool) : Option (Int) :=
  some (-1 : Int)
def m_slices_IndexFunc_I_Slot_b1 (N : Nat) (p_f : I_Slot → Option Bool) (p_s : (List I_Slot)) (i1 : Int) : Option (Int ⊕ (Unit ⊕ Int)) :=
  cond (decide (i1 < (p_s.length : Int)))
    ((ixI p_s i1).bind fun x16 =>
    (p_f x16).bind fun r18 =>
    cond r18
      (some (.inr (.inr i1)))
      ((chk (i1 + (1 : Int))).bind fun n21 =>
      some (.inl n21)))
    (some (.inr (.inl ())))
def m_slices_IndexFunc_I_Slot (N : Nat) (p_s : (List I_Slot)) (p_f : I_Slot → Option Bool) : Option (Int) :=
  (loopM (β := Unit ⊕ Int) (fun s : Int => m_slices_IndexFunc_I_Slot_b1 N p_f p_s s) N (0 : Int)).bind fun o => match o with
  | .inl e =>
    m_slices_IndexFunc_I_Slot_k1 N p_f 
  | .inr v =>
    some v
theorem w_slices_IndexFunc_I_Slot (N : Nat) (p_s : (List I_Slot)) (p_f : I_Slot → Option Bool) (g_p_f : FuncId) (c_p_f : List Tr) (hr_p_f : ∀ args w, (callFunc g_p_f args).run Try.prog w = .ok (.enter g_p_f args) w) (hp_p_f : ∀ (a0 : I_Slot) r, p_f a0 = some r → Fn Try.prog g_p_f ((.agg [bA a0.live, sA a0.data]) :: c_p_f.map .t) (RE (bA r) [])) (r : Int) (hh0 : m_slices_IndexFunc_I_Slot N p_s p_f = some r) : FnX Try.prog 64 [] [sL p_s, .t (.fn (.func g_p_f) c_p_f)] (RE (iA r) []) := by
  unfold m_slices_IndexFunc_I_Slot at hh0
  refine FnX.mk Try.func64 rfl rfl ?_
  intro s hs
  refine PC.seq ?_
  refine PC.region ?_
  refine PL.op rfl (Rd.asnT rfl) ?_
  refine PL.nil ?_
  refine thA_n ?_
  refine PC.seq ?_
  refine PC.seq ?_
  refine PC.region ?_
  refine PL.op rfl (Rd.moveT rfl) ?_
  refine PL.op rfl (Rd.lenT rfl) ?_
  refine PL.op rfl (Rd.moveT rfl) ?_
  refine PL.nil ?_
  refine thA_n ?_
  obtain ⟨o10, h_11, hh0⟩ := bind_some hh0
  refine PC.cutE hs (fun x : Unit => []) (fun x => []) (fun x => m_slices_IndexFunc_I_Slot_k1 N p_f  = some r) ?_ ?_
  · refine PC.block ?_
    refine PC.loop hs (fun x : Nat × (Int) => [(0, sL p_s), (1, .t (.fn (.func g_p_f) c_p_f)), (7, iA (p_s.length : Int)), (8, iA x.2)]) (fun x => []) (fun x => loopM (β := Unit ⊕ Int) (fun s : Int => m_slices_IndexFunc_I_Slot_b1 N p_f p_s s) x.1 x.2 = some o10) (fun x => x.1) (N, (0 : Int)) [] ⟨rfl, rfl, trivial, ⟨.t _, .t _, .t _, .t _, trivial⟩⟩ h_11 ?_
    rintro ⟨f12_, i1⟩ h_14
    obtain ⟨f12, y13, rfl, hh1, kk1⟩ := loopM_some h_14
    replace hh1 : m_slices_IndexFunc_I_Slot_b1 N p_f p_s i1 = some y13 := hh1
    unfold m_slices_IndexFunc_I_Slot_b1 at hh1
    refine PC.seq ?_
    refine PC.region ?_
    refine PL.op rfl (Rd.lss rfl rfl) ?_
    refine PL.nil ?_
    refine thA_n ?_
    refine PC.seq ?_
    rcases cond_some hh1 with ⟨h_15, hh1⟩ | ⟨h_15, hh1⟩
    rotate_left
    · refine PC.cond_false rfl h_15 ?_
      refine PC.exit ?_
      refine thA_e ?_
      refine thA_e ?_
      refine inA_eq rfl ?_
      refine thA_n ?_
      obtain rfl := some_in hh1
      obtain rfl : (.inl () : Unit ⊕ Int) = o10 := kk1
      exact ⟨(), hh0, [], ⟨rfl, rfl, trivial, trivial⟩⟩
    refine PC.cond_true rfl h_15 ?_
    refine PC.skip ?_
    refine thA_n ?_
    refine PC.seq ?_
    refine PC.block ?_
    refine PC.seq ?_
    refine PC.region ?_
    refine PL.op rfl (Rd.moveT rfl) ?_
    refine PL.op rfl (Rd.asnT rfl) ?_
    refine PL.nil ?_
    refine thA_n ?_
    refine PC.seq ?_
    obtain ⟨x16, h_17, hh1⟩ := bind_some hh1
    obtain ⟨r18, h_19, hh1⟩ := bind_some hh1
    refine PC.region ?_
    refine PL.op rfl (Rd.moveT rfl) ?_
    refine PL.op rfl (Rd.moveT rfl) ?_
    refine PL.op rfl (Rd.moveT rfl) ?_
    refine PL.op rfl (Rd.ixM rfl rfl h_17) ?_
    refine PL.op rfl (Rd.elMR rfl h_17 rfl rfl) ?_
    refine PL.callF1M (hp_p_f x16 _ h_19) rfl rfl rfl hr_p_f (.aggL (by repeat (first | exact trivial | refine ⟨.t _, ?_⟩))) ?_
    refine PL.nil ?_
    refine thA_n ?_
    rcases cond_some hh1 with ⟨h_20, hh1⟩ | ⟨h_20, hh1⟩
    rotate_left
    · refine PC.cond_false rfl h_20 ?_
      refine PC.skip ?_
      refine inA_n ?_
      refine thA_n ?_
      obtain ⟨n21, h_22, hh1⟩ := bind_some hh1
      refine PC.region ?_
      refine PL.op rfl (Rd.addM rfl rfl h_22) ?_
      refine PL.op rfl (Rd.moveT rfl) ?_
      refine PL.nil ?_
      obtain rfl := some_in hh1
      refine thA_n ?_
      exact ⟨(f12, n21), Nat.lt_succ_self _, kk1, [], ⟨rfl, rfl, trivial, ⟨.t _, .t _, .t _, .t _, trivial⟩⟩⟩
    refine PC.cond_true rfl h_20 ?_
    refine PC.seq ?_
    refine PC.region ?_
    refine PL.op rfl (Rd.moveT rfl) ?_
    refine PL.op rfl (Rd.asnT rfl) ?_
    refine PL.nil ?_
    refine thA_n ?_
    refine PC.ret ?_
    refine inA_r ?_
    refine thA_r ?_
    refine thA_r ?_
    refine inA_r ?_
    refine thA_r ?_
    obtain rfl := some_in hh1
    obtain rfl : (.inr i1 : Unit ⊕ Int) = o10 := kk1
    refine thA_r ?_
    obtain rfl := some_in hh0
    exact FinA.mk (r := iA i1) (bl := []) [] (.inl rfl) rfl (rl := [.tmp 4]) (.tmp .nil) rfl rfl rfl (.t _) trivial ⟨rfl, rfl⟩
  clear hh0
  rintro ⟨⟩ hh0
  replace hh0 : m_slices_IndexFunc_I_Slot_k1 N p_f  = some r := hh0
  unfold m_slices_IndexFunc_I_Slot_k1 at hh0
  refine thA_n ?_
  refine PC.seq ?_
  refine PC.region ?_
  refine PL.op rfl (Rd.asnT rfl) ?_
  refine PL.nil ?_
  refine thA_n ?_
  refine PC.ret ?_
  obtain rfl := some_in hh0
  exact FinA.mk (r := iA (-1 : Int)) (bl := []) [] (.inl rfl) rfl (rl := [.tmp 4]) (.tmp .nil) rfl rfl rfl (.t _) trivial ⟨rfl, rfl⟩

def m_I_PutSlot_1 (N : Nat) (p_s : I_Slot) : Option (Bool) :=
  some (!p_s.live)
theorem w_I_PutSlot_1 (N : Nat) (p_s : I_Slot) (r : Bool) (hh0 : m_I_PutSlot_1 N p_s = some r) : FnX Try.prog 65 [] [.agg [bA p_s.live, sA p_s.data]] (RE (bA r) []) := by
  unfold m_I_PutSlot_1 at hh0
  refine FnX.mk Try.func65 rfl rfl ?_
  intro s hs
  refine PC.seq ?_
  refine PC.region ?_
  refine PL.ef rfl (Ef.box rfl rfl rfl) ?_
  refine PL.nm (.op 0 0) [some ⟨.mx [bA p_s.live, sA p_s.data], 35, 0⟩] rfl rfl ?_
  refine PL.op rfl (Rd.asnT rfl) ?_
  refine PL.nil ?_
  refine thA_n ?_
  refine PC.seq ?_
  refine PC.region ?_
  refine PL.op rfl (Rd.fieldO rfl rfl) ?_
  refine PL.op rfl (Rd.loadO rfl rfl rfl) ?_
  refine PL.op rfl (Rd.unnot rfl) ?_
  refine PL.op rfl (Rd.asnT rfl) ?_
  refine PL.nil ?_
  refine thA_n ?_
  refine PC.ret ?_
  obtain rfl := some_in hh0
  exact FinA.mk (r := bA (!p_s.live)) (bl := []) [] (.inl rfl) rfl (rl := [.tmp 2]) (.tmp .nil) rfl rfl rfl (.t _) trivial ⟨rfl, rfl⟩

def m_I_PutSlot (N : Nat) (p_p : I_Page) (p_data : ByteArray) : Option (I_Page × Int × Bool) :=
  (m_I_ValidPage N p_p).bind fun r1 =>
  cond r1
    ((m_I_Page_clone N p_p).bind fun r4 =>
    (m_slices_IndexFunc_I_Slot N r4.slots (fun a0 => m_I_PutSlot_1 N a0)).bind fun r6 =>
    cond (decide (r6 < (0 : Int)))
      ((appM 24 r4.slots [(I_Slot.mk false ByteArray.empty)]).bind fun xs9 =>
      (ixI xs9 (r4.slots.length : Int)).bind fun x11 =>
      (m_I_ValidPage N (I_Page.mk (xs9.set (r4.slots.length : Int).toNat (I_Slot.mk true p_data)))).bind fun r13 =>
      cond r13
        (some ((I_Page.mk (xs9.set (r4.slots.length : Int).toNat (I_Slot.mk true p_data))), (r4.slots.length : Int), true))
        (some ((I_Page.mk ([] : List I_Slot)), (-1 : Int), false)))
      ((ixI r4.slots r6).bind fun x16 =>
      (m_I_ValidPage N (I_Page.mk (r4.slots.set r6.toNat (I_Slot.mk true p_data)))).bind fun r18 =>
      cond r18
        (some ((I_Page.mk (r4.slots.set r6.toNat (I_Slot.mk true p_data))), r6, true))
        (some ((I_Page.mk ([] : List I_Slot)), (-1 : Int), false))))
    (some ((I_Page.mk ([] : List I_Slot)), (-1 : Int), false))
theorem w_I_PutSlot (N : Nat) (p_p : I_Page) (p_data : ByteArray) (r : I_Page × Int × Bool) (hh0 : m_I_PutSlot N p_p p_data = some r) : FnX Try.prog 22 [] [.agg [sL p_p.slots], sA p_data] (RE (.tup [.agg [.os 0 0 r.1.slots.length], iA r.2.1, bA r.2.2]) [⟨.tr (eL r.1.slots), 35, 2⟩]) := by
  unfold m_I_PutSlot at hh0
  refine FnX.mk Try.func22 rfl rfl ?_
  intro s hs
  refine PC.seq ?_
  refine PC.region ?_
  refine PL.ef rfl (Ef.box rfl rfl rfl) ?_
  refine PL.nm (.op 0 0) [some ⟨.mx [sL p_p.slots], 25, 0⟩] rfl rfl ?_
  refine PL.ef rfl (Ef.alloc rfl rfl) ?_
  refine PL.nm (.op 1 0) [some ⟨.mx [sL p_p.slots], 25, 0⟩, some ⟨.mx [.t (.v (.slice none 0 0))], 25, 0⟩] rfl rfl ?_
  refine PL.op rfl (Rd.asnT rfl) ?_
  refine PL.op rfl (Rd.asnT rfl) ?_
  refine PL.nil ?_
  refine thA_n ?_
  refine PC.seq ?_
  refine PC.seq ?_
  obtain ⟨r1, h_2, hh0⟩ := bind_some hh0
  refine PC.region ?_
  refine PL.op rfl (Rd.loadBox rfl rfl rfl) ?_
  refine PL.callM false [] (w_I_ValidPage N p_p r1 h_2) rfl Try.call27 rfl ⟨.aggL ⟨.t _, trivial⟩, trivial⟩ rfl trivial (fun h => by cases h) ?_
  refine PL.op rfl (Rd.unnot rfl) ?_
  refine PL.nil ?_
  refine thA_n ?_
  rcases cond_some hh0 with ⟨h_3, hh0⟩ | ⟨h_3, hh0⟩
  rotate_left
  · refine PC.cond_true rfl (not_f h_3) ?_
    refine PC.seq ?_
    refine PC.region ?_
    refine PL.op rfl (Rd.build rfl rfl rfl rfl) ?_
    refine PL.store rfl rfl rfl rfl rfl rfl rfl ?_
    refine PL.op rfl (Rd.asnT rfl) ?_
    refine PL.op rfl (Rd.asnT rfl) ?_
    refine PL.nil ?_
    refine thA_n ?_
    refine PC.ret ?_
    refine thA_r ?_
    obtain rfl := some_in hh0
    exact FinA.mk (r := .tup [.agg [.os 0 0 ((((I_Page.mk ([] : List I_Slot)), (-1 : Int), false).1.slots).length)], iA (((I_Page.mk ([] : List I_Slot)), (-1 : Int), false).2.1), bA (((I_Page.mk ([] : List I_Slot)), (-1 : Int), false).2.2)]) (bl := [⟨.tr (eL (((I_Page.mk ([] : List I_Slot)), (-1 : Int), false).1.slots)), 35, 2⟩]) [none] (.inl rfl) rfl (rl := [.cell 4 25, .tmp 5, .tmp 6]) (.cellN rfl rfl rfl rfl (.tmp (.tmp .nil))) rfl rfl rfl (.tupL ⟨.aggL ⟨.osn rfl, trivial⟩, .t _, .t _, trivial⟩) ⟨ow_nil _, trivial⟩ ⟨rfl, rfl⟩
  refine PC.cond_false rfl (not_t h_3) ?_
  refine PC.skip ?_
  refine thA_n ?_
  refine PC.seq ?_
  obtain ⟨r4, h_5, hh0⟩ := bind_some hh0
  refine PC.region ?_
  refine PL.op rfl (Rd.loadBox rfl rfl rfl) ?_
  refine PL.callM false [] (w_I_Page_clone N p_p r4 h_5) rfl Try.call63 rfl ⟨.aggL ⟨.t _, trivial⟩, trivial⟩ rfl trivial (fun h => by cases h) ?_
  refine PL.nm (.agg [.os 2 0 r4.slots.length]) [some ⟨.mx [sL p_p.slots], 25, 0⟩, some ⟨.mx [.t (.v (.slice none 0 0))], 25, 0⟩, some ⟨.tr (eL r4.slots), 35, 2⟩] rfl rfl ?_
  refine PL.ef rfl (Ef.alloc rfl rfl) ?_
  refine PL.nm (.op 3 0) [some ⟨.mx [sL p_p.slots], 25, 0⟩, some ⟨.mx [.t (.v (.slice none 0 0))], 25, 0⟩, some ⟨.tr (eL r4.slots), 35, 2⟩, some ⟨.mx [.t (.v (.slice none 0 0))], 25, 0⟩] rfl rfl ?_
  refine PL.store rfl rfl rfl rfl rfl rfl rfl ?_
  refine PL.nO [some ⟨.mx [sL p_p.slots], 25, 0⟩, some ⟨.mx [.t (.v (.slice none 0 0))], 25, 0⟩, some ⟨.tr (eL r4.slots), 35, 2⟩, some ⟨.mx [.os 2 0 r4.slots.length], 25, 0⟩] rfl ?_
  refine PL.nil ?_
  refine thA_n ?_
  refine PC.seq ?_
  obtain ⟨r6, h_7, hh0⟩ := bind_some hh0
  refine PC.region ?_
  refine PL.op rfl (Rd.fieldO rfl rfl) ?_
  refine PL.op rfl (Rd.loadO rfl rfl rfl) ?_
  refine PL.callM true [] (w_slices_IndexFunc_I_Slot N r4.slots (fun a0 => m_I_PutSlot_1 N a0) 65 [] Try.call65 (fun a0 r h => w_I_PutSlot_1 N a0 r h) r6 h_7) rfl Try.call64 rfl ⟨.own rfl (by first | decide | exact List.not_mem_nil) rfl rfl, Sb.fntL trivial, trivial⟩ rfl trivial (fun _ => ⟨trivial, flat_nil⟩) ?_
  refine PL.op rfl (Rd.asnT rfl) ?_
  refine PL.nil ?_
  refine thA_n ?_
  refine PC.seq ?_
  refine PC.seq ?_
  refine PC.region ?_
  refine PL.op rfl (Rd.moveT rfl) ?_
  refine PL.op rfl (Rd.lss rfl rfl) ?_
  refine PL.nil ?_
  refine thA_n ?_
  rcases cond_some hh0 with ⟨h_8, hh0⟩ | ⟨h_8, hh0⟩
  rotate_left
  · refine PC.cond_false rfl h_8 ?_
    refine PC.skip ?_
    refine thA_n ?_
    refine PC.seq ?_
    obtain ⟨x16, h_17, hh0⟩ := bind_some hh0
    refine PC.region ?_
    refine PL.op rfl (Rd.fieldO rfl rfl) ?_
    refine PL.op rfl (Rd.loadO rfl rfl rfl) ?_
    refine PL.op rfl (Rd.moveT rfl) ?_
    refine PL.op rfl (Rd.moveT rfl) ?_
    refine PL.op rfl (Rd.build rfl rfl rfl rfl) ?_
    refine PL.op rfl (Rd.ixOM rfl rfl rfl (ixI_lt h_17)) ?_
    refine PL.stRM (I_Slot.mk true p_data) rfl rfl rfl rfl rfl h_17 rfl ?_
    refine PL.nO [some ⟨.mx [sL p_p.slots], 25, 0⟩, some ⟨.mx [.t (.v (.slice none 0 0))], 25, 0⟩, some ⟨.tr (eL (r4.slots.set r6.toNat (I_Slot.mk true p_data))), 35, 2⟩, some ⟨.mx [.os 2 0 r4.slots.length], 25, 0⟩] rfl ?_
    refine PL.nil ?_
    refine thA_n ?_
    refine PC.seq ?_
    refine PC.seq ?_
    obtain ⟨r18, h_19, hh0⟩ := bind_some hh0
    refine PC.region ?_
    refine PL.op rfl (Rd.loadBox rfl rfl rfl) ?_
    refine PL.callM true [] (w_I_ValidPage N (I_Page.mk (r4.slots.set r6.toNat (I_Slot.mk true p_data))) r18 h_19) rfl Try.call27 rfl ⟨.aggL ⟨.own rfl (by first | decide | exact List.not_mem_nil) (by simp only [List.length_set]) rfl, trivial⟩, trivial⟩ rfl trivial (fun _ => ⟨trivial, flat_nil⟩) ?_
    refine PL.op rfl (Rd.unnot rfl) ?_
    refine PL.nil ?_
    refine thA_n ?_
    rcases cond_some hh0 with ⟨h_20, hh0⟩ | ⟨h_20, hh0⟩
    rotate_left
    · refine PC.cond_true rfl (not_f h_20) ?_
      refine PC.seq ?_
      refine PC.region ?_
      refine PL.op rfl (Rd.build rfl rfl rfl rfl) ?_
      refine PL.store rfl rfl rfl rfl rfl rfl rfl ?_
      refine PL.op rfl (Rd.asnT rfl) ?_
      refine PL.op rfl (Rd.asnT rfl) ?_
      refine PL.nil ?_
      refine thA_n ?_
      refine PC.ret ?_
      refine thA_r ?_
      obtain rfl := some_in hh0
      exact FinA.mk (r := .tup [.agg [.os 0 0 ((((I_Page.mk ([] : List I_Slot)), (-1 : Int), false).1.slots).length)], iA (((I_Page.mk ([] : List I_Slot)), (-1 : Int), false).2.1), bA (((I_Page.mk ([] : List I_Slot)), (-1 : Int), false).2.2)]) (bl := [⟨.tr (eL (((I_Page.mk ([] : List I_Slot)), (-1 : Int), false).1.slots)), 35, 2⟩]) [none] (.inl rfl) rfl (rl := [.cell 4 25, .tmp 5, .tmp 6]) (.cellN rfl rfl rfl rfl (.tmp (.tmp .nil))) rfl rfl rfl (.tupL ⟨.aggL ⟨.osn rfl, trivial⟩, .t _, .t _, trivial⟩) ⟨ow_nil _, trivial⟩ ⟨rfl, rfl⟩
    refine PC.cond_false rfl (not_t h_20) ?_
    refine PC.skip ?_
    refine thA_n ?_
    refine PC.seq ?_
    refine PC.region ?_
    refine PL.op rfl (Rd.loadBox rfl rfl rfl) ?_
    refine PL.op rfl (Rd.moveT rfl) ?_
    refine PL.store rfl rfl rfl rfl rfl rfl rfl ?_
    refine PL.nO [some ⟨.mx [sL p_p.slots], 25, 0⟩, some ⟨.mx [.os 2 0 r4.slots.length], 25, 0⟩, some ⟨.tr (eL (r4.slots.set r6.toNat (I_Slot.mk true p_data))), 35, 2⟩, some ⟨.mx [.os 2 0 r4.slots.length], 25, 0⟩] rfl ?_
    refine PL.op rfl (Rd.asnT rfl) ?_
    refine PL.op rfl (Rd.asnT rfl) ?_
    refine PL.nil ?_
    refine thA_n ?_
    refine PC.ret ?_
    obtain rfl := some_in hh0
    exact FinA.mk (r := .tup [.agg [.os 0 0 ((((I_Page.mk (r4.slots.set r6.toNat (I_Slot.mk true p_data))), r6, true).1.slots).length)], iA (((I_Page.mk (r4.slots.set r6.toNat (I_Slot.mk true p_data))), r6, true).2.1), bA (((I_Page.mk (r4.slots.set r6.toNat (I_Slot.mk true p_data))), r6, true).2.2)]) (bl := [⟨.tr (eL (((I_Page.mk (r4.slots.set r6.toNat (I_Slot.mk true p_data))), r6, true).1.slots)), 35, 2⟩]) [some 2] (.inl rfl) rfl (rl := [.cell 4 25, .tmp 5, .tmp 6]) (.cellN rfl rfl rfl rfl (.tmp (.tmp .nil))) rfl rfl rfl (.tupL ⟨.aggL ⟨.osE rfl (by simp only [List.length_set]), trivial⟩, .t _, .t _, trivial⟩) ⟨⟨_, rfl, rfl, rfl, .tr _⟩, trivial⟩ ⟨rfl, rfl⟩
  refine PC.cond_true rfl h_8 ?_
  refine PC.seq ?_
  refine PC.region ?_
  refine PL.op rfl (Rd.fieldO rfl rfl) ?_
  refine PL.op rfl (Rd.loadO rfl rfl rfl) ?_
  refine PL.op rfl (Rd.lenO rfl rfl) ?_
  refine PL.op rfl (Rd.asnT rfl) ?_
  refine PL.nil ?_
  refine thA_n ?_
  obtain ⟨xs9, h_10, hh0⟩ := bind_some hh0
  refine PC.region ?_
  refine PL.op rfl (Rd.fieldO rfl rfl) ?_
  refine PL.op rfl (Rd.loadO rfl rfl rfl) ?_
  refine PL.op rfl (Rd.build rfl rfl rfl rfl) ?_
  refine PL.ef rfl (Ef.litM (α := I_Slot) [(I_Slot.mk false ByteArray.empty)] [_] rfl rfl (by decide) rfl rfl rfl rfl) ?_
  refine PL.nm (.os 4 0 1) [some ⟨.mx [sL p_p.slots], 25, 0⟩, some ⟨.mx [.t (.v (.slice none 0 0))], 25, 0⟩, some ⟨.tr (eL r4.slots), 35, 2⟩, some ⟨.mx [.os 2 0 r4.slots.length], 25, 0⟩, some ⟨.tr (eL [(I_Slot.mk false ByteArray.empty)]), 35, 2⟩] rfl rfl ?_
  refine PL.apM hs rfl rfl rfl rfl (SrcA.ownE rfl rfl rfl) rfl rfl rfl rfl h_10 ?_
  refine PL.nm (.os 5 0 xs9.length) [some ⟨.mx [sL p_p.slots], 25, 0⟩, some ⟨.mx [.t (.v (.slice none 0 0))], 25, 0⟩, none, some ⟨.mx [.os 2 0 r4.slots.length], 25, 0⟩, some ⟨.tr (eL [(I_Slot.mk false ByteArray.empty)]), 35, 2⟩, some ⟨.tr (eL xs9), 35, 2⟩] rfl rfl ?_
  refine PL.op rfl (Rd.fieldO rfl rfl) ?_
  refine PL.store rfl rfl rfl rfl rfl rfl rfl ?_
  refine PL.nO [some ⟨.mx [sL p_p.slots], 25, 0⟩, some ⟨.mx [.t (.v (.slice none 0 0))], 25, 0⟩, none, some ⟨.mx [.os 5 0 xs9.length], 25, 0⟩, some ⟨.tr (eL [(I_Slot.mk false ByteArray.empty)]), 35, 2⟩, some ⟨.tr (eL xs9), 35, 2⟩] rfl ?_
  refine PL.nil ?_
  refine thA_n ?_
  refine PC.seq ?_
  obtain ⟨x11, h_12, hh0⟩ := bind_some hh0
  refine PC.region ?_
  refine PL.op rfl (Rd.fieldO rfl rfl) ?_
  refine PL.op rfl (Rd.loadO rfl rfl rfl) ?_
  refine PL.op rfl (Rd.moveT rfl) ?_
  refine PL.op rfl (Rd.moveT rfl) ?_
  refine PL.op rfl (Rd.build rfl rfl rfl rfl) ?_
  refine PL.op rfl (Rd.ixOM rfl rfl rfl (ixI_lt h_12)) ?_
  refine PL.stRM (I_Slot.mk true p_data) rfl rfl rfl rfl rfl h_12 rfl ?_
  refine PL.nO [some ⟨.mx [sL p_p.slots], 25, 0⟩, some ⟨.mx [.t (.v (.slice none 0 0))], 25, 0⟩, none, some ⟨.mx [.os 5 0 xs9.length], 25, 0⟩, some ⟨.tr (eL [(I_Slot.mk false ByteArray.empty)]), 35, 2⟩, some ⟨.tr (eL (xs9.set (r4.slots.length : Int).toNat (I_Slot.mk true p_data))), 35, 2⟩] rfl ?_
  refine PL.nil ?_
  refine thA_n ?_
  refine PC.seq ?_
  refine PC.seq ?_
  obtain ⟨r13, h_14, hh0⟩ := bind_some hh0
  refine PC.region ?_
  refine PL.op rfl (Rd.loadBox rfl rfl rfl) ?_
  refine PL.callM true [] (w_I_ValidPage N (I_Page.mk (xs9.set (r4.slots.length : Int).toNat (I_Slot.mk true p_data))) r13 h_14) rfl Try.call27 rfl ⟨.aggL ⟨.own rfl (by first | decide | exact List.not_mem_nil) (by simp only [List.length_set]) rfl, trivial⟩, trivial⟩ rfl trivial (fun _ => ⟨trivial, flat_nil⟩) ?_
  refine PL.op rfl (Rd.unnot rfl) ?_
  refine PL.nil ?_
  refine thA_n ?_
  rcases cond_some hh0 with ⟨h_15, hh0⟩ | ⟨h_15, hh0⟩
  rotate_left
  · refine PC.cond_true rfl (not_f h_15) ?_
    refine PC.seq ?_
    refine PC.region ?_
    refine PL.op rfl (Rd.build rfl rfl rfl rfl) ?_
    refine PL.store rfl rfl rfl rfl rfl rfl rfl ?_
    refine PL.op rfl (Rd.asnT rfl) ?_
    refine PL.op rfl (Rd.asnT rfl) ?_
    refine PL.nil ?_
    refine thA_n ?_
    refine PC.ret ?_
    refine thA_r ?_
    obtain rfl := some_in hh0
    exact FinA.mk (r := .tup [.agg [.os 0 0 ((((I_Page.mk ([] : List I_Slot)), (-1 : Int), false).1.slots).length)], iA (((I_Page.mk ([] : List I_Slot)), (-1 : Int), false).2.1), bA (((I_Page.mk ([] : List I_Slot)), (-1 : Int), false).2.2)]) (bl := [⟨.tr (eL (((I_Page.mk ([] : List I_Slot)), (-1 : Int), false).1.slots)), 35, 2⟩]) [none] (.inl rfl) rfl (rl := [.cell 4 25, .tmp 5, .tmp 6]) (.cellN rfl rfl rfl rfl (.tmp (.tmp .nil))) rfl rfl rfl (.tupL ⟨.aggL ⟨.osn rfl, trivial⟩, .t _, .t _, trivial⟩) ⟨ow_nil _, trivial⟩ ⟨rfl, rfl⟩
  refine PC.cond_false rfl (not_t h_15) ?_
  refine PC.skip ?_
  refine thA_n ?_
  refine PC.seq ?_
  refine PC.region ?_
  refine PL.op rfl (Rd.loadBox rfl rfl rfl) ?_
  refine PL.op rfl (Rd.moveT rfl) ?_
  refine PL.store rfl rfl rfl rfl rfl rfl rfl ?_
  refine PL.nO [some ⟨.mx [sL p_p.slots], 25, 0⟩, some ⟨.mx [.os 5 0 xs9.length], 25, 0⟩, none, some ⟨.mx [.os 5 0 xs9.length], 25, 0⟩, some ⟨.tr (eL [(I_Slot.mk false ByteArray.empty)]), 35, 2⟩, some ⟨.tr (eL (xs9.set (r4.slots.length : Int).toNat (I_Slot.mk true p_data))), 35, 2⟩] rfl ?_
  refine PL.op rfl (Rd.asnT rfl) ?_
  refine PL.op rfl (Rd.asnT rfl) ?_
  refine PL.nil ?_
  refine thA_n ?_
  refine PC.ret ?_
  obtain rfl := some_in hh0
  exact FinA.mk (r := .tup [.agg [.os 0 0 ((((I_Page.mk (xs9.set (r4.slots.length : Int).toNat (I_Slot.mk true p_data))), (r4.slots.length : Int), true).1.slots).length)], iA (((I_Page.mk (xs9.set (r4.slots.length : Int).toNat (I_Slot.mk true p_data))), (r4.slots.length : Int), true).2.1), bA (((I_Page.mk (xs9.set (r4.slots.length : Int).toNat (I_Slot.mk true p_data))), (r4.slots.length : Int), true).2.2)]) (bl := [⟨.tr (eL (((I_Page.mk (xs9.set (r4.slots.length : Int).toNat (I_Slot.mk true p_data))), (r4.slots.length : Int), true).1.slots)), 35, 2⟩]) [some 5] (.inl rfl) rfl (rl := [.cell 4 25, .tmp 5, .tmp 6]) (.cellN rfl rfl rfl rfl (.tmp (.tmp .nil))) rfl rfl rfl (.tupL ⟨.aggL ⟨.osE rfl (by simp only [List.length_set]), trivial⟩, .t _, .t _, trivial⟩) ⟨⟨_, rfl, rfl, rfl, .tr _⟩, trivial⟩ ⟨rfl, rfl⟩

def m_I_Page_live (N : Nat) (p_p : I_Page) (p_at : Int) : Option (Bool) :=
  cond (decide ((0 : Int) ≤ p_at))
    (cond (decide (p_at < (p_p.slots.length : Int)))
      ((ixI p_p.slots p_at).bind fun x3 =>
      some x3.live)
      (some false))
    (some false)
theorem w_I_Page_live (N : Nat) (p_p : I_Page) (p_at : Int) (r : Bool) (hh0 : m_I_Page_live N p_p p_at = some r) : FnX Try.prog 68 [] [.agg [sL p_p.slots], iA p_at] (RE (bA r) []) := by
  unfold m_I_Page_live at hh0
  refine FnX.mk Try.func68 rfl rfl ?_
  intro s hs
  refine PC.seq ?_
  refine PC.region ?_
  refine PL.ef rfl (Ef.box rfl rfl rfl) ?_
  refine PL.nm (.op 0 0) [some ⟨.mx [sL p_p.slots], 25, 0⟩] rfl rfl ?_
  refine PL.op rfl (Rd.asnT rfl) ?_
  refine PL.nil ?_
  refine thA_n ?_
  refine PC.seq ?_
  rcases cond_some hh0 with ⟨h_1, hh0⟩ | ⟨h_1, hh0⟩
  rotate_left
  · refine PC.region ?_
    refine PL.op rfl (Rd.moveT rfl) ?_
    refine PL.op rfl (Rd.geq rfl rfl) ?_
    refine PL.op rfl (Rd.moveT rfl) ?_
    refine PL.guard_off rfl rfl h_1 ?_
    refine PL.guard_off rfl rfl h_1 ?_
    refine PL.guard_off rfl rfl h_1 ?_
    refine PL.guard_off rfl rfl h_1 ?_
    refine PL.guard_off rfl rfl h_1 ?_
    refine PL.op rfl (Rd.pick_f rfl h_1) ?_
    refine PL.op rfl (Rd.moveT rfl) ?_
    refine PL.guard_off rfl rfl rfl ?_
    refine PL.guard_off rfl rfl rfl ?_
    refine PL.guard_off rfl rfl rfl ?_
    refine PL.guard_off rfl rfl rfl ?_
    refine PL.guard_off rfl rfl rfl ?_
    refine PL.guard_off rfl rfl rfl ?_
    refine PL.op rfl (Rd.pick_f rfl rfl) ?_
    refine PL.op rfl (Rd.asnT rfl) ?_
    refine PL.nil ?_
    refine thA_n ?_
    refine PC.ret ?_
    obtain rfl := some_in hh0
    exact FinA.mk (r := bA false) (bl := []) [] (.inl rfl) rfl (rl := [.tmp 4]) (.tmp .nil) rfl rfl rfl (.t _) trivial ⟨rfl, rfl⟩
  rcases cond_some hh0 with ⟨h_2, hh0⟩ | ⟨h_2, hh0⟩
  rotate_left
  · refine PC.region ?_
    refine PL.op rfl (Rd.moveT rfl) ?_
    refine PL.op rfl (Rd.geq rfl rfl) ?_
    refine PL.op rfl (Rd.moveT rfl) ?_
    refine PL.guard_on rfl h_1 ?_
    refine PL.op rfl (Rd.moveT rfl) ?_
    refine PL.guard_on rfl h_1 ?_
    refine PL.op rfl (Rd.fieldO rfl rfl) ?_
    refine PL.guard_on rfl h_1 ?_
    refine PL.op rfl (Rd.loadO rfl rfl rfl) ?_
    refine PL.guard_on rfl h_1 ?_
    refine PL.op rfl (Rd.lenT rfl) ?_
    refine PL.guard_on rfl h_1 ?_
    refine PL.op rfl (Rd.lss rfl rfl) ?_
    refine PL.op rfl (Rd.pick_t rfl h_1) ?_
    refine PL.op rfl (Rd.moveT rfl) ?_
    refine PL.guard_off rfl rfl h_2 ?_
    refine PL.guard_off rfl rfl h_2 ?_
    refine PL.guard_off rfl rfl h_2 ?_
    refine PL.guard_off rfl rfl h_2 ?_
    refine PL.guard_off rfl rfl h_2 ?_
    refine PL.guard_off rfl rfl h_2 ?_
    refine PL.op rfl (Rd.pick_f rfl h_2) ?_
    refine PL.op rfl (Rd.asnT rfl) ?_
    refine PL.nil ?_
    refine thA_n ?_
    refine PC.ret ?_
    obtain rfl := some_in hh0
    exact FinA.mk (r := bA false) (bl := []) [] (.inl rfl) rfl (rl := [.tmp 4]) (.tmp .nil) rfl rfl rfl (.t _) trivial ⟨rfl, rfl⟩
  obtain ⟨x3, h_4, hh0⟩ := bind_some hh0
  refine PC.region ?_
  refine PL.op rfl (Rd.moveT rfl) ?_
  refine PL.op rfl (Rd.geq rfl rfl) ?_
  refine PL.op rfl (Rd.moveT rfl) ?_
  refine PL.guard_on rfl h_1 ?_
  refine PL.op rfl (Rd.moveT rfl) ?_
  refine PL.guard_on rfl h_1 ?_
  refine PL.op rfl (Rd.fieldO rfl rfl) ?_
  refine PL.guard_on rfl h_1 ?_
  refine PL.op rfl (Rd.loadO rfl rfl rfl) ?_
  refine PL.guard_on rfl h_1 ?_
  refine PL.op rfl (Rd.lenT rfl) ?_
  refine PL.guard_on rfl h_1 ?_
  refine PL.op rfl (Rd.lss rfl rfl) ?_
  refine PL.op rfl (Rd.pick_t rfl h_1) ?_
  refine PL.op rfl (Rd.moveT rfl) ?_
  refine PL.guard_on rfl h_2 ?_
  refine PL.op rfl (Rd.fieldO rfl rfl) ?_
  refine PL.guard_on rfl h_2 ?_
  refine PL.op rfl (Rd.loadO rfl rfl rfl) ?_
  refine PL.guard_on rfl h_2 ?_
  refine PL.op rfl (Rd.moveT rfl) ?_
  refine PL.guard_on rfl h_2 ?_
  refine PL.op rfl (Rd.ixM rfl rfl h_4) ?_
  refine PL.guard_on rfl h_2 ?_
  refine PL.op rfl (Rd.fieldT rfl) ?_
  refine PL.guard_on rfl h_2 ?_
  refine PL.op rfl (Rd.elMF (f := 0) rfl h_4 rfl rfl) ?_
  refine PL.op rfl (Rd.pick_t rfl h_2) ?_
  refine PL.op rfl (Rd.asnT rfl) ?_
  refine PL.nil ?_
  refine thA_n ?_
  refine PC.ret ?_
  obtain rfl := some_in hh0
  exact FinA.mk (r := bA x3.live) (bl := []) [] (.inl rfl) rfl (rl := [.tmp 4]) (.tmp .nil) rfl rfl rfl (.t _) trivial ⟨rfl, rfl⟩

def m_I_SetSlot (N : Nat) (p_p : I_Page) (p_at : Int) (p_data : ByteArray) : Option (I_Page × Bool) :=
  (m_I_ValidPage N p_p).bind fun r1 =>
  cond r1
    ((m_I_Page_live N p_p p_at).bind fun r4 =>
    cond r4
      ((m_I_Page_clone N p_p).bind fun r7 =>
      (ixI r7.slots p_at).bind fun x9 =>
      (m_I_ValidPage N (I_Page.mk (r7.slots.set p_at.toNat (I_Slot.mk x9.live p_data)))).bind fun r11 =>
      cond r11
        (some ((I_Page.mk (r7.slots.set p_at.toNat (I_Slot.mk x9.live p_data))), true))
        (some ((I_Page.mk ([] : List I_Slot)), false)))
      (some ((I_Page.mk ([] : List I_Slot)), false)))
    (some ((I_Page.mk ([] : List I_Slot)), false))
theorem w_I_SetSlot (N : Nat) (p_p : I_Page) (p_at : Int) (p_data : ByteArray) (r : I_Page × Bool) (hh0 : m_I_SetSlot N p_p p_at p_data = some r) : FnX Try.prog 29 [] [.agg [sL p_p.slots], iA p_at, sA p_data] (RE (.tup [.agg [.os 0 0 r.1.slots.length], bA r.2]) [⟨.tr (eL r.1.slots), 35, 2⟩]) := by
  unfold m_I_SetSlot at hh0
  refine FnX.mk Try.func29 rfl rfl ?_
  intro s hs
  refine PC.seq ?_
  refine PC.region ?_
  refine PL.ef rfl (Ef.box rfl rfl rfl) ?_
  refine PL.nm (.op 0 0) [some ⟨.mx [sL p_p.slots], 25, 0⟩] rfl rfl ?_
  refine PL.ef rfl (Ef.alloc rfl rfl) ?_
  refine PL.nm (.op 1 0) [some ⟨.mx [sL p_p.slots], 25, 0⟩, some ⟨.mx [.t (.v (.slice none 0 0))], 25, 0⟩] rfl rfl ?_
  refine PL.op rfl (Rd.asnT rfl) ?_
  refine PL.nil ?_
  refine thA_n ?_
  refine PC.seq ?_
  refine PC.seq ?_
  obtain ⟨r1, h_2, hh0⟩ := bind_some hh0
  rcases cond_some hh0 with ⟨h_3, hh0⟩ | ⟨h_3, hh0⟩
  rotate_left
  · refine PC.region ?_
    refine PL.op rfl (Rd.loadBox rfl rfl rfl) ?_
    refine PL.callM false [] (w_I_ValidPage N p_p r1 h_2) rfl Try.call27 rfl ⟨.aggL ⟨.t _, trivial⟩, trivial⟩ rfl trivial (fun h => by cases h) ?_
    refine PL.op rfl (Rd.unnot rfl) ?_
    refine PL.op rfl (Rd.moveT rfl) ?_
    refine PL.guard_off rfl rfl (not_f h_3) ?_
    refine PL.guard_off rfl rfl (not_f h_3) ?_
    refine PL.guard_off rfl rfl (not_f h_3) ?_
    refine PL.guard_off rfl rfl (not_f h_3) ?_
    refine PL.op rfl (Rd.pick_t rfl (not_f h_3)) ?_
    refine PL.nil ?_
    refine thA_n ?_
    refine PC.cond_true rfl rfl ?_
    refine PC.seq ?_
    refine PC.region ?_
    refine PL.op rfl (Rd.build rfl rfl rfl rfl) ?_
    refine PL.store rfl rfl rfl rfl rfl rfl rfl ?_
    refine PL.op rfl (Rd.asnT rfl) ?_
    refine PL.nil ?_
    refine thA_n ?_
    refine PC.ret ?_
    refine thA_r ?_
    obtain rfl := some_in hh0
    exact FinA.mk (r := .tup [.agg [.os 0 0 ((((I_Page.mk ([] : List I_Slot)), false).1.slots).length)], bA (((I_Page.mk ([] : List I_Slot)), false).2)]) (bl := [⟨.tr (eL (((I_Page.mk ([] : List I_Slot)), false).1.slots)), 35, 2⟩]) [none] (.inl rfl) rfl (rl := [.cell 6 25, .tmp 7]) (.cellN rfl rfl rfl rfl (.tmp .nil)) rfl rfl rfl (.tupL ⟨.aggL ⟨.osn rfl, trivial⟩, .t _, trivial⟩) ⟨ow_nil _, trivial⟩ ⟨rfl, rfl⟩
  obtain ⟨r4, h_5, hh0⟩ := bind_some hh0
  refine PC.region ?_
  refine PL.op rfl (Rd.loadBox rfl rfl rfl) ?_
  refine PL.callM false [] (w_I_ValidPage N p_p r1 h_2) rfl Try.call27 rfl ⟨.aggL ⟨.t _, trivial⟩, trivial⟩ rfl trivial (fun h => by cases h) ?_
  refine PL.op rfl (Rd.unnot rfl) ?_
  refine PL.op rfl (Rd.moveT rfl) ?_
  refine PL.guard_on rfl (not_t h_3) ?_
  refine PL.op rfl (Rd.loadBox rfl rfl rfl) ?_
  refine PL.guard_on rfl (not_t h_3) ?_
  refine PL.op rfl (Rd.moveT rfl) ?_
  refine PL.guard_on rfl (not_t h_3) ?_
  refine PL.callM false [] (w_I_Page_live N p_p p_at r4 h_5) rfl Try.call68 rfl ⟨.aggL ⟨.t _, trivial⟩, .t _, trivial⟩ rfl trivial (fun h => by cases h) ?_
  refine PL.guard_on rfl (not_t h_3) ?_
  refine PL.op rfl (Rd.unnot rfl) ?_
  refine PL.op rfl (Rd.pick_f rfl (not_t h_3)) ?_
  refine PL.nil ?_
  refine thA_n ?_
  rcases cond_some hh0 with ⟨h_6, hh0⟩ | ⟨h_6, hh0⟩
  rotate_left
  · refine PC.cond_true rfl (not_f h_6) ?_
    refine PC.seq ?_
    refine PC.region ?_
    refine PL.op rfl (Rd.build rfl rfl rfl rfl) ?_
    refine PL.store rfl rfl rfl rfl rfl rfl rfl ?_
    refine PL.op rfl (Rd.asnT rfl) ?_
    refine PL.nil ?_
    refine thA_n ?_
    refine PC.ret ?_
    refine thA_r ?_
    obtain rfl := some_in hh0
    exact FinA.mk (r := .tup [.agg [.os 0 0 ((((I_Page.mk ([] : List I_Slot)), false).1.slots).length)], bA (((I_Page.mk ([] : List I_Slot)), false).2)]) (bl := [⟨.tr (eL (((I_Page.mk ([] : List I_Slot)), false).1.slots)), 35, 2⟩]) [none] (.inl rfl) rfl (rl := [.cell 6 25, .tmp 7]) (.cellN rfl rfl rfl rfl (.tmp .nil)) rfl rfl rfl (.tupL ⟨.aggL ⟨.osn rfl, trivial⟩, .t _, trivial⟩) ⟨ow_nil _, trivial⟩ ⟨rfl, rfl⟩
  refine PC.cond_false rfl (not_t h_6) ?_
  refine PC.skip ?_
  refine thA_n ?_
  refine PC.seq ?_
  obtain ⟨r7, h_8, hh0⟩ := bind_some hh0
  refine PC.region ?_
  refine PL.op rfl (Rd.loadBox rfl rfl rfl) ?_
  refine PL.callM false [] (w_I_Page_clone N p_p r7 h_8) rfl Try.call63 rfl ⟨.aggL ⟨.t _, trivial⟩, trivial⟩ rfl trivial (fun h => by cases h) ?_
  refine PL.nm (.agg [.os 2 0 r7.slots.length]) [some ⟨.mx [sL p_p.slots], 25, 0⟩, some ⟨.mx [.t (.v (.slice none 0 0))], 25, 0⟩, some ⟨.tr (eL r7.slots), 35, 2⟩] rfl rfl ?_
  refine PL.ef rfl (Ef.alloc rfl rfl) ?_
  refine PL.nm (.op 3 0) [some ⟨.mx [sL p_p.slots], 25, 0⟩, some ⟨.mx [.t (.v (.slice none 0 0))], 25, 0⟩, some ⟨.tr (eL r7.slots), 35, 2⟩, some ⟨.mx [.t (.v (.slice none 0 0))], 25, 0⟩] rfl rfl ?_
  refine PL.store rfl rfl rfl rfl rfl rfl rfl ?_
  refine PL.nO [some ⟨.mx [sL p_p.slots], 25, 0⟩, some ⟨.mx [.t (.v (.slice none 0 0))], 25, 0⟩, some ⟨.tr (eL r7.slots), 35, 2⟩, some ⟨.mx [.os 2 0 r7.slots.length], 25, 0⟩] rfl ?_
  refine PL.nil ?_
  refine thA_n ?_
  refine PC.seq ?_
  obtain ⟨x9, h_10, hh0⟩ := bind_some hh0
  refine PC.region ?_
  refine PL.op rfl (Rd.fieldO rfl rfl) ?_
  refine PL.op rfl (Rd.loadO rfl rfl rfl) ?_
  refine PL.op rfl (Rd.moveT rfl) ?_
  refine PL.op rfl (Rd.moveT rfl) ?_
  refine PL.op rfl (Rd.ixOM rfl rfl rfl (ixI_lt h_10)) ?_
  refine PL.op rfl (Rd.fieldO rfl rfl) ?_
  refine PL.stFM (f := 1) (I_Slot.mk x9.live p_data) rfl rfl rfl rfl h_10 rfl rfl ?_
  refine PL.nO [some ⟨.mx [sL p_p.slots], 25, 0⟩, some ⟨.mx [.t (.v (.slice none 0 0))], 25, 0⟩, some ⟨.tr (eL (r7.slots.set p_at.toNat (I_Slot.mk x9.live p_data))), 35, 2⟩, some ⟨.mx [.os 2 0 r7.slots.length], 25, 0⟩] rfl ?_
  refine PL.nil ?_
  refine thA_n ?_
  refine PC.seq ?_
  refine PC.seq ?_
  obtain ⟨r11, h_12, hh0⟩ := bind_some hh0
  refine PC.region ?_
  refine PL.op rfl (Rd.loadBox rfl rfl rfl) ?_
  refine PL.callM true [] (w_I_ValidPage N (I_Page.mk (r7.slots.set p_at.toNat (I_Slot.mk x9.live p_data))) r11 h_12) rfl Try.call27 rfl ⟨.aggL ⟨.own rfl (by first | decide | exact List.not_mem_nil) (by simp only [List.length_set]) rfl, trivial⟩, trivial⟩ rfl trivial (fun _ => ⟨trivial, flat_nil⟩) ?_
  refine PL.op rfl (Rd.unnot rfl) ?_
  refine PL.nil ?_
  refine thA_n ?_
  rcases cond_some hh0 with ⟨h_13, hh0⟩ | ⟨h_13, hh0⟩
  rotate_left
  · refine PC.cond_true rfl (not_f h_13) ?_
    refine PC.seq ?_
    refine PC.region ?_
    refine PL.op rfl (Rd.build rfl rfl rfl rfl) ?_
    refine PL.store rfl rfl rfl rfl rfl rfl rfl ?_
    refine PL.op rfl (Rd.asnT rfl) ?_
    refine PL.nil ?_
    refine thA_n ?_
    refine PC.ret ?_
    refine thA_r ?_
    obtain rfl := some_in hh0
    exact FinA.mk (r := .tup [.agg [.os 0 0 ((((I_Page.mk ([] : List I_Slot)), false).1.slots).length)], bA (((I_Page.mk ([] : List I_Slot)), false).2)]) (bl := [⟨.tr (eL (((I_Page.mk ([] : List I_Slot)), false).1.slots)), 35, 2⟩]) [none] (.inl rfl) rfl (rl := [.cell 6 25, .tmp 7]) (.cellN rfl rfl rfl rfl (.tmp .nil)) rfl rfl rfl (.tupL ⟨.aggL ⟨.osn rfl, trivial⟩, .t _, trivial⟩) ⟨ow_nil _, trivial⟩ ⟨rfl, rfl⟩
  refine PC.cond_false rfl (not_t h_13) ?_
  refine PC.skip ?_
  refine thA_n ?_
  refine PC.seq ?_
  refine PC.region ?_
  refine PL.op rfl (Rd.loadBox rfl rfl rfl) ?_
  refine PL.store rfl rfl rfl rfl rfl rfl rfl ?_
  refine PL.nO [some ⟨.mx [sL p_p.slots], 25, 0⟩, some ⟨.mx [.os 2 0 r7.slots.length], 25, 0⟩, some ⟨.tr (eL (r7.slots.set p_at.toNat (I_Slot.mk x9.live p_data))), 35, 2⟩, some ⟨.mx [.os 2 0 r7.slots.length], 25, 0⟩] rfl ?_
  refine PL.op rfl (Rd.asnT rfl) ?_
  refine PL.nil ?_
  refine thA_n ?_
  refine PC.ret ?_
  obtain rfl := some_in hh0
  exact FinA.mk (r := .tup [.agg [.os 0 0 ((((I_Page.mk (r7.slots.set p_at.toNat (I_Slot.mk x9.live p_data))), true).1.slots).length)], bA (((I_Page.mk (r7.slots.set p_at.toNat (I_Slot.mk x9.live p_data))), true).2)]) (bl := [⟨.tr (eL (((I_Page.mk (r7.slots.set p_at.toNat (I_Slot.mk x9.live p_data))), true).1.slots)), 35, 2⟩]) [some 2] (.inl rfl) rfl (rl := [.cell 6 25, .tmp 7]) (.cellN rfl rfl rfl rfl (.tmp .nil)) rfl rfl rfl (.tupL ⟨.aggL ⟨.osE rfl (by simp only [List.length_set]), trivial⟩, .t _, trivial⟩) ⟨⟨_, rfl, rfl, rfl, .tr _⟩, trivial⟩ ⟨rfl, rfl⟩

def m_I_ClearSlot_k1 (N : Nat) (p_at : Int) (r7 : (I_Page)) (i20 : Int) : Option (I_Page × Bool) :=
  (V.subM (r7.slots.set p_at.toNat (I_Slot.mk false ByteArray.empty)) (0 : Int) i20).bind fun xs26 =>
  some ((I_Page.mk xs26), true)
def m_I_ClearSlot_b1 (N : Nat) (p_at : Int) (r7 : (I_Page)) (i11 : Int) : Option (Int ⊕ Int) :=
  cond (decide ((0 : Int) < i11))
    ((chk (i11 - (1 : Int))).bind fun n29 =>
    (ixI (r7.slots.set p_at.toNat (I_Slot.mk false ByteArray.empty)) n29).bind fun x31 =>
    cond x31.live
      (some (.inr i11))
      ((chk (i11 - (1 : Int))).bind fun n34 =>
      some (.inl n34)))
    (some (.inr i11))
def m_I_ClearSlot (N : Nat) (p_p : I_Page) (p_at : Int) : Option (I_Page × Bool) :=
  (m_I_ValidPage N p_p).bind fun r1 =>
  cond r1
    ((m_I_Page_live N p_p p_at).bind fun r4 =>
    cond r4
      ((m_I_Page_clone N p_p).bind fun r7 =>
      (ixI r7.slots p_at).bind fun x9 =>
      (loopM (β := Int) (fun s : Int => m_I_ClearSlot_b1 N p_at r7 s) N (r7.slots.length : Int)).bind fun e =>
      m_I_ClearSlot_k1 N p_at r7 e)
      (some ((I_Page.mk ([] : List I_Slot)), false)))
    (some ((I_Page.mk ([] : List I_Slot)), false))
theorem w_I_ClearSlot (N : Nat) (p_p : I_Page) (p_at : Int) (r : I_Page × Bool) (hh0 : m_I_ClearSlot N p_p p_at = some r) : FnX Try.prog 32 [] [.agg [sL p_p.slots], iA p_at] (RE (.tup [.agg [.os 0 0 r.1.slots.length], bA r.2]) [⟨.tr (eL r.1.slots), 35, 2⟩]) := by
  unfold m_I_ClearSlot at hh0
  refine FnX.mk Try.func32 rfl rfl ?_
  intro s hs
  refine PC.seq ?_
  refine PC.region ?_
  refine PL.ef rfl (Ef.box rfl rfl rfl) ?_
  refine PL.nm (.op 0 0) [some ⟨.mx [sL p_p.slots], 25, 0⟩] rfl rfl ?_
  refine PL.ef rfl (Ef.alloc rfl rfl) ?_
  refine PL.nm (.op 1 0) [some ⟨.mx [sL p_p.slots], 25, 0⟩, some ⟨.mx [.t (.v (.slice none 0 0))], 25, 0⟩] rfl rfl ?_
  refine PL.op rfl (Rd.asnT rfl) ?_
  refine PL.nil ?_
  refine thA_n ?_
  refine PC.seq ?_
  refine PC.seq ?_
  obtain ⟨r1, h_2, hh0⟩ := bind_some hh0
  rcases cond_some hh0 with ⟨h_3, hh0⟩ | ⟨h_3, hh0⟩
  rotate_left
  · refine PC.region ?_
    refine PL.op rfl (Rd.loadBox rfl rfl rfl) ?_
    refine PL.callM false [] (w_I_ValidPage N p_p r1 h_2) rfl Try.call27 rfl ⟨.aggL ⟨.t _, trivial⟩, trivial⟩ rfl trivial (fun h => by cases h) ?_
    refine PL.op rfl (Rd.unnot rfl) ?_
    refine PL.op rfl (Rd.moveT rfl) ?_
    refine PL.guard_off rfl rfl (not_f h_3) ?_
    refine PL.guard_off rfl rfl (not_f h_3) ?_
    refine PL.guard_off rfl rfl (not_f h_3) ?_
    refine PL.guard_off rfl rfl (not_f h_3) ?_
    refine PL.op rfl (Rd.pick_t rfl (not_f h_3)) ?_
    refine PL.nil ?_
    refine thA_n ?_
    refine PC.cond_true rfl rfl ?_
    refine PC.seq ?_
    refine PC.region ?_
    refine PL.op rfl (Rd.build rfl rfl rfl rfl) ?_
    refine PL.store rfl rfl rfl rfl rfl rfl rfl ?_
    refine PL.op rfl (Rd.asnT rfl) ?_
    refine PL.nil ?_
    refine thA_n ?_
    refine PC.ret ?_
    refine thA_r ?_
    obtain rfl := some_in hh0
    exact FinA.mk (r := .tup [.agg [.os 0 0 ((((I_Page.mk ([] : List I_Slot)), false).1.slots).length)], bA (((I_Page.mk ([] : List I_Slot)), false).2)]) (bl := [⟨.tr (eL (((I_Page.mk ([] : List I_Slot)), false).1.slots)), 35, 2⟩]) [none] (.inl rfl) rfl (rl := [.cell 4 25, .tmp 5]) (.cellN rfl rfl rfl rfl (.tmp .nil)) rfl rfl rfl (.tupL ⟨.aggL ⟨.osn rfl, trivial⟩, .t _, trivial⟩) ⟨ow_nil _, trivial⟩ ⟨rfl, rfl⟩
  obtain ⟨r4, h_5, hh0⟩ := bind_some hh0
  refine PC.region ?_
  refine PL.op rfl (Rd.loadBox rfl rfl rfl) ?_
  refine PL.callM false [] (w_I_ValidPage N p_p r1 h_2) rfl Try.call27 rfl ⟨.aggL ⟨.t _, trivial⟩, trivial⟩ rfl trivial (fun h => by cases h) ?_
  refine PL.op rfl (Rd.unnot rfl) ?_
  refine PL.op rfl (Rd.moveT rfl) ?_
  refine PL.guard_on rfl (not_t h_3) ?_
  refine PL.op rfl (Rd.loadBox rfl rfl rfl) ?_
  refine PL.guard_on rfl (not_t h_3) ?_
  refine PL.op rfl (Rd.moveT rfl) ?_
  refine PL.guard_on rfl (not_t h_3) ?_
  refine PL.callM false [] (w_I_Page_live N p_p p_at r4 h_5) rfl Try.call68 rfl ⟨.aggL ⟨.t _, trivial⟩, .t _, trivial⟩ rfl trivial (fun h => by cases h) ?_
  refine PL.guard_on rfl (not_t h_3) ?_
  refine PL.op rfl (Rd.unnot rfl) ?_
  refine PL.op rfl (Rd.pick_f rfl (not_t h_3)) ?_
  refine PL.nil ?_
  refine thA_n ?_
  rcases cond_some hh0 with ⟨h_6, hh0⟩ | ⟨h_6, hh0⟩
  rotate_left
  · refine PC.cond_true rfl (not_f h_6) ?_
    refine PC.seq ?_
    refine PC.region ?_
    refine PL.op rfl (Rd.build rfl rfl rfl rfl) ?_
    refine PL.store rfl rfl rfl rfl rfl rfl rfl ?_
    refine PL.op rfl (Rd.asnT rfl) ?_
    refine PL.nil ?_
    refine thA_n ?_
    refine PC.ret ?_
    refine thA_r ?_
    obtain rfl := some_in hh0
    exact FinA.mk (r := .tup [.agg [.os 0 0 ((((I_Page.mk ([] : List I_Slot)), false).1.slots).length)], bA (((I_Page.mk ([] : List I_Slot)), false).2)]) (bl := [⟨.tr (eL (((I_Page.mk ([] : List I_Slot)), false).1.slots)), 35, 2⟩]) [none] (.inl rfl) rfl (rl := [.cell 4 25, .tmp 5]) (.cellN rfl rfl rfl rfl (.tmp .nil)) rfl rfl rfl (.tupL ⟨.aggL ⟨.osn rfl, trivial⟩, .t _, trivial⟩) ⟨ow_nil _, trivial⟩ ⟨rfl, rfl⟩
  refine PC.cond_false rfl (not_t h_6) ?_
  refine PC.skip ?_
  refine thA_n ?_
  refine PC.seq ?_
  obtain ⟨r7, h_8, hh0⟩ := bind_some hh0
  refine PC.region ?_
  refine PL.op rfl (Rd.loadBox rfl rfl rfl) ?_
  refine PL.callM false [] (w_I_Page_clone N p_p r7 h_8) rfl Try.call63 rfl ⟨.aggL ⟨.t _, trivial⟩, trivial⟩ rfl trivial (fun h => by cases h) ?_
  refine PL.nm (.agg [.os 2 0 r7.slots.length]) [some ⟨.mx [sL p_p.slots], 25, 0⟩, some ⟨.mx [.t (.v (.slice none 0 0))], 25, 0⟩, some ⟨.tr (eL r7.slots), 35, 2⟩] rfl rfl ?_
  refine PL.ef rfl (Ef.alloc rfl rfl) ?_
  refine PL.nm (.op 3 0) [some ⟨.mx [sL p_p.slots], 25, 0⟩, some ⟨.mx [.t (.v (.slice none 0 0))], 25, 0⟩, some ⟨.tr (eL r7.slots), 35, 2⟩, some ⟨.mx [.t (.v (.slice none 0 0))], 25, 0⟩] rfl rfl ?_
  refine PL.store rfl rfl rfl rfl rfl rfl rfl ?_
  refine PL.nO [some ⟨.mx [sL p_p.slots], 25, 0⟩, some ⟨.mx [.t (.v (.slice none 0 0))], 25, 0⟩, some ⟨.tr (eL r7.slots), 35, 2⟩, some ⟨.mx [.os 2 0 r7.slots.length], 25, 0⟩] rfl ?_
  refine PL.nil ?_
  refine thA_n ?_
  refine PC.seq ?_
  obtain ⟨x9, h_10, hh0⟩ := bind_some hh0
  refine PC.region ?_
  refine PL.op rfl (Rd.fieldO rfl rfl) ?_
  refine PL.op rfl (Rd.loadO rfl rfl rfl) ?_
  refine PL.op rfl (Rd.moveT rfl) ?_
  refine PL.op rfl (Rd.build rfl rfl rfl rfl) ?_
  refine PL.op rfl (Rd.ixOM rfl rfl rfl (ixI_lt h_10)) ?_
  refine PL.stRM (I_Slot.mk false ByteArray.empty) rfl rfl rfl rfl rfl h_10 rfl ?_
  refine PL.nO [some ⟨.mx [sL p_p.slots], 25, 0⟩, some ⟨.mx [.t (.v (.slice none 0 0))], 25, 0⟩, some ⟨.tr (eL (r7.slots.set p_at.toNat (I_Slot.mk false ByteArray.empty))), 35, 2⟩, some ⟨.mx [.os 2 0 r7.slots.length], 25, 0⟩] rfl ?_
  refine PL.nil ?_
  refine thA_n ?_
  refine PC.seq ?_
  refine PC.region ?_
  refine PL.op rfl (Rd.fieldO rfl rfl) ?_
  refine PL.op rfl (Rd.loadO rfl rfl rfl) ?_
  refine PL.op rfl (Rd.lenO rfl rfl) ?_
  refine PL.op rfl (Rd.asnT rfl) ?_
  refine PL.nil ?_
  refine thA_n ?_
  obtain ⟨o21, h_22, hh0⟩ := bind_some hh0
  refine PC.cut hs (fun x : Int => [(4, .op 0 0), (6, .op 1 0), (7, iA x)]) (fun x => [⟨.mx [.t (.v (.slice none 0 0))], 25, 0⟩, ⟨.mx [.os 2 0 r7.slots.length], 25, 0⟩, ⟨.tr (eL (r7.slots.set p_at.toNat (I_Slot.mk false ByteArray.empty))), 35, 2⟩]) (fun x => m_I_ClearSlot_k1 N p_at r7 x = some r) ?_ ?_
  · refine PC.block ?_
    refine PC.loop hs (fun x : Nat × (Int) => [(4, .op 0 0), (6, .op 1 0), (7, iA x.2)]) (fun x => [⟨.mx [.t (.v (.slice none 0 0))], 25, 0⟩, ⟨.mx [.os 2 0 r7.slots.length], 25, 0⟩, ⟨.tr (eL (r7.slots.set p_at.toNat (I_Slot.mk false ByteArray.empty))), 35, 2⟩]) (fun x => loopM (β := Int) (fun s : Int => m_I_ClearSlot_b1 N p_at r7 s) x.1 x.2 = some o21) (fun x => x.1) (N, (r7.slots.length : Int)) [some 1, some 3, some 2] ⟨rfl, rfl, ⟨⟨_, rfl, rfl, rfl, .mx ⟨.t _, trivial⟩⟩, ⟨_, rfl, rfl, rfl, .mx ⟨.osE rfl (by simp only [List.length_set]), trivial⟩⟩, ⟨_, rfl, rfl, rfl, .tr _⟩, trivial⟩, ⟨.op rfl, .op rfl, .t _, trivial⟩⟩ h_22 ?_
    rintro ⟨f23_, i11⟩ h_25
    obtain ⟨f23, y24, rfl, hh1, kk1⟩ := loopM_some h_25
    replace hh1 : m_I_ClearSlot_b1 N p_at r7 i11 = some y24 := hh1
    unfold m_I_ClearSlot_b1 at hh1
    refine PC.seq ?_
    refine PC.seq ?_
    rcases cond_some hh1 with ⟨h_28, hh1⟩ | ⟨h_28, hh1⟩
    rotate_left
    · refine PC.region ?_
      refine PL.op rfl (Rd.moveT rfl) ?_
      refine PL.op rfl (Rd.gtr rfl rfl) ?_
      refine PL.op rfl (Rd.moveT rfl) ?_
      refine PL.guard_off rfl rfl h_28 ?_
      refine PL.guard_off rfl rfl h_28 ?_
      refine PL.guard_off rfl rfl h_28 ?_
      refine PL.guard_off rfl rfl h_28 ?_
      refine PL.guard_off rfl rfl h_28 ?_
      refine PL.guard_off rfl rfl h_28 ?_
      refine PL.guard_off rfl rfl h_28 ?_
      refine PL.guard_off rfl rfl h_28 ?_
      refine PL.op rfl (Rd.pick_f rfl h_28) ?_
      refine PL.nil ?_
      refine thA_n ?_
      refine PC.cond_false rfl rfl ?_
      refine PC.exit ?_
      refine thA_e ?_
      refine thA_e ?_
      refine inA_eq rfl ?_
      refine thA_n ?_
      obtain rfl := some_in hh1
      obtain rfl : (i11 : Int) = o21 := kk1
      exact ⟨i11, hh0, [some 0, some 1, some 2], ⟨rfl, rfl, ⟨⟨_, rfl, rfl, rfl, .mx ⟨.t _, trivial⟩⟩, ⟨_, rfl, rfl, rfl, .mx ⟨.osE rfl (by simp only [List.length_set]), trivial⟩⟩, ⟨_, rfl, rfl, rfl, .tr _⟩, trivial⟩, ⟨.op rfl, .op rfl, .t _, trivial⟩⟩⟩
    obtain ⟨n29, h_30, hh1⟩ := bind_some hh1
    obtain ⟨x31, h_32, hh1⟩ := bind_some hh1
    refine PC.region ?_
    refine PL.op rfl (Rd.moveT rfl) ?_
    refine PL.op rfl (Rd.gtr rfl rfl) ?_
    refine PL.op rfl (Rd.moveT rfl) ?_
    refine PL.guard_on rfl h_28 ?_
    refine PL.op rfl (Rd.fieldO rfl rfl) ?_
    refine PL.guard_on rfl h_28 ?_
    refine PL.op rfl (Rd.loadO rfl rfl rfl) ?_
    refine PL.guard_on rfl h_28 ?_
    refine PL.op rfl (Rd.moveT rfl) ?_
    refine PL.guard_on rfl h_28 ?_
    refine PL.op rfl (Rd.subM rfl rfl h_30) ?_
    refine PL.guard_on rfl h_28 ?_
    refine PL.op rfl (Rd.ixOM rfl rfl rfl (by have hq := ixI_lt h_32; simp only [List.length_set] at hq ⊢; exact hq)) ?_
    refine PL.guard_on rfl h_28 ?_
    refine PL.op rfl (Rd.fieldO rfl rfl) ?_
    refine PL.guard_on rfl h_28 ?_
    refine PL.op rfl (Rd.owMF (f := 0) rfl rfl h_32 rfl rfl) ?_
    refine PL.guard_on rfl h_28 ?_
    refine PL.op rfl (Rd.unnot rfl) ?_
    refine PL.op rfl (Rd.pick_t rfl h_28) ?_
    refine PL.nil ?_
    refine thA_n ?_
    rcases cond_some hh1 with ⟨h_33, hh1⟩ | ⟨h_33, hh1⟩
    · refine PC.cond_false rfl (not_t h_33) ?_
      refine PC.exit ?_
      refine thA_e ?_
      refine thA_e ?_
      refine inA_eq rfl ?_
      refine thA_n ?_
      obtain rfl := some_in hh1
      obtain rfl : (i11 : Int) = o21 := kk1
      exact ⟨i11, hh0, [some 0, some 1, some 2], ⟨rfl, rfl, ⟨⟨_, rfl, rfl, rfl, .mx ⟨.t _, trivial⟩⟩, ⟨_, rfl, rfl, rfl, .mx ⟨.osE rfl (by simp only [List.length_set]), trivial⟩⟩, ⟨_, rfl, rfl, rfl, .tr _⟩, trivial⟩, ⟨.op rfl, .op rfl, .t _, trivial⟩⟩⟩
    refine PC.cond_true rfl (not_f h_33) ?_
    refine PC.skip ?_
    refine thA_n ?_
    refine PC.block ?_
    obtain ⟨n34, h_35, hh1⟩ := bind_some hh1
    refine PC.region ?_
    refine PL.op rfl (Rd.moveT rfl) ?_
    refine PL.op rfl (Rd.subM rfl rfl h_35) ?_
    refine PL.op rfl (Rd.asnT rfl) ?_
    refine PL.nil ?_
    refine inA_n ?_
    obtain rfl := some_in hh1
    refine thA_n ?_
    exact ⟨(f23, n34), Nat.lt_succ_self _, kk1, [some 0, some 1, some 2], ⟨rfl, rfl, ⟨⟨_, rfl, rfl, rfl, .mx ⟨.t _, trivial⟩⟩, ⟨_, rfl, rfl, rfl, .mx ⟨.osE rfl (by simp only [List.length_set]), trivial⟩⟩, ⟨_, rfl, rfl, rfl, .tr _⟩, trivial⟩, ⟨.op rfl, .op rfl, .t _, trivial⟩⟩⟩
  clear hh0
  rintro i20 hh0
  replace hh0 : m_I_ClearSlot_k1 N p_at r7 i20 = some r := hh0
  unfold m_I_ClearSlot_k1 at hh0
  refine PC.seq ?_
  obtain ⟨xs26, h_27, hh0⟩ := bind_some hh0
  refine PC.region ?_
  refine PL.op rfl (Rd.fieldO rfl rfl) ?_
  refine PL.op rfl (Rd.loadO rfl rfl rfl) ?_
  refine PL.op rfl (Rd.moveT rfl) ?_
  refine PL.cutM rfl rfl rfl (by simp only [List.length_set]) rfl h_27 ?_
  refine PL.nm (.os 2 0 xs26.length) [some ⟨.mx [.t (.v (.slice none 0 0))], 25, 0⟩, some ⟨.mx [.os 2 0 r7.slots.length], 25, 0⟩, some ⟨.tr (eL xs26), 35, 2⟩] rfl rfl ?_
  refine PL.op rfl (Rd.fieldO rfl rfl) ?_
  refine PL.store rfl rfl rfl rfl rfl rfl rfl ?_
  refine PL.nO [some ⟨.mx [.t (.v (.slice none 0 0))], 25, 0⟩, some ⟨.mx [.os 2 0 xs26.length], 25, 0⟩, some ⟨.tr (eL xs26), 35, 2⟩] rfl ?_
  refine PL.nil ?_
  refine thA_n ?_
  refine PC.seq ?_
  refine PC.region ?_
  refine PL.op rfl (Rd.loadBox rfl rfl rfl) ?_
  refine PL.store rfl rfl rfl rfl rfl rfl rfl ?_
  refine PL.nO [some ⟨.mx [.os 2 0 xs26.length], 25, 0⟩, some ⟨.mx [.os 2 0 xs26.length], 25, 0⟩, some ⟨.tr (eL xs26), 35, 2⟩] rfl ?_
  refine PL.op rfl (Rd.asnT rfl) ?_
  refine PL.nil ?_
  refine thA_n ?_
  refine PC.ret ?_
  obtain rfl := some_in hh0
  exact FinA.mk (r := .tup [.agg [.os 0 0 ((((I_Page.mk xs26), true).1.slots).length)], bA (((I_Page.mk xs26), true).2)]) (bl := [⟨.tr (eL (((I_Page.mk xs26), true).1.slots)), 35, 2⟩]) [some 2] (.inl rfl) rfl (rl := [.cell 4 25, .tmp 5]) (.cellN rfl rfl rfl rfl (.tmp .nil)) rfl rfl rfl (.tupL ⟨.aggL ⟨.os rfl, trivial⟩, .t _, trivial⟩) ⟨⟨_, rfl, rfl, rfl, .tr _⟩, trivial⟩ ⟨rfl, rfl⟩

def m_I_GetSlot (N : Nat) (p_p : I_Page) (p_at : Int) : Option (ByteArray × Bool) :=
  (m_I_ValidPage N p_p).bind fun r1 =>
  cond r1
    ((m_I_Page_live N p_p p_at).bind fun r4 =>
    cond r4
      ((ixI p_p.slots p_at).bind fun x7 =>
      some (x7.data, true))
      (some (ByteArray.empty, false)))
    (some (ByteArray.empty, false))
theorem w_I_GetSlot (N : Nat) (p_p : I_Page) (p_at : Int) (r : ByteArray × Bool) (hh0 : m_I_GetSlot N p_p p_at = some r) : FnX Try.prog 26 [] [.agg [sL p_p.slots], iA p_at] (RE (.tup [sA r.1, bA r.2]) []) := by
  unfold m_I_GetSlot at hh0
  refine FnX.mk Try.func26 rfl rfl ?_
  intro s hs
  refine PC.seq ?_
  refine PC.region ?_
  refine PL.ef rfl (Ef.box rfl rfl rfl) ?_
  refine PL.nm (.op 0 0) [some ⟨.mx [sL p_p.slots], 25, 0⟩] rfl rfl ?_
  refine PL.op rfl (Rd.asnT rfl) ?_
  refine PL.op rfl (Rd.asnT rfl) ?_
  refine PL.nil ?_
  refine thA_n ?_
  refine PC.seq ?_
  refine PC.seq ?_
  obtain ⟨r1, h_2, hh0⟩ := bind_some hh0
  rcases cond_some hh0 with ⟨h_3, hh0⟩ | ⟨h_3, hh0⟩
  rotate_left
  · refine PC.region ?_
    refine PL.op rfl (Rd.loadBox rfl rfl rfl) ?_
    refine PL.callM false [] (w_I_ValidPage N p_p r1 h_2) rfl Try.call27 rfl ⟨.aggL ⟨.t _, trivial⟩, trivial⟩ rfl trivial (fun h => by cases h) ?_
    refine PL.op rfl (Rd.unnot rfl) ?_
    refine PL.op rfl (Rd.moveT rfl) ?_
    refine PL.guard_off rfl rfl (not_f h_3) ?_
    refine PL.guard_off rfl rfl (not_f h_3) ?_
    refine PL.guard_off rfl rfl (not_f h_3) ?_
    refine PL.guard_off rfl rfl (not_f h_3) ?_
    refine PL.op rfl (Rd.pick_t rfl (not_f h_3)) ?_
    refine PL.nil ?_
    refine thA_n ?_
    refine PC.cond_true rfl rfl ?_
    refine PC.seq ?_
    refine PC.region ?_
    refine PL.op rfl (Rd.asnT rfl) ?_
    refine PL.op rfl (Rd.asnT rfl) ?_
    refine PL.nil ?_
    refine thA_n ?_
    refine PC.ret ?_
    refine thA_r ?_
    obtain rfl := some_in hh0
    exact FinA.mk (r := .tup [sA ((ByteArray.empty, false).1), bA ((ByteArray.empty, false).2)]) (bl := []) [] (.inl rfl) rfl (rl := [.tmp 4, .tmp 5]) (.tmp (.tmp .nil)) rfl rfl rfl (.tupL ⟨.t _, .t _, trivial⟩) trivial ⟨rfl, rfl⟩
  obtain ⟨r4, h_5, hh0⟩ := bind_some hh0
  refine PC.region ?_
  refine PL.op rfl (Rd.loadBox rfl rfl rfl) ?_
  refine PL.callM false [] (w_I_ValidPage N p_p r1 h_2) rfl Try.call27 rfl ⟨.aggL ⟨.t _, trivial⟩, trivial⟩ rfl trivial (fun h => by cases h) ?_
  refine PL.op rfl (Rd.unnot rfl) ?_
  refine PL.op rfl (Rd.moveT rfl) ?_
  refine PL.guard_on rfl (not_t h_3) ?_
  refine PL.op rfl (Rd.loadBox rfl rfl rfl) ?_
  refine PL.guard_on rfl (not_t h_3) ?_
  refine PL.op rfl (Rd.moveT rfl) ?_
  refine PL.guard_on rfl (not_t h_3) ?_
  refine PL.callM false [] (w_I_Page_live N p_p p_at r4 h_5) rfl Try.call68 rfl ⟨.aggL ⟨.t _, trivial⟩, .t _, trivial⟩ rfl trivial (fun h => by cases h) ?_
  refine PL.guard_on rfl (not_t h_3) ?_
  refine PL.op rfl (Rd.unnot rfl) ?_
  refine PL.op rfl (Rd.pick_f rfl (not_t h_3)) ?_
  refine PL.nil ?_
  refine thA_n ?_
  rcases cond_some hh0 with ⟨h_6, hh0⟩ | ⟨h_6, hh0⟩
  rotate_left
  · refine PC.cond_true rfl (not_f h_6) ?_
    refine PC.seq ?_
    refine PC.region ?_
    refine PL.op rfl (Rd.asnT rfl) ?_
    refine PL.op rfl (Rd.asnT rfl) ?_
    refine PL.nil ?_
    refine thA_n ?_
    refine PC.ret ?_
    refine thA_r ?_
    obtain rfl := some_in hh0
    exact FinA.mk (r := .tup [sA ((ByteArray.empty, false).1), bA ((ByteArray.empty, false).2)]) (bl := []) [] (.inl rfl) rfl (rl := [.tmp 4, .tmp 5]) (.tmp (.tmp .nil)) rfl rfl rfl (.tupL ⟨.t _, .t _, trivial⟩) trivial ⟨rfl, rfl⟩
  refine PC.cond_false rfl (not_t h_6) ?_
  refine PC.skip ?_
  refine thA_n ?_
  refine PC.seq ?_
  obtain ⟨x7, h_8, hh0⟩ := bind_some hh0
  refine PC.region ?_
  refine PL.op rfl (Rd.fieldO rfl rfl) ?_
  refine PL.op rfl (Rd.loadO rfl rfl rfl) ?_
  refine PL.op rfl (Rd.moveT rfl) ?_
  refine PL.op rfl (Rd.ixM rfl rfl h_8) ?_
  refine PL.op rfl (Rd.fieldT rfl) ?_
  refine PL.op rfl (Rd.elMF (f := 1) rfl h_8 rfl rfl) ?_
  refine PL.op rfl (Rd.asnT rfl) ?_
  refine PL.op rfl (Rd.asnT rfl) ?_
  refine PL.nil ?_
  refine thA_n ?_
  refine PC.ret ?_
  obtain rfl := some_in hh0
  exact FinA.mk (r := .tup [sA ((x7.data, true).1), bA ((x7.data, true).2)]) (bl := []) [] (.inl rfl) rfl (rl := [.tmp 4, .tmp 5]) (.tmp (.tmp .nil)) rfl rfl rfl (.tupL ⟨.t _, .t _, trivial⟩) trivial ⟨rfl, rfl⟩

def m_S_used_k1 (N : Nat) (i12 : Int) : Option (Int) :=
  some i12
def m_S_used_b1 (N : Nat) (p_p : I_Page) (i3 : Int) (i4 : Int) : Option ((Int × Int) ⊕ Int) :=
  cond (decide (i4 < (p_p.slots.length : Int)))
    ((ixI p_p.slots i4).bind fun x19 =>
    (chk (i3 + (x19.data.size : Int))).bind fun n21 =>
    (chk (i4 + (1 : Int))).bind fun n23 =>
    some (.inl (n21, n23)))
    (some (.inr i3))
def m_S_used (N : Nat) (p_p : I_Page) : Option (Int) :=
  (chk ((2 : Int) * (p_p.slots.length : Int))).bind fun n1 =>
  (loopM (β := Int) (fun s : Int × Int => m_S_used_b1 N p_p s.1 s.2) N (n1, (0 : Int))).bind fun e =>
  m_S_used_k1 N e
theorem w_S_used (N : Nat) (p_p : I_Page) (r : Int) (hh0 : m_S_used N p_p = some r) : FnX Try.prog 62 [] [.agg [sL p_p.slots]] (RE (iA r) []) := by
  unfold m_S_used at hh0
  refine FnX.mk Try.func62 rfl rfl ?_
  intro s hs
  refine PC.seq ?_
  refine PC.region ?_
  refine PL.ef rfl (Ef.box rfl rfl rfl) ?_
  refine PL.nm (.op 0 0) [some ⟨.mx [sL p_p.slots], 25, 0⟩] rfl rfl ?_
  refine PL.op rfl (Rd.asnT rfl) ?_
  refine PL.nil ?_
  refine thA_n ?_
  refine PC.seq ?_
  obtain ⟨n1, h_2, hh0⟩ := bind_some hh0
  refine PC.region ?_
  refine PL.op rfl (Rd.fieldO rfl rfl) ?_
  refine PL.op rfl (Rd.loadO rfl rfl rfl) ?_
  refine PL.op rfl (Rd.lenT rfl) ?_
  refine PL.op rfl (Rd.mulM rfl rfl h_2) ?_
  refine PL.op rfl (Rd.asnT rfl) ?_
  refine PL.nil ?_
  refine thA_n ?_
  refine PC.seq ?_
  refine PC.seq ?_
  refine PC.region ?_
  refine PL.op rfl (Rd.asnT rfl) ?_
  refine PL.nil ?_
  refine thA_n ?_
  obtain ⟨o13, h_14, hh0⟩ := bind_some hh0
  refine PC.cutE hs (fun x : Int => [(3, iA x)]) (fun x => []) (fun x => m_S_used_k1 N x = some r) ?_ ?_
  · refine PC.block ?_
    refine PC.loop hs (fun x : Nat × (Int × Int) => [(1, .op 0 0), (3, iA x.2.1), (4, iA x.2.2)]) (fun x => [⟨.mx [sL p_p.slots], 25, 0⟩]) (fun x => loopM (β := Int) (fun s : Int × Int => m_S_used_b1 N p_p s.1 s.2) x.1 x.2 = some o13) (fun x => x.1) (N, (n1, (0 : Int))) [some 0] ⟨rfl, rfl, ⟨⟨_, rfl, rfl, rfl, .mx ⟨.t _, trivial⟩⟩, trivial⟩, ⟨.op rfl, .t _, .t _, trivial⟩⟩ h_14 ?_
    rintro ⟨f15_, i3, i4⟩ h_17
    obtain ⟨f15, y16, rfl, hh1, kk1⟩ := loopM_some h_17
    replace hh1 : m_S_used_b1 N p_p i3 i4 = some y16 := hh1
    unfold m_S_used_b1 at hh1
    refine PC.seq ?_
    refine PC.seq ?_
    refine PC.region ?_
    refine PL.op rfl (Rd.moveT rfl) ?_
    refine PL.op rfl (Rd.fieldO rfl rfl) ?_
    refine PL.op rfl (Rd.loadO rfl rfl rfl) ?_
    refine PL.op rfl (Rd.lenT rfl) ?_
    refine PL.op rfl (Rd.lss rfl rfl) ?_
    refine PL.nil ?_
    refine thA_n ?_
    rcases cond_some hh1 with ⟨h_18, hh1⟩ | ⟨h_18, hh1⟩
    rotate_left
    · refine PC.cond_false rfl h_18 ?_
      refine PC.exit ?_
      refine thA_e ?_
      refine thA_e ?_
      refine inA_eq rfl ?_
      refine thA_n ?_
      obtain rfl := some_in hh1
      obtain rfl : (i3 : Int) = o13 := kk1
      exact ⟨i3, hh0, [], ⟨rfl, rfl, trivial, ⟨.t _, trivial⟩⟩⟩
    refine PC.cond_true rfl h_18 ?_
    refine PC.skip ?_
    refine thA_n ?_
    refine PC.seq ?_
    refine PC.block ?_
    obtain ⟨x19, h_20, hh1⟩ := bind_some hh1
    obtain ⟨n21, h_22, hh1⟩ := bind_some hh1
    refine PC.region ?_
    refine PL.op rfl (Rd.moveT rfl) ?_
    refine PL.op rfl (Rd.fieldO rfl rfl) ?_
    refine PL.op rfl (Rd.loadO rfl rfl rfl) ?_
    refine PL.op rfl (Rd.moveT rfl) ?_
    refine PL.op rfl (Rd.ixM rfl rfl h_20) ?_
    refine PL.op rfl (Rd.fieldT rfl) ?_
    refine PL.op rfl (Rd.elMF (f := 1) rfl h_20 rfl rfl) ?_
    refine PL.op rfl (Rd.lenSt rfl) ?_
    refine PL.op rfl (Rd.addM rfl rfl h_22) ?_
    refine PL.op rfl (Rd.asnT rfl) ?_
    refine PL.nil ?_
    refine inA_n ?_
    refine thA_n ?_
    obtain ⟨n23, h_24, hh1⟩ := bind_some hh1
    refine PC.region ?_
    refine PL.op rfl (Rd.moveT rfl) ?_
    refine PL.op rfl (Rd.addM rfl rfl h_24) ?_
    refine PL.op rfl (Rd.asnT rfl) ?_
    refine PL.nil ?_
    obtain rfl := some_in hh1
    refine thA_n ?_
    exact ⟨(f15, (n21, n23)), Nat.lt_succ_self _, kk1, [some 0], ⟨rfl, rfl, ⟨⟨_, rfl, rfl, rfl, .mx ⟨.t _, trivial⟩⟩, trivial⟩, ⟨.op rfl, .t _, .t _, trivial⟩⟩⟩
  clear hh0
  rintro i12 hh0
  replace hh0 : m_S_used_k1 N i12 = some r := hh0
  unfold m_S_used_k1 at hh0
  refine thA_n ?_
  refine PC.seq ?_
  refine PC.region ?_
  refine PL.op rfl (Rd.moveT rfl) ?_
  refine PL.op rfl (Rd.asnT rfl) ?_
  refine PL.nil ?_
  refine thA_n ?_
  refine PC.ret ?_
  obtain rfl := some_in hh0
  exact FinA.mk (r := iA i12) (bl := []) [] (.inl rfl) rfl (rl := [.tmp 2]) (.tmp .nil) rfl rfl rfl (.t _) trivial ⟨rfl, rfl⟩

def m_S_validPage_k1 (N : Nat) (p_p : I_Page) : Option (Bool) :=
  cond (decide ((p_p.slots.length : Int) ≤ (8 : Int)))
    ((m_S_used N p_p).bind fun r19 =>
    cond (decide (r19 ≤ (100 : Int)))
      (cond (decide ((p_p.slots.length : Int) = (0 : Int)))
        (some true)
        ((chk ((p_p.slots.length : Int) - (1 : Int))).bind fun n23 =>
        (ixI p_p.slots n23).bind fun x25 =>
        some x25.live))
      (some false))
    (some false)
def m_S_validPage_b1 (N : Nat) (p_p : I_Page) (i1 : Int) : Option (Int ⊕ (Unit ⊕ Bool)) :=
  cond (decide (i1 < (p_p.slots.length : Int)))
    ((ixI p_p.slots i1).bind fun x28 =>
    cond x28.live
      ((chk (i1 + (1 : Int))).bind fun n33 =>
      some (.inl n33))
      ((ixI p_p.slots i1).bind fun x31 =>
      cond (x31.data.toList == ByteArray.empty.toList)
        ((chk (i1 + (1 : Int))).bind fun n36 =>
        some (.inl n36))
        (some (.inr (.inr false)))))
    (some (.inr (.inl ())))
def m_S_validPage (N : Nat) (p_p : I_Page) : Option (Bool) :=
  (loopM (β := Unit ⊕ Bool) (fun s : Int => m_S_validPage_b1 N p_p s) N (0 : Int)).bind fun o => match o with
  | .inl e =>
    m_S_validPage_k1 N p_p 
  | .inr v =>
    some v
theorem w_S_validPage (N : Nat) (p_p : I_Page) (r : Bool) (hh0 : m_S_validPage N p_p = some r) : FnX Try.prog 61 [] [.agg [sL p_p.slots]] (RE (bA r) []) := by
  unfold m_S_validPage at hh0
  refine FnX.mk Try.func61 rfl rfl ?_
  intro s hs
  refine PC.seq ?_
  refine PC.region ?_
  refine PL.ef rfl (Ef.box rfl rfl rfl) ?_
  refine PL.nm (.op 0 0) [some ⟨.mx [sL p_p.slots], 25, 0⟩] rfl rfl ?_
  refine PL.op rfl (Rd.asnT rfl) ?_
  refine PL.nil ?_
  refine thA_n ?_
  refine PC.seq ?_
  refine PC.seq ?_
  refine PC.region ?_
  refine PL.op rfl (Rd.asnT rfl) ?_
  refine PL.nil ?_
  refine thA_n ?_
  obtain ⟨o13, h_14, hh0⟩ := bind_some hh0
  refine PC.cutE hs (fun x : Unit => [(1, .op 0 0)]) (fun x => [⟨.mx [sL p_p.slots], 25, 0⟩]) (fun x => m_S_validPage_k1 N p_p  = some r) ?_ ?_
  · refine PC.block ?_
    refine PC.loop hs (fun x : Nat × (Int) => [(1, .op 0 0), (3, iA x.2)]) (fun x => [⟨.mx [sL p_p.slots], 25, 0⟩]) (fun x => loopM (β := Unit ⊕ Bool) (fun s : Int => m_S_validPage_b1 N p_p s) x.1 x.2 = some o13) (fun x => x.1) (N, (0 : Int)) [some 0] ⟨rfl, rfl, ⟨⟨_, rfl, rfl, rfl, .mx ⟨.t _, trivial⟩⟩, trivial⟩, ⟨.op rfl, .t _, trivial⟩⟩ h_14 ?_
    rintro ⟨f15_, i1⟩ h_17
    obtain ⟨f15, y16, rfl, hh1, kk1⟩ := loopM_some h_17
    replace hh1 : m_S_validPage_b1 N p_p i1 = some y16 := hh1
    unfold m_S_validPage_b1 at hh1
    refine PC.seq ?_
    refine PC.seq ?_
    refine PC.region ?_
    refine PL.op rfl (Rd.moveT rfl) ?_
    refine PL.op rfl (Rd.fieldO rfl rfl) ?_
    refine PL.op rfl (Rd.loadO rfl rfl rfl) ?_
    refine PL.op rfl (Rd.lenT rfl) ?_
    refine PL.op rfl (Rd.lss rfl rfl) ?_
    refine PL.nil ?_
    refine thA_n ?_
    rcases cond_some hh1 with ⟨h_27, hh1⟩ | ⟨h_27, hh1⟩
    rotate_left
    · refine PC.cond_false rfl h_27 ?_
      refine PC.exit ?_
      refine thA_e ?_
      refine thA_e ?_
      refine inA_eq rfl ?_
      refine thA_n ?_
      obtain rfl := some_in hh1
      obtain rfl : (.inl () : Unit ⊕ Bool) = o13 := kk1
      exact ⟨(), hh0, [some 0], ⟨rfl, rfl, ⟨⟨_, rfl, rfl, rfl, .mx ⟨.t _, trivial⟩⟩, trivial⟩, ⟨.op rfl, trivial⟩⟩⟩
    refine PC.cond_true rfl h_27 ?_
    refine PC.skip ?_
    refine thA_n ?_
    refine PC.seq ?_
    refine PC.block ?_
    refine PC.seq ?_
    obtain ⟨x28, h_29, hh1⟩ := bind_some hh1
    rcases cond_some hh1 with ⟨h_30, hh1⟩ | ⟨h_30, hh1⟩
    · refine PC.region ?_
      refine PL.op rfl (Rd.fieldO rfl rfl) ?_
      refine PL.op rfl (Rd.loadO rfl rfl rfl) ?_
      refine PL.op rfl (Rd.moveT rfl) ?_
      refine PL.op rfl (Rd.ixM rfl rfl h_29) ?_
      refine PL.op rfl (Rd.fieldT rfl) ?_
      refine PL.op rfl (Rd.elMF (f := 0) rfl h_29 rfl rfl) ?_
      refine PL.op rfl (Rd.unnot rfl) ?_
      refine PL.op rfl (Rd.moveT rfl) ?_
      refine PL.guard_off rfl rfl (not_t h_30) ?_
      refine PL.guard_off rfl rfl (not_t h_30) ?_
      refine PL.guard_off rfl rfl (not_t h_30) ?_
      refine PL.guard_off rfl rfl (not_t h_30) ?_
      refine PL.guard_off rfl rfl (not_t h_30) ?_
      refine PL.guard_off rfl rfl (not_t h_30) ?_
      refine PL.guard_off rfl rfl (not_t h_30) ?_
      refine PL.op rfl (Rd.pick_f rfl (not_t h_30)) ?_
      refine PL.nil ?_
      refine thA_n ?_
      refine PC.cond_false rfl rfl ?_
      refine PC.skip ?_
      refine inA_n ?_
      refine thA_n ?_
      obtain ⟨n33, h_34, hh1⟩ := bind_some hh1
      refine PC.region ?_
      refine PL.op rfl (Rd.moveT rfl) ?_
      refine PL.op rfl (Rd.addM rfl rfl h_34) ?_
      refine PL.op rfl (Rd.asnT rfl) ?_
      refine PL.nil ?_
      obtain rfl := some_in hh1
      refine thA_n ?_
      exact ⟨(f15, n33), Nat.lt_succ_self _, kk1, [some 0], ⟨rfl, rfl, ⟨⟨_, rfl, rfl, rfl, .mx ⟨.t _, trivial⟩⟩, trivial⟩, ⟨.op rfl, .t _, trivial⟩⟩⟩
    obtain ⟨x31, h_32, hh1⟩ := bind_some hh1
    refine PC.region ?_
    refine PL.op rfl (Rd.fieldO rfl rfl) ?_
    refine PL.op rfl (Rd.loadO rfl rfl rfl) ?_
    refine PL.op rfl (Rd.moveT rfl) ?_
    refine PL.op rfl (Rd.ixM rfl rfl h_29) ?_
    refine PL.op rfl (Rd.fieldT rfl) ?_
    refine PL.op rfl (Rd.elMF (f := 0) rfl h_29 rfl rfl) ?_
    refine PL.op rfl (Rd.unnot rfl) ?_
    refine PL.op rfl (Rd.moveT rfl) ?_
    refine PL.guard_on rfl (not_f h_30) ?_
    refine PL.op rfl (Rd.fieldO rfl rfl) ?_
    refine PL.guard_on rfl (not_f h_30) ?_
    refine PL.op rfl (Rd.loadO rfl rfl rfl) ?_
    refine PL.guard_on rfl (not_f h_30) ?_
    refine PL.op rfl (Rd.moveT rfl) ?_
    refine PL.guard_on rfl (not_f h_30) ?_
    refine PL.op rfl (Rd.ixM rfl rfl h_32) ?_
    refine PL.guard_on rfl (not_f h_30) ?_
    refine PL.op rfl (Rd.fieldT rfl) ?_
    refine PL.guard_on rfl (not_f h_30) ?_
    refine PL.op rfl (Rd.elMF (f := 1) rfl h_32 rfl rfl) ?_
    refine PL.guard_on rfl (not_f h_30) ?_
    refine PL.op rfl (Rd.neqS rfl rfl) ?_
    refine PL.op rfl (Rd.pick_t rfl (not_f h_30)) ?_
    refine PL.nil ?_
    refine thA_n ?_
    rcases cond_some hh1 with ⟨h_35, hh1⟩ | ⟨h_35, hh1⟩
    · refine PC.cond_false rfl (not_t h_35) ?_
      refine PC.skip ?_
      refine inA_n ?_
      refine thA_n ?_
      obtain ⟨n36, h_37, hh1⟩ := bind_some hh1
      refine PC.region ?_
      refine PL.op rfl (Rd.moveT rfl) ?_
      refine PL.op rfl (Rd.addM rfl rfl h_37) ?_
      refine PL.op rfl (Rd.asnT rfl) ?_
      refine PL.nil ?_
      obtain rfl := some_in hh1
      refine thA_n ?_
      exact ⟨(f15, n36), Nat.lt_succ_self _, kk1, [some 0], ⟨rfl, rfl, ⟨⟨_, rfl, rfl, rfl, .mx ⟨.t _, trivial⟩⟩, trivial⟩, ⟨.op rfl, .t _, trivial⟩⟩⟩
    refine PC.cond_true rfl (not_f h_35) ?_
    refine PC.seq ?_
    refine PC.region ?_
    refine PL.op rfl (Rd.asnT rfl) ?_
    refine PL.nil ?_
    refine thA_n ?_
    refine PC.ret ?_
    refine inA_r ?_
    refine thA_r ?_
    refine thA_r ?_
    refine inA_r ?_
    refine thA_r ?_
    obtain rfl := some_in hh1
    obtain rfl : (.inr false : Unit ⊕ Bool) = o13 := kk1
    refine thA_r ?_
    obtain rfl := some_in hh0
    exact FinA.mk (r := bA false) (bl := []) [] (.inl rfl) rfl (rl := [.tmp 2]) (.tmp .nil) rfl rfl rfl (.t _) trivial ⟨rfl, rfl⟩
  clear hh0
  rintro ⟨⟩ hh0
  replace hh0 : m_S_validPage_k1 N p_p  = some r := hh0
  unfold m_S_validPage_k1 at hh0
  refine thA_n ?_
  refine PC.seq ?_
  rcases cond_some hh0 with ⟨h_18, hh0⟩ | ⟨h_18, hh0⟩
  rotate_left
  · refine PC.region ?_
    refine PL.op rfl (Rd.fieldO rfl rfl) ?_
    refine PL.op rfl (Rd.loadO rfl rfl rfl) ?_
    refine PL.op rfl (Rd.lenT rfl) ?_
    refine PL.op rfl (Rd.leq rfl rfl) ?_
    refine PL.op rfl (Rd.moveT rfl) ?_
    refine PL.guard_off rfl rfl h_18 ?_
    refine PL.guard_off rfl rfl h_18 ?_
    refine PL.guard_off rfl rfl h_18 ?_
    refine PL.op rfl (Rd.pick_f rfl h_18) ?_
    refine PL.op rfl (Rd.moveT rfl) ?_
    refine PL.guard_off rfl rfl rfl ?_
    refine PL.guard_off rfl rfl rfl ?_
    refine PL.guard_off rfl rfl rfl ?_
    refine PL.guard_off rfl rfl rfl ?_
    refine PL.guard_off rfl rfl rfl ?_
    refine PL.guard_un rfl rfl ?_
    refine PL.guard_un rfl rfl ?_
    refine PL.guard_un rfl rfl ?_
    refine PL.guard_un rfl rfl ?_
    refine PL.guard_un rfl rfl ?_
    refine PL.guard_un rfl rfl ?_
    refine PL.guard_un rfl rfl ?_
    refine PL.guard_un rfl rfl ?_
    refine PL.guard_un rfl rfl ?_
    refine PL.guard_off rfl rfl rfl ?_
    refine PL.op rfl (Rd.pick_f rfl rfl) ?_
    refine PL.op rfl (Rd.asnT rfl) ?_
    refine PL.nil ?_
    refine thA_n ?_
    refine PC.ret ?_
    obtain rfl := some_in hh0
    exact FinA.mk (r := bA false) (bl := []) [] (.inl rfl) rfl (rl := [.tmp 2]) (.tmp .nil) rfl rfl rfl (.t _) trivial ⟨rfl, rfl⟩
  obtain ⟨r19, h_20, hh0⟩ := bind_some hh0
  rcases cond_some hh0 with ⟨h_21, hh0⟩ | ⟨h_21, hh0⟩
  rotate_left
  · refine PC.region ?_
    refine PL.op rfl (Rd.fieldO rfl rfl) ?_
    refine PL.op rfl (Rd.loadO rfl rfl rfl) ?_
    refine PL.op rfl (Rd.lenT rfl) ?_
    refine PL.op rfl (Rd.leq rfl rfl) ?_
    refine PL.op rfl (Rd.moveT rfl) ?_
    refine PL.guard_on rfl h_18 ?_
    refine PL.op rfl (Rd.loadBox rfl rfl rfl) ?_
    refine PL.guard_on rfl h_18 ?_
    refine PL.callM false [] (w_S_used N p_p r19 h_20) rfl Try.call62 rfl ⟨.aggL ⟨.t _, trivial⟩, trivial⟩ rfl trivial (fun h => by cases h) ?_
    refine PL.guard_on rfl h_18 ?_
    refine PL.op rfl (Rd.leq rfl rfl) ?_
    refine PL.op rfl (Rd.pick_t rfl h_18) ?_
    refine PL.op rfl (Rd.moveT rfl) ?_
    refine PL.guard_off rfl rfl h_21 ?_
    refine PL.guard_off rfl rfl h_21 ?_
    refine PL.guard_off rfl rfl h_21 ?_
    refine PL.guard_off rfl rfl h_21 ?_
    refine PL.guard_off rfl rfl h_21 ?_
    refine PL.guard_un rfl rfl ?_
    refine PL.guard_un rfl rfl ?_
    refine PL.guard_un rfl rfl ?_
    refine PL.guard_un rfl rfl ?_
    refine PL.guard_un rfl rfl ?_
    refine PL.guard_un rfl rfl ?_
    refine PL.guard_un rfl rfl ?_
    refine PL.guard_un rfl rfl ?_
    refine PL.guard_un rfl rfl ?_
    refine PL.guard_off rfl rfl h_21 ?_
    refine PL.op rfl (Rd.pick_f rfl h_21) ?_
    refine PL.op rfl (Rd.asnT rfl) ?_
    refine PL.nil ?_
    refine thA_n ?_
    refine PC.ret ?_
    obtain rfl := some_in hh0
    exact FinA.mk (r := bA false) (bl := []) [] (.inl rfl) rfl (rl := [.tmp 2]) (.tmp .nil) rfl rfl rfl (.t _) trivial ⟨rfl, rfl⟩
  rcases cond_some hh0 with ⟨h_22, hh0⟩ | ⟨h_22, hh0⟩
  · refine PC.region ?_
    refine PL.op rfl (Rd.fieldO rfl rfl) ?_
    refine PL.op rfl (Rd.loadO rfl rfl rfl) ?_
    refine PL.op rfl (Rd.lenT rfl) ?_
    refine PL.op rfl (Rd.leq rfl rfl) ?_
    refine PL.op rfl (Rd.moveT rfl) ?_
    refine PL.guard_on rfl h_18 ?_
    refine PL.op rfl (Rd.loadBox rfl rfl rfl) ?_
    refine PL.guard_on rfl h_18 ?_
    refine PL.callM false [] (w_S_used N p_p r19 h_20) rfl Try.call62 rfl ⟨.aggL ⟨.t _, trivial⟩, trivial⟩ rfl trivial (fun h => by cases h) ?_
    refine PL.guard_on rfl h_18 ?_
    refine PL.op rfl (Rd.leq rfl rfl) ?_
    refine PL.op rfl (Rd.pick_t rfl h_18) ?_
    refine PL.op rfl (Rd.moveT rfl) ?_
    refine PL.guard_on rfl h_21 ?_
    refine PL.op rfl (Rd.fieldO rfl rfl) ?_
    refine PL.guard_on rfl h_21 ?_
    refine PL.op rfl (Rd.loadO rfl rfl rfl) ?_
    refine PL.guard_on rfl h_21 ?_
    refine PL.op rfl (Rd.lenT rfl) ?_
    refine PL.guard_on rfl h_21 ?_
    refine PL.op rfl (Rd.eql rfl rfl) ?_
    refine PL.guard_on rfl h_21 ?_
    refine PL.op rfl (Rd.moveT rfl) ?_
    refine PL.guard_off rfl rfl h_22 ?_
    refine PL.guard_off rfl rfl h_22 ?_
    refine PL.guard_off rfl rfl h_22 ?_
    refine PL.guard_off rfl rfl h_22 ?_
    refine PL.guard_off rfl rfl h_22 ?_
    refine PL.guard_off rfl rfl h_22 ?_
    refine PL.guard_off rfl rfl h_22 ?_
    refine PL.guard_off rfl rfl h_22 ?_
    refine PL.guard_off rfl rfl h_22 ?_
    refine PL.guard_on rfl h_21 ?_
    refine PL.op rfl (Rd.pick_t rfl h_22) ?_
    refine PL.op rfl (Rd.pick_t rfl h_21) ?_
    refine PL.op rfl (Rd.asnT rfl) ?_
    refine PL.nil ?_
    refine thA_n ?_
    refine PC.ret ?_
    obtain rfl := some_in hh0
    exact FinA.mk (r := bA true) (bl := []) [] (.inl rfl) rfl (rl := [.tmp 2]) (.tmp .nil) rfl rfl rfl (.t _) trivial ⟨rfl, rfl⟩
  obtain ⟨n23, h_24, hh0⟩ := bind_some hh0
  obtain ⟨x25, h_26, hh0⟩ := bind_some hh0
  refine PC.region ?_
  refine PL.op rfl (Rd.fieldO rfl rfl) ?_
  refine PL.op rfl (Rd.loadO rfl rfl rfl) ?_
  refine PL.op rfl (Rd.lenT rfl) ?_
  refine PL.op rfl (Rd.leq rfl rfl) ?_
  refine PL.op rfl (Rd.moveT rfl) ?_
  refine PL.guard_on rfl h_18 ?_
  refine PL.op rfl (Rd.loadBox rfl rfl rfl) ?_
  refine PL.guard_on rfl h_18 ?_
  refine PL.callM false [] (w_S_used N p_p r19 h_20) rfl Try.call62 rfl ⟨.aggL ⟨.t _, trivial⟩, trivial⟩ rfl trivial (fun h => by cases h) ?_
  refine PL.guard_on rfl h_18 ?_
  refine PL.op rfl (Rd.leq rfl rfl) ?_
  refine PL.op rfl (Rd.pick_t rfl h_18) ?_
  refine PL.op rfl (Rd.moveT rfl) ?_
  refine PL.guard_on rfl h_21 ?_
  refine PL.op rfl (Rd.fieldO rfl rfl) ?_
  refine PL.guard_on rfl h_21 ?_
  refine PL.op rfl (Rd.loadO rfl rfl rfl) ?_
  refine PL.guard_on rfl h_21 ?_
  refine PL.op rfl (Rd.lenT rfl) ?_
  refine PL.guard_on rfl h_21 ?_
  refine PL.op rfl (Rd.eql rfl rfl) ?_
  refine PL.guard_on rfl h_21 ?_
  refine PL.op rfl (Rd.moveT rfl) ?_
  refine PL.guard_on rfl h_22 ?_
  refine PL.op rfl (Rd.fieldO rfl rfl) ?_
  refine PL.guard_on rfl h_22 ?_
  refine PL.op rfl (Rd.loadO rfl rfl rfl) ?_
  refine PL.guard_on rfl h_22 ?_
  refine PL.op rfl (Rd.fieldO rfl rfl) ?_
  refine PL.guard_on rfl h_22 ?_
  refine PL.op rfl (Rd.loadO rfl rfl rfl) ?_
  refine PL.guard_on rfl h_22 ?_
  refine PL.op rfl (Rd.lenT rfl) ?_
  refine PL.guard_on rfl h_22 ?_
  refine PL.op rfl (Rd.subM rfl rfl h_24) ?_
  refine PL.guard_on rfl h_22 ?_
  refine PL.op rfl (Rd.ixM rfl rfl h_26) ?_
  refine PL.guard_on rfl h_22 ?_
  refine PL.op rfl (Rd.fieldT rfl) ?_
  refine PL.guard_on rfl h_22 ?_
  refine PL.op rfl (Rd.elMF (f := 0) rfl h_26 rfl rfl) ?_
  refine PL.guard_on rfl h_21 ?_
  refine PL.op rfl (Rd.pick_f rfl h_22) ?_
  refine PL.op rfl (Rd.pick_t rfl h_21) ?_
  refine PL.op rfl (Rd.asnT rfl) ?_
  refine PL.nil ?_
  refine thA_n ?_
  refine PC.ret ?_
  obtain rfl := some_in hh0
  exact FinA.mk (r := bA x25.live) (bl := []) [] (.inl rfl) rfl (rl := [.tmp 2]) (.tmp .nil) rfl rfl rfl (.t _) trivial ⟨rfl, rfl⟩

def m_S_PageFree (N : Nat) (p_p : I_Page) : Option (Int) :=
  (m_S_validPage N p_p).bind fun r1 =>
  cond r1
    ((m_S_used N p_p).bind fun r4 =>
    (chk ((100 : Int) - r4)).bind fun n6 =>
    some n6)
    (some (-1 : Int))
theorem w_S_PageFree (N : Nat) (p_p : I_Page) (r : Int) (hh0 : m_S_PageFree N p_p = some r) : FnX Try.prog 21 [] [.agg [sL p_p.slots]] (RE (iA r) []) := by
  unfold m_S_PageFree at hh0
  refine FnX.mk Try.func21 rfl rfl ?_
  intro s hs
  refine PC.seq ?_
  refine PC.region ?_
  refine PL.ef rfl (Ef.box rfl rfl rfl) ?_
  refine PL.nm (.op 0 0) [some ⟨.mx [sL p_p.slots], 25, 0⟩] rfl rfl ?_
  refine PL.op rfl (Rd.asnT rfl) ?_
  refine PL.nil ?_
  refine thA_n ?_
  refine PC.seq ?_
  refine PC.seq ?_
  obtain ⟨r1, h_2, hh0⟩ := bind_some hh0
  refine PC.region ?_
  refine PL.op rfl (Rd.loadBox rfl rfl rfl) ?_
  refine PL.callM false [] (w_S_validPage N p_p r1 h_2) rfl Try.call61 rfl ⟨.aggL ⟨.t _, trivial⟩, trivial⟩ rfl trivial (fun h => by cases h) ?_
  refine PL.op rfl (Rd.unnot rfl) ?_
  refine PL.nil ?_
  refine thA_n ?_
  rcases cond_some hh0 with ⟨h_3, hh0⟩ | ⟨h_3, hh0⟩
  rotate_left
  · refine PC.cond_true rfl (not_f h_3) ?_
    refine PC.seq ?_
    refine PC.region ?_
    refine PL.op rfl (Rd.asnT rfl) ?_
    refine PL.nil ?_
    refine thA_n ?_
    refine PC.ret ?_
    refine thA_r ?_
    obtain rfl := some_in hh0
    exact FinA.mk (r := iA (-1 : Int)) (bl := []) [] (.inl rfl) rfl (rl := [.tmp 2]) (.tmp .nil) rfl rfl rfl (.t _) trivial ⟨rfl, rfl⟩
  refine PC.cond_false rfl (not_t h_3) ?_
  refine PC.skip ?_
  refine thA_n ?_
  refine PC.seq ?_
  obtain ⟨r4, h_5, hh0⟩ := bind_some hh0
  obtain ⟨n6, h_7, hh0⟩ := bind_some hh0
  refine PC.region ?_
  refine PL.op rfl (Rd.loadBox rfl rfl rfl) ?_
  refine PL.callM false [] (w_S_used N p_p r4 h_5) rfl Try.call62 rfl ⟨.aggL ⟨.t _, trivial⟩, trivial⟩ rfl trivial (fun h => by cases h) ?_
  refine PL.op rfl (Rd.subM rfl rfl h_7) ?_
  refine PL.op rfl (Rd.asnT rfl) ?_
  refine PL.nil ?_
  refine thA_n ?_
  refine PC.ret ?_
  obtain rfl := some_in hh0
  exact FinA.mk (r := iA n6) (bl := []) [] (.inl rfl) rfl (rl := [.tmp 2]) (.tmp .nil) rfl rfl rfl (.t _) trivial ⟨rfl, rfl⟩

def m_S_withSlot_k1 (N : Nat) (v17 : (List I_Slot)) : Option (I_Page) :=
  (appM 24 ([] : List I_Slot) v17).bind fun xs23 =>
  some (I_Page.mk xs23)
def m_S_withSlot_b1 (N : Nat) (v6 : (List I_Slot)) : Option ((List I_Slot) ⊕ (List I_Slot)) :=
  cond (decide ((0 : Int) < (v6.length : Int)))
    ((chk ((v6.length : Int) - (1 : Int))).bind fun n26 =>
    (ixI v6 n26).bind fun x28 =>
    cond x28.live
      (some (.inr v6))
      ((chk ((v6.length : Int) - (1 : Int))).bind fun n31 =>
      (V.subM v6 (0 : Int) n31).bind fun xs33 =>
      some (.inl xs33)))
    (some (.inr v6))
def m_S_withSlot_k2 (N : Nat) (v48 : (List I_Slot)) : Option (I_Page) :=
  (appM 24 ([] : List I_Slot) v48).bind fun xs54 =>
  some (I_Page.mk xs54)
def m_S_withSlot_b2 (N : Nat) (v37 : (List I_Slot)) : Option ((List I_Slot) ⊕ (List I_Slot)) :=
  cond (decide ((0 : Int) < (v37.length : Int)))
    ((chk ((v37.length : Int) - (1 : Int))).bind fun n57 =>
    (ixI v37 n57).bind fun x59 =>
    cond x59.live
      (some (.inr v37))
      ((chk ((v37.length : Int) - (1 : Int))).bind fun n62 =>
      (V.subM v37 (0 : Int) n62).bind fun xs64 =>
      some (.inl xs64)))
    (some (.inr v37))
def m_S_withSlot (N : Nat) (p_p : I_Page) (p_at : Int) (p_s : I_Slot) : Option (I_Page) :=
  (appM 24 ([] : List I_Slot) p_p.slots).bind fun xs1 =>
  cond (decide (p_at = (xs1.length : Int)))
    ((appM 24 xs1 [p_s]).bind fun xs4 =>
    (loopM (β := (List I_Slot)) (fun s : (List I_Slot) => m_S_withSlot_b1 N s) N xs4).bind fun e =>
    m_S_withSlot_k1 N e)
    ((ixI xs1 p_at).bind fun x35 =>
    (loopM (β := (List I_Slot)) (fun s : (List I_Slot) => m_S_withSlot_b2 N s) N (xs1.set p_at.toNat p_s)).bind fun e =>
    m_S_withSlot_k2 N e)
theorem w_S_withSlot (N : Nat) (p_p : I_Page) (p_at : Int) (p_s : I_Slot) (r : I_Page) (hh0 : m_S_withSlot N p_p p_at p_s = some r) : FnX Try.prog 67 [] [.agg [sL p_p.slots], iA p_at, .agg [bA p_s.live, sA p_s.data]] (RE (.agg [.os 0 0 r.slots.length]) [⟨.tr (eL r.slots), 35, 2⟩]) := by
  unfold m_S_withSlot at hh0
  refine FnX.mk Try.func67 rfl rfl ?_
  intro s hs
  refine PC.seq ?_
  refine PC.region ?_
  refine PL.ef rfl (Ef.box rfl rfl rfl) ?_
  refine PL.nm (.op 0 0) [some ⟨.mx [sL p_p.slots], 25, 0⟩] rfl rfl ?_
  refine PL.ef rfl (Ef.box rfl rfl rfl) ?_
  refine PL.nm (.op 1 0) [some ⟨.mx [sL p_p.slots], 25, 0⟩, some ⟨.mx [bA p_s.live, sA p_s.data], 35, 0⟩] rfl rfl ?_
  refine PL.ef rfl (Ef.alloc rfl rfl) ?_
  refine PL.nm (.op 2 0) [some ⟨.mx [sL p_p.slots], 25, 0⟩, some ⟨.mx [bA p_s.live, sA p_s.data], 35, 0⟩, some ⟨.mx [.t (.v (.slice none 0 0))], 25, 0⟩] rfl rfl ?_
  refine PL.nil ?_
  refine thA_n ?_
  refine PC.seq ?_
  obtain ⟨xs1, h_2, hh0⟩ := bind_some hh0
  refine PC.region ?_
  refine PL.ef rfl (Ef.lit0M I_Slot) ?_
  refine PL.nm (.os 3 0 0) [some ⟨.mx [sL p_p.slots], 25, 0⟩, some ⟨.mx [bA p_s.live, sA p_s.data], 35, 0⟩, some ⟨.mx [.t (.v (.slice none 0 0))], 25, 0⟩, some ⟨.tr (eL ([] : List I_Slot)), 35, 2⟩] rfl rfl ?_
  refine PL.op rfl (Rd.fieldO rfl rfl) ?_
  refine PL.op rfl (Rd.loadO rfl rfl rfl) ?_
  refine PL.apM hs rfl rfl rfl rfl (SrcA.eL rfl) rfl rfl rfl rfl h_2 ?_
  refine PL.nm (.os 4 0 xs1.length) [some ⟨.mx [sL p_p.slots], 25, 0⟩, some ⟨.mx [bA p_s.live, sA p_s.data], 35, 0⟩, some ⟨.mx [.t (.v (.slice none 0 0))], 25, 0⟩, none, some ⟨.tr (eL xs1), 35, 2⟩] rfl rfl ?_
  refine PL.op rfl (Rd.asnO rfl) ?_
  refine PL.nil ?_
  refine thA_n ?_
  refine PC.seq ?_
  refine PC.seq ?_
  refine PC.region ?_
  refine PL.op rfl (Rd.moveT rfl) ?_
  refine PL.op rfl (Rd.moveO rfl) ?_
  refine PL.op rfl (Rd.lenO rfl rfl) ?_
  refine PL.op rfl (Rd.eql rfl rfl) ?_
  refine PL.nil ?_
  refine thA_n ?_
  rcases cond_some hh0 with ⟨h_3, hh0⟩ | ⟨h_3, hh0⟩
  rotate_left
  · refine PC.cond_false rfl h_3 ?_
    obtain ⟨x35, h_36, hh0⟩ := bind_some hh0
    refine PC.region ?_
    refine PL.op rfl (Rd.moveO rfl) ?_
    refine PL.op rfl (Rd.moveT rfl) ?_
    refine PL.op rfl (Rd.loadBox rfl rfl rfl) ?_
    refine PL.op rfl (Rd.ixOM rfl rfl rfl (ixI_lt h_36)) ?_
    refine PL.stRM p_s rfl rfl rfl rfl rfl h_36 rfl ?_
    refine PL.nO [some ⟨.mx [sL p_p.slots], 25, 0⟩, some ⟨.mx [bA p_s.live, sA p_s.data], 35, 0⟩, some ⟨.mx [.t (.v (.slice none 0 0))], 25, 0⟩, none, some ⟨.tr (eL (xs1.set p_at.toNat p_s)), 35, 2⟩] rfl ?_
    refine PL.nil ?_
    refine thA_n ?_
    obtain ⟨o49, h_50, hh0⟩ := bind_some hh0
    refine PC.cut hs (fun x : (List I_Slot) => [(6, .op 0 0), (7, .os 1 0 x.length)]) (fun x => [⟨.mx [.t (.v (.slice none 0 0))], 25, 0⟩, ⟨.tr (eL x), 35, 2⟩]) (fun x => m_S_withSlot_k2 N x = some r) ?_ ?_
    · refine PC.block ?_
      refine PC.loop hs (fun x : Nat × ((List I_Slot)) => [(6, .op 0 0), (7, .os 1 0 x.2.length)]) (fun x => [⟨.mx [.t (.v (.slice none 0 0))], 25, 0⟩, ⟨.tr (eL x.2), 35, 2⟩]) (fun x => loopM (β := (List I_Slot)) (fun s : (List I_Slot) => m_S_withSlot_b2 N s) x.1 x.2 = some o49) (fun x => x.1) (N, (xs1.set p_at.toNat p_s)) [some 2, some 4] ⟨rfl, rfl, ⟨⟨_, rfl, rfl, rfl, .mx ⟨.t _, trivial⟩⟩, ⟨_, rfl, rfl, rfl, .tr _⟩, trivial⟩, ⟨.op rfl, .osE rfl (by simp only [List.length_set]), trivial⟩⟩ h_50 ?_
      rintro ⟨f51_, v37⟩ h_53
      obtain ⟨f51, y52, rfl, hh1, kk1⟩ := loopM_some h_53
      replace hh1 : m_S_withSlot_b2 N v37 = some y52 := hh1
      unfold m_S_withSlot_b2 at hh1
      refine PC.seq ?_
      refine PC.seq ?_
      rcases cond_some hh1 with ⟨h_56, hh1⟩ | ⟨h_56, hh1⟩
      rotate_left
      · refine PC.region ?_
        refine PL.op rfl (Rd.moveO rfl) ?_
        refine PL.op rfl (Rd.lenO rfl rfl) ?_
        refine PL.op rfl (Rd.gtr rfl rfl) ?_
        refine PL.op rfl (Rd.moveT rfl) ?_
        refine PL.guard_off rfl rfl h_56 ?_
        refine PL.guard_off rfl rfl h_56 ?_
        refine PL.guard_off rfl rfl h_56 ?_
        refine PL.guard_off rfl rfl h_56 ?_
        refine PL.guard_off rfl rfl h_56 ?_
        refine PL.guard_off rfl rfl h_56 ?_
        refine PL.guard_off rfl rfl h_56 ?_
        refine PL.guard_off rfl rfl h_56 ?_
        refine PL.op rfl (Rd.pick_f rfl h_56) ?_
        refine PL.nil ?_
        refine thA_n ?_
        refine PC.cond_false rfl rfl ?_
        refine PC.exit ?_
        refine thA_e ?_
        refine thA_e ?_
        refine inA_eq rfl ?_
        refine thA_n ?_
        obtain rfl := some_in hh1
        obtain rfl : (v37 : (List I_Slot)) = o49 := kk1
        exact ⟨v37, hh0, [some 0, some 1], ⟨rfl, rfl, ⟨⟨_, rfl, rfl, rfl, .mx ⟨.t _, trivial⟩⟩, ⟨_, rfl, rfl, rfl, .tr _⟩, trivial⟩, ⟨.op rfl, .os rfl, trivial⟩⟩⟩
      obtain ⟨n57, h_58, hh1⟩ := bind_some hh1
      obtain ⟨x59, h_60, hh1⟩ := bind_some hh1
      refine PC.region ?_
      refine PL.op rfl (Rd.moveO rfl) ?_
      refine PL.op rfl (Rd.lenO rfl rfl) ?_
      refine PL.op rfl (Rd.gtr rfl rfl) ?_
      refine PL.op rfl (Rd.moveT rfl) ?_
      refine PL.guard_on rfl h_56 ?_
      refine PL.op rfl (Rd.moveO rfl) ?_
      refine PL.guard_on rfl h_56 ?_
      refine PL.op rfl (Rd.moveO rfl) ?_
      refine PL.guard_on rfl h_56 ?_
      refine PL.op rfl (Rd.lenO rfl rfl) ?_
      refine PL.guard_on rfl h_56 ?_
      refine PL.op rfl (Rd.subM rfl rfl h_58) ?_
      refine PL.guard_on rfl h_56 ?_
      refine PL.op rfl (Rd.ixOM rfl rfl rfl (ixI_lt h_60)) ?_
      refine PL.guard_on rfl h_56 ?_
      refine PL.op rfl (Rd.fieldO rfl rfl) ?_
      refine PL.guard_on rfl h_56 ?_
      refine PL.op rfl (Rd.owMF (f := 0) rfl rfl h_60 rfl rfl) ?_
      refine PL.guard_on rfl h_56 ?_
      refine PL.op rfl (Rd.unnot rfl) ?_
      refine PL.op rfl (Rd.pick_t rfl h_56) ?_
      refine PL.nil ?_
      refine thA_n ?_
      rcases cond_some hh1 with ⟨h_61, hh1⟩ | ⟨h_61, hh1⟩
      · refine PC.cond_false rfl (not_t h_61) ?_
        refine PC.exit ?_
        refine thA_e ?_
        refine thA_e ?_
        refine inA_eq rfl ?_
        refine thA_n ?_
        obtain rfl := some_in hh1
        obtain rfl : (v37 : (List I_Slot)) = o49 := kk1
        exact ⟨v37, hh0, [some 0, some 1], ⟨rfl, rfl, ⟨⟨_, rfl, rfl, rfl, .mx ⟨.t _, trivial⟩⟩, ⟨_, rfl, rfl, rfl, .tr _⟩, trivial⟩, ⟨.op rfl, .os rfl, trivial⟩⟩⟩
      refine PC.cond_true rfl (not_f h_61) ?_
      refine PC.skip ?_
      refine thA_n ?_
      refine PC.block ?_
      obtain ⟨n62, h_63, hh1⟩ := bind_some hh1
      obtain ⟨xs64, h_65, hh1⟩ := bind_some hh1
      refine PC.region ?_
      refine PL.op rfl (Rd.moveO rfl) ?_
      refine PL.op rfl (Rd.moveO rfl) ?_
      refine PL.op rfl (Rd.lenO rfl rfl) ?_
      refine PL.op rfl (Rd.subM rfl rfl h_63) ?_
      refine PL.cutM rfl rfl rfl rfl rfl h_65 ?_
      refine PL.nm (.os 1 0 xs64.length) [some ⟨.mx [.t (.v (.slice none 0 0))], 25, 0⟩, some ⟨.tr (eL xs64), 35, 2⟩] rfl rfl ?_
      refine PL.op rfl (Rd.asnO rfl) ?_
      refine PL.nil ?_
      refine inA_n ?_
      obtain rfl := some_in hh1
      refine thA_n ?_
      exact ⟨(f51, xs64), Nat.lt_succ_self _, kk1, [some 0, some 1], ⟨rfl, rfl, ⟨⟨_, rfl, rfl, rfl, .mx ⟨.t _, trivial⟩⟩, ⟨_, rfl, rfl, rfl, .tr _⟩, trivial⟩, ⟨.op rfl, .os rfl, trivial⟩⟩⟩
    clear hh0
    rintro v48 hh0
    replace hh0 : m_S_withSlot_k2 N v48 = some r := hh0
    unfold m_S_withSlot_k2 at hh0
    refine PC.seq ?_
    obtain ⟨xs54, h_55, hh0⟩ := bind_some hh0
    refine PC.region ?_
    refine PL.ef rfl (Ef.lit0M I_Slot) ?_
    refine PL.nm (.os 2 0 0) [some ⟨.mx [.t (.v (.slice none 0 0))], 25, 0⟩, some ⟨.tr (eL v48), 35, 2⟩, some ⟨.tr (eL ([] : List I_Slot)), 35, 2⟩] rfl rfl ?_
    refine PL.op rfl (Rd.moveO rfl) ?_
    refine PL.apM hs rfl rfl rfl rfl (SrcA.ownE rfl rfl rfl) rfl rfl rfl rfl h_55 ?_
    refine PL.nm (.os 3 0 xs54.length) [some ⟨.mx [.t (.v (.slice none 0 0))], 25, 0⟩, some ⟨.tr (eL v48), 35, 2⟩, none, some ⟨.tr (eL xs54), 35, 2⟩] rfl rfl ?_
    refine PL.op rfl (Rd.build rfl rfl rfl rfl) ?_
    refine PL.store rfl rfl rfl rfl rfl rfl rfl ?_
    refine PL.nO [some ⟨.mx [.os 3 0 xs54.length], 25, 0⟩, some ⟨.tr (eL v48), 35, 2⟩, none, some ⟨.tr (eL xs54), 35, 2⟩] rfl ?_
    refine PL.nil ?_
    refine thA_n ?_
    refine PC.ret ?_
    obtain rfl := some_in hh0
    exact FinA.mk (r := .agg [.os 0 0 xs54.length]) (bl := [⟨.tr (eL xs54), 35, 2⟩]) [some 3] (.inl rfl) rfl (rl := [.cell 6 25]) (.cellN rfl rfl rfl rfl .nil) rfl rfl rfl (.aggL ⟨.os rfl, trivial⟩) ⟨⟨_, rfl, rfl, rfl, .tr _⟩, trivial⟩ ⟨rfl, rfl⟩
  refine PC.cond_true rfl h_3 ?_
  obtain ⟨xs4, h_5, hh0⟩ := bind_some hh0
  refine PC.region ?_
  refine PL.op rfl (Rd.moveO rfl) ?_
  refine PL.op rfl (Rd.loadBox rfl rfl rfl) ?_
  refine PL.ef rfl (Ef.litM (α := I_Slot) [p_s] [_] rfl rfl (by decide) rfl rfl rfl rfl) ?_
  refine PL.nm (.os 5 0 1) [some ⟨.mx [sL p_p.slots], 25, 0⟩, some ⟨.mx [bA p_s.live, sA p_s.data], 35, 0⟩, some ⟨.mx [.t (.v (.slice none 0 0))], 25, 0⟩, none, some ⟨.tr (eL xs1), 35, 2⟩, some ⟨.tr (eL [p_s]), 35, 2⟩] rfl rfl ?_
  refine PL.apM hs rfl rfl rfl rfl (SrcA.ownE rfl rfl rfl) rfl rfl rfl rfl h_5 ?_
  refine PL.nm (.os 6 0 xs4.length) [some ⟨.mx [sL p_p.slots], 25, 0⟩, some ⟨.mx [bA p_s.live, sA p_s.data], 35, 0⟩, some ⟨.mx [.t (.v (.slice none 0 0))], 25, 0⟩, none, none, some ⟨.tr (eL [p_s]), 35, 2⟩, some ⟨.tr (eL xs4), 35, 2⟩] rfl rfl ?_
  refine PL.op rfl (Rd.asnO rfl) ?_
  refine PL.nil ?_
  refine thA_n ?_
  obtain ⟨o18, h_19, hh0⟩ := bind_some hh0
  refine PC.cut hs (fun x : (List I_Slot) => [(6, .op 0 0), (7, .os 1 0 x.length)]) (fun x => [⟨.mx [.t (.v (.slice none 0 0))], 25, 0⟩, ⟨.tr (eL x), 35, 2⟩]) (fun x => m_S_withSlot_k1 N x = some r) ?_ ?_
  · refine PC.block ?_
    refine PC.loop hs (fun x : Nat × ((List I_Slot)) => [(6, .op 0 0), (7, .os 1 0 x.2.length)]) (fun x => [⟨.mx [.t (.v (.slice none 0 0))], 25, 0⟩, ⟨.tr (eL x.2), 35, 2⟩]) (fun x => loopM (β := (List I_Slot)) (fun s : (List I_Slot) => m_S_withSlot_b1 N s) x.1 x.2 = some o18) (fun x => x.1) (N, xs4) [some 2, some 6] ⟨rfl, rfl, ⟨⟨_, rfl, rfl, rfl, .mx ⟨.t _, trivial⟩⟩, ⟨_, rfl, rfl, rfl, .tr _⟩, trivial⟩, ⟨.op rfl, .os rfl, trivial⟩⟩ h_19 ?_
    rintro ⟨f20_, v6⟩ h_22
    obtain ⟨f20, y21, rfl, hh1, kk1⟩ := loopM_some h_22
    replace hh1 : m_S_withSlot_b1 N v6 = some y21 := hh1
    unfold m_S_withSlot_b1 at hh1
    refine PC.seq ?_
    refine PC.seq ?_
    rcases cond_some hh1 with ⟨h_25, hh1⟩ | ⟨h_25, hh1⟩
    rotate_left
    · refine PC.region ?_
      refine PL.op rfl (Rd.moveO rfl) ?_
      refine PL.op rfl (Rd.lenO rfl rfl) ?_
      refine PL.op rfl (Rd.gtr rfl rfl) ?_
      refine PL.op rfl (Rd.moveT rfl) ?_
      refine PL.guard_off rfl rfl h_25 ?_
      refine PL.guard_off rfl rfl h_25 ?_
      refine PL.guard_off rfl rfl h_25 ?_
      refine PL.guard_off rfl rfl h_25 ?_
      refine PL.guard_off rfl rfl h_25 ?_
      refine PL.guard_off rfl rfl h_25 ?_
      refine PL.guard_off rfl rfl h_25 ?_
      refine PL.guard_off rfl rfl h_25 ?_
      refine PL.op rfl (Rd.pick_f rfl h_25) ?_
      refine PL.nil ?_
      refine thA_n ?_
      refine PC.cond_false rfl rfl ?_
      refine PC.exit ?_
      refine thA_e ?_
      refine thA_e ?_
      refine inA_eq rfl ?_
      refine thA_n ?_
      obtain rfl := some_in hh1
      obtain rfl : (v6 : (List I_Slot)) = o18 := kk1
      exact ⟨v6, hh0, [some 0, some 1], ⟨rfl, rfl, ⟨⟨_, rfl, rfl, rfl, .mx ⟨.t _, trivial⟩⟩, ⟨_, rfl, rfl, rfl, .tr _⟩, trivial⟩, ⟨.op rfl, .os rfl, trivial⟩⟩⟩
    obtain ⟨n26, h_27, hh1⟩ := bind_some hh1
    obtain ⟨x28, h_29, hh1⟩ := bind_some hh1
    refine PC.region ?_
    refine PL.op rfl (Rd.moveO rfl) ?_
    refine PL.op rfl (Rd.lenO rfl rfl) ?_
    refine PL.op rfl (Rd.gtr rfl rfl) ?_
    refine PL.op rfl (Rd.moveT rfl) ?_
    refine PL.guard_on rfl h_25 ?_
    refine PL.op rfl (Rd.moveO rfl) ?_
    refine PL.guard_on rfl h_25 ?_
    refine PL.op rfl (Rd.moveO rfl) ?_
    refine PL.guard_on rfl h_25 ?_
    refine PL.op rfl (Rd.lenO rfl rfl) ?_
    refine PL.guard_on rfl h_25 ?_
    refine PL.op rfl (Rd.subM rfl rfl h_27) ?_
    refine PL.guard_on rfl h_25 ?_
    refine PL.op rfl (Rd.ixOM rfl rfl rfl (ixI_lt h_29)) ?_
    refine PL.guard_on rfl h_25 ?_
    refine PL.op rfl (Rd.fieldO rfl rfl) ?_
    refine PL.guard_on rfl h_25 ?_
    refine PL.op rfl (Rd.owMF (f := 0) rfl rfl h_29 rfl rfl) ?_
    refine PL.guard_on rfl h_25 ?_
    refine PL.op rfl (Rd.unnot rfl) ?_
    refine PL.op rfl (Rd.pick_t rfl h_25) ?_
    refine PL.nil ?_
    refine thA_n ?_
    rcases cond_some hh1 with ⟨h_30, hh1⟩ | ⟨h_30, hh1⟩
    · refine PC.cond_false rfl (not_t h_30) ?_
      refine PC.exit ?_
      refine thA_e ?_
      refine thA_e ?_
      refine inA_eq rfl ?_
      refine thA_n ?_
      obtain rfl := some_in hh1
      obtain rfl : (v6 : (List I_Slot)) = o18 := kk1
      exact ⟨v6, hh0, [some 0, some 1], ⟨rfl, rfl, ⟨⟨_, rfl, rfl, rfl, .mx ⟨.t _, trivial⟩⟩, ⟨_, rfl, rfl, rfl, .tr _⟩, trivial⟩, ⟨.op rfl, .os rfl, trivial⟩⟩⟩
    refine PC.cond_true rfl (not_f h_30) ?_
    refine PC.skip ?_
    refine thA_n ?_
    refine PC.block ?_
    obtain ⟨n31, h_32, hh1⟩ := bind_some hh1
    obtain ⟨xs33, h_34, hh1⟩ := bind_some hh1
    refine PC.region ?_
    refine PL.op rfl (Rd.moveO rfl) ?_
    refine PL.op rfl (Rd.moveO rfl) ?_
    refine PL.op rfl (Rd.lenO rfl rfl) ?_
    refine PL.op rfl (Rd.subM rfl rfl h_32) ?_
    refine PL.cutM rfl rfl rfl rfl rfl h_34 ?_
    refine PL.nm (.os 1 0 xs33.length) [some ⟨.mx [.t (.v (.slice none 0 0))], 25, 0⟩, some ⟨.tr (eL xs33), 35, 2⟩] rfl rfl ?_
    refine PL.op rfl (Rd.asnO rfl) ?_
    refine PL.nil ?_
    refine inA_n ?_
    obtain rfl := some_in hh1
    refine thA_n ?_
    exact ⟨(f20, xs33), Nat.lt_succ_self _, kk1, [some 0, some 1], ⟨rfl, rfl, ⟨⟨_, rfl, rfl, rfl, .mx ⟨.t _, trivial⟩⟩, ⟨_, rfl, rfl, rfl, .tr _⟩, trivial⟩, ⟨.op rfl, .os rfl, trivial⟩⟩⟩
  clear hh0
  rintro v17 hh0
  replace hh0 : m_S_withSlot_k1 N v17 = some r := hh0
  unfold m_S_withSlot_k1 at hh0
  refine PC.seq ?_
  obtain ⟨xs23, h_24, hh0⟩ := bind_some hh0
  refine PC.region ?_
  refine PL.ef rfl (Ef.lit0M I_Slot) ?_
  refine PL.nm (.os 2 0 0) [some ⟨.mx [.t (.v (.slice none 0 0))], 25, 0⟩, some ⟨.tr (eL v17), 35, 2⟩, some ⟨.tr (eL ([] : List I_Slot)), 35, 2⟩] rfl rfl ?_
  refine PL.op rfl (Rd.moveO rfl) ?_
  refine PL.apM hs rfl rfl rfl rfl (SrcA.ownE rfl rfl rfl) rfl rfl rfl rfl h_24 ?_
  refine PL.nm (.os 3 0 xs23.length) [some ⟨.mx [.t (.v (.slice none 0 0))], 25, 0⟩, some ⟨.tr (eL v17), 35, 2⟩, none, some ⟨.tr (eL xs23), 35, 2⟩] rfl rfl ?_
  refine PL.op rfl (Rd.build rfl rfl rfl rfl) ?_
  refine PL.store rfl rfl rfl rfl rfl rfl rfl ?_
  refine PL.nO [some ⟨.mx [.os 3 0 xs23.length], 25, 0⟩, some ⟨.tr (eL v17), 35, 2⟩, none, some ⟨.tr (eL xs23), 35, 2⟩] rfl ?_
  refine PL.nil ?_
  refine thA_n ?_
  refine PC.ret ?_
  obtain rfl := some_in hh0
  exact FinA.mk (r := .agg [.os 0 0 xs23.length]) (bl := [⟨.tr (eL xs23), 35, 2⟩]) [some 3] (.inl rfl) rfl (rl := [.cell 6 25]) (.cellN rfl rfl rfl rfl .nil) rfl rfl rfl (.aggL ⟨.os rfl, trivial⟩) ⟨⟨_, rfl, rfl, rfl, .tr _⟩, trivial⟩ ⟨rfl, rfl⟩

def m_S_PutSlot_k1 (N : Nat) (p_p : I_Page) (p_data : ByteArray) (i11 : Int) : Option (I_Page × Int × Bool) :=
  (m_S_withSlot N p_p i11 (I_Slot.mk true p_data)).bind fun r17 =>
  (m_S_validPage N r17).bind fun r19 =>
  cond r19
    (some (r17, i11, true))
    (some ((I_Page.mk ([] : List I_Slot)), (-1 : Int), false))
def m_S_PutSlot_b1 (N : Nat) (p_p : I_Page) (i4 : Int) : Option (Int ⊕ Int) :=
  cond (decide (i4 < (p_p.slots.length : Int)))
    ((ixI p_p.slots i4).bind fun x23 =>
    cond x23.live
      ((chk (i4 + (1 : Int))).bind fun n26 =>
      some (.inl n26))
      (some (.inr i4)))
    (some (.inr i4))
def m_S_PutSlot (N : Nat) (p_p : I_Page) (p_data : ByteArray) : Option (I_Page × Int × Bool) :=
  (m_S_validPage N p_p).bind fun r1 =>
  cond r1
    ((loopM (β := Int) (fun s : Int => m_S_PutSlot_b1 N p_p s) N (0 : Int)).bind fun e =>
    m_S_PutSlot_k1 N p_p p_data e)
    (some ((I_Page.mk ([] : List I_Slot)), (-1 : Int), false))
theorem w_S_PutSlot (N : Nat) (p_p : I_Page) (p_data : ByteArray) (r : I_Page × Int × Bool) (hh0 : m_S_PutSlot N p_p p_data = some r) : FnX Try.prog 24 [] [.agg [sL p_p.slots], sA p_data] (RE (.tup [.agg [.os 0 0 r.1.slots.length], iA r.2.1, bA r.2.2]) [⟨.tr (eL r.1.slots), 35, 2⟩]) := by
  unfold m_S_PutSlot at hh0
  refine FnX.mk Try.func24 rfl rfl ?_
  intro s hs
  refine PC.seq ?_
  refine PC.region ?_
  refine PL.ef rfl (Ef.box rfl rfl rfl) ?_
  refine PL.nm (.op 0 0) [some ⟨.mx [sL p_p.slots], 25, 0⟩] rfl rfl ?_
  refine PL.ef rfl (Ef.alloc rfl rfl) ?_
  refine PL.nm (.op 1 0) [some ⟨.mx [sL p_p.slots], 25, 0⟩, some ⟨.mx [.t (.v (.slice none 0 0))], 25, 0⟩] rfl rfl ?_
  refine PL.op rfl (Rd.asnT rfl) ?_
  refine PL.op rfl (Rd.asnT rfl) ?_
  refine PL.nil ?_
  refine thA_n ?_
  refine PC.seq ?_
  refine PC.seq ?_
  obtain ⟨r1, h_2, hh0⟩ := bind_some hh0
  refine PC.region ?_
  refine PL.op rfl (Rd.loadBox rfl rfl rfl) ?_
  refine PL.callM false [] (w_S_validPage N p_p r1 h_2) rfl Try.call61 rfl ⟨.aggL ⟨.t _, trivial⟩, trivial⟩ rfl trivial (fun h => by cases h) ?_
  refine PL.op rfl (Rd.unnot rfl) ?_
  refine PL.nil ?_
  refine thA_n ?_
  rcases cond_some hh0 with ⟨h_3, hh0⟩ | ⟨h_3, hh0⟩
  rotate_left
  · refine PC.cond_true rfl (not_f h_3) ?_
    refine PC.seq ?_
    refine PC.region ?_
    refine PL.op rfl (Rd.build rfl rfl rfl rfl) ?_
    refine PL.store rfl rfl rfl rfl rfl rfl rfl ?_
    refine PL.op rfl (Rd.asnT rfl) ?_
    refine PL.op rfl (Rd.asnT rfl) ?_
    refine PL.nil ?_
    refine thA_n ?_
    refine PC.ret ?_
    refine thA_r ?_
    obtain rfl := some_in hh0
    exact FinA.mk (r := .tup [.agg [.os 0 0 ((((I_Page.mk ([] : List I_Slot)), (-1 : Int), false).1.slots).length)], iA (((I_Page.mk ([] : List I_Slot)), (-1 : Int), false).2.1), bA (((I_Page.mk ([] : List I_Slot)), (-1 : Int), false).2.2)]) (bl := [⟨.tr (eL (((I_Page.mk ([] : List I_Slot)), (-1 : Int), false).1.slots)), 35, 2⟩]) [none] (.inl rfl) rfl (rl := [.cell 4 25, .tmp 5, .tmp 6]) (.cellN rfl rfl rfl rfl (.tmp (.tmp .nil))) rfl rfl rfl (.tupL ⟨.aggL ⟨.osn rfl, trivial⟩, .t _, .t _, trivial⟩) ⟨ow_nil _, trivial⟩ ⟨rfl, rfl⟩
  refine PC.cond_false rfl (not_t h_3) ?_
  refine PC.skip ?_
  refine thA_n ?_
  refine PC.seq ?_
  refine PC.region ?_
  refine PL.op rfl (Rd.asnT rfl) ?_
  refine PL.nil ?_
  refine thA_n ?_
  obtain ⟨o12, h_13, hh0⟩ := bind_some hh0
  refine PC.cut hs (fun x : Int => [(1, sA p_data), (2, .op 0 0), (4, .op 1 0), (7, iA x)]) (fun x => [⟨.mx [sL p_p.slots], 25, 0⟩, ⟨.mx [.t (.v (.slice none 0 0))], 25, 0⟩]) (fun x => m_S_PutSlot_k1 N p_p p_data x = some r) ?_ ?_
  · refine PC.block ?_
    refine PC.loop hs (fun x : Nat × (Int) => [(1, sA p_data), (2, .op 0 0), (4, .op 1 0), (7, iA x.2)]) (fun x => [⟨.mx [sL p_p.slots], 25, 0⟩, ⟨.mx [.t (.v (.slice none 0 0))], 25, 0⟩]) (fun x => loopM (β := Int) (fun s : Int => m_S_PutSlot_b1 N p_p s) x.1 x.2 = some o12) (fun x => x.1) (N, (0 : Int)) [some 0, some 1] ⟨rfl, rfl, ⟨⟨_, rfl, rfl, rfl, .mx ⟨.t _, trivial⟩⟩, ⟨_, rfl, rfl, rfl, .mx ⟨.t _, trivial⟩⟩, trivial⟩, ⟨.t _, .op rfl, .op rfl, .t _, trivial⟩⟩ h_13 ?_
    rintro ⟨f14_, i4⟩ h_16
    obtain ⟨f14, y15, rfl, hh1, kk1⟩ := loopM_some h_16
    replace hh1 : m_S_PutSlot_b1 N p_p i4 = some y15 := hh1
    unfold m_S_PutSlot_b1 at hh1
    refine PC.seq ?_
    refine PC.seq ?_
    rcases cond_some hh1 with ⟨h_22, hh1⟩ | ⟨h_22, hh1⟩
    rotate_left
    · refine PC.region ?_
      refine PL.op rfl (Rd.moveT rfl) ?_
      refine PL.op rfl (Rd.fieldO rfl rfl) ?_
      refine PL.op rfl (Rd.loadO rfl rfl rfl) ?_
      refine PL.op rfl (Rd.lenT rfl) ?_
      refine PL.op rfl (Rd.lss rfl rfl) ?_
      refine PL.op rfl (Rd.moveT rfl) ?_
      refine PL.guard_off rfl rfl h_22 ?_
      refine PL.guard_off rfl rfl h_22 ?_
      refine PL.guard_off rfl rfl h_22 ?_
      refine PL.guard_off rfl rfl h_22 ?_
      refine PL.guard_off rfl rfl h_22 ?_
      refine PL.guard_off rfl rfl h_22 ?_
      refine PL.op rfl (Rd.pick_f rfl h_22) ?_
      refine PL.nil ?_
      refine thA_n ?_
      refine PC.cond_false rfl rfl ?_
      refine PC.exit ?_
      refine thA_e ?_
      refine thA_e ?_
      refine inA_eq rfl ?_
      refine thA_n ?_
      obtain rfl := some_in hh1
      obtain rfl : (i4 : Int) = o12 := kk1
      exact ⟨i4, hh0, [some 0, some 1], ⟨rfl, rfl, ⟨⟨_, rfl, rfl, rfl, .mx ⟨.t _, trivial⟩⟩, ⟨_, rfl, rfl, rfl, .mx ⟨.t _, trivial⟩⟩, trivial⟩, ⟨.t _, .op rfl, .op rfl, .t _, trivial⟩⟩⟩
    obtain ⟨x23, h_24, hh1⟩ := bind_some hh1
    refine PC.region ?_
    refine PL.op rfl (Rd.moveT rfl) ?_
    refine PL.op rfl (Rd.fieldO rfl rfl) ?_
    refine PL.op rfl (Rd.loadO rfl rfl rfl) ?_
    refine PL.op rfl (Rd.lenT rfl) ?_
    refine PL.op rfl (Rd.lss rfl rfl) ?_
    refine PL.op rfl (Rd.moveT rfl) ?_
    refine PL.guard_on rfl h_22 ?_
    refine PL.op rfl (Rd.fieldO rfl rfl) ?_
    refine PL.guard_on rfl h_22 ?_
    refine PL.op rfl (Rd.loadO rfl rfl rfl) ?_
    refine PL.guard_on rfl h_22 ?_
    refine PL.op rfl (Rd.moveT rfl) ?_
    refine PL.guard_on rfl h_22 ?_
    refine PL.op rfl (Rd.ixM rfl rfl h_24) ?_
    refine PL.guard_on rfl h_22 ?_
    refine PL.op rfl (Rd.fieldT rfl) ?_
    refine PL.guard_on rfl h_22 ?_
    refine PL.op rfl (Rd.elMF (f := 0) rfl h_24 rfl rfl) ?_
    refine PL.op rfl (Rd.pick_t rfl h_22) ?_
    refine PL.nil ?_
    refine thA_n ?_
    rcases cond_some hh1 with ⟨h_25, hh1⟩ | ⟨h_25, hh1⟩
    rotate_left
    · refine PC.cond_false rfl h_25 ?_
      refine PC.exit ?_
      refine thA_e ?_
      refine thA_e ?_
      refine inA_eq rfl ?_
      refine thA_n ?_
      obtain rfl := some_in hh1
      obtain rfl : (i4 : Int) = o12 := kk1
      exact ⟨i4, hh0, [some 0, some 1], ⟨rfl, rfl, ⟨⟨_, rfl, rfl, rfl, .mx ⟨.t _, trivial⟩⟩, ⟨_, rfl, rfl, rfl, .mx ⟨.t _, trivial⟩⟩, trivial⟩, ⟨.t _, .op rfl, .op rfl, .t _, trivial⟩⟩⟩
    refine PC.cond_true rfl h_25 ?_
    refine PC.skip ?_
    refine thA_n ?_
    refine PC.block ?_
    obtain ⟨n26, h_27, hh1⟩ := bind_some hh1
    refine PC.region ?_
    refine PL.op rfl (Rd.moveT rfl) ?_
    refine PL.op rfl (Rd.addM rfl rfl h_27) ?_
    refine PL.op rfl (Rd.asnT rfl) ?_
    refine PL.nil ?_
    refine inA_n ?_
    obtain rfl := some_in hh1
    refine thA_n ?_
    exact ⟨(f14, n26), Nat.lt_succ_self _, kk1, [some 0, some 1], ⟨rfl, rfl, ⟨⟨_, rfl, rfl, rfl, .mx ⟨.t _, trivial⟩⟩, ⟨_, rfl, rfl, rfl, .mx ⟨.t _, trivial⟩⟩, trivial⟩, ⟨.t _, .op rfl, .op rfl, .t _, trivial⟩⟩⟩
  clear hh0
  rintro i11 hh0
  replace hh0 : m_S_PutSlot_k1 N p_p p_data i11 = some r := hh0
  unfold m_S_PutSlot_k1 at hh0
  refine PC.seq ?_
  obtain ⟨r17, h_18, hh0⟩ := bind_some hh0
  refine PC.region ?_
  refine PL.op rfl (Rd.loadBox rfl rfl rfl) ?_
  refine PL.op rfl (Rd.moveT rfl) ?_
  refine PL.op rfl (Rd.moveT rfl) ?_
  refine PL.op rfl (Rd.build rfl rfl rfl rfl) ?_
  refine PL.callM false [] (w_S_withSlot N p_p i11 (I_Slot.mk true p_data) r17 h_18) rfl Try.call67 rfl ⟨.aggL ⟨.t _, trivial⟩, .t _, .aggL ⟨.t _, .t _, trivial⟩, trivial⟩ rfl trivial (fun h => by cases h) ?_
  refine PL.nm (.agg [.os 2 0 r17.slots.length]) [some ⟨.mx [sL p_p.slots], 25, 0⟩, some ⟨.mx [.t (.v (.slice none 0 0))], 25, 0⟩, some ⟨.tr (eL r17.slots), 35, 2⟩] rfl rfl ?_
  refine PL.ef rfl (Ef.alloc rfl rfl) ?_
  refine PL.nm (.op 3 0) [some ⟨.mx [sL p_p.slots], 25, 0⟩, some ⟨.mx [.t (.v (.slice none 0 0))], 25, 0⟩, some ⟨.tr (eL r17.slots), 35, 2⟩, some ⟨.mx [.t (.v (.slice none 0 0))], 25, 0⟩] rfl rfl ?_
  refine PL.store rfl rfl rfl rfl rfl rfl rfl ?_
  refine PL.nO [some ⟨.mx [sL p_p.slots], 25, 0⟩, some ⟨.mx [.t (.v (.slice none 0 0))], 25, 0⟩, some ⟨.tr (eL r17.slots), 35, 2⟩, some ⟨.mx [.os 2 0 r17.slots.length], 25, 0⟩] rfl ?_
  refine PL.nil ?_
  refine thA_n ?_
  refine PC.seq ?_
  refine PC.seq ?_
  obtain ⟨r19, h_20, hh0⟩ := bind_some hh0
  refine PC.region ?_
  refine PL.op rfl (Rd.loadBox rfl rfl rfl) ?_
  refine PL.callM true [] (w_S_validPage N r17 r19 h_20) rfl Try.call61 rfl ⟨.aggL ⟨.own rfl (by first | decide | exact List.not_mem_nil) rfl rfl, trivial⟩, trivial⟩ rfl trivial (fun _ => ⟨trivial, flat_nil⟩) ?_
  refine PL.op rfl (Rd.unnot rfl) ?_
  refine PL.nil ?_
  refine thA_n ?_
  rcases cond_some hh0 with ⟨h_21, hh0⟩ | ⟨h_21, hh0⟩
  rotate_left
  · refine PC.cond_true rfl (not_f h_21) ?_
    refine PC.seq ?_
    refine PC.region ?_
    refine PL.op rfl (Rd.build rfl rfl rfl rfl) ?_
    refine PL.store rfl rfl rfl rfl rfl rfl rfl ?_
    refine PL.op rfl (Rd.asnT rfl) ?_
    refine PL.op rfl (Rd.asnT rfl) ?_
    refine PL.nil ?_
    refine thA_n ?_
    refine PC.ret ?_
    refine thA_r ?_
    obtain rfl := some_in hh0
    exact FinA.mk (r := .tup [.agg [.os 0 0 ((((I_Page.mk ([] : List I_Slot)), (-1 : Int), false).1.slots).length)], iA (((I_Page.mk ([] : List I_Slot)), (-1 : Int), false).2.1), bA (((I_Page.mk ([] : List I_Slot)), (-1 : Int), false).2.2)]) (bl := [⟨.tr (eL (((I_Page.mk ([] : List I_Slot)), (-1 : Int), false).1.slots)), 35, 2⟩]) [none] (.inl rfl) rfl (rl := [.cell 4 25, .tmp 5, .tmp 6]) (.cellN rfl rfl rfl rfl (.tmp (.tmp .nil))) rfl rfl rfl (.tupL ⟨.aggL ⟨.osn rfl, trivial⟩, .t _, .t _, trivial⟩) ⟨ow_nil _, trivial⟩ ⟨rfl, rfl⟩
  refine PC.cond_false rfl (not_t h_21) ?_
  refine PC.skip ?_
  refine thA_n ?_
  refine PC.seq ?_
  refine PC.region ?_
  refine PL.op rfl (Rd.loadBox rfl rfl rfl) ?_
  refine PL.op rfl (Rd.moveT rfl) ?_
  refine PL.store rfl rfl rfl rfl rfl rfl rfl ?_
  refine PL.nO [some ⟨.mx [sL p_p.slots], 25, 0⟩, some ⟨.mx [.os 2 0 r17.slots.length], 25, 0⟩, some ⟨.tr (eL r17.slots), 35, 2⟩, some ⟨.mx [.os 2 0 r17.slots.length], 25, 0⟩] rfl ?_
  refine PL.op rfl (Rd.asnT rfl) ?_
  refine PL.op rfl (Rd.asnT rfl) ?_
  refine PL.nil ?_
  refine thA_n ?_
  refine PC.ret ?_
  obtain rfl := some_in hh0
  exact FinA.mk (r := .tup [.agg [.os 0 0 (((r17, i11, true).1.slots).length)], iA ((r17, i11, true).2.1), bA ((r17, i11, true).2.2)]) (bl := [⟨.tr (eL ((r17, i11, true).1.slots)), 35, 2⟩]) [some 2] (.inl rfl) rfl (rl := [.cell 4 25, .tmp 5, .tmp 6]) (.cellN rfl rfl rfl rfl (.tmp (.tmp .nil))) rfl rfl rfl (.tupL ⟨.aggL ⟨.os rfl, trivial⟩, .t _, .t _, trivial⟩) ⟨⟨_, rfl, rfl, rfl, .tr _⟩, trivial⟩ ⟨rfl, rfl⟩

def m_S_inRange (N : Nat) (p_n : Int) (p_low : Int) (p_high : Int) : Option (Bool) :=
  cond (decide (p_low ≤ p_n))
    (some (decide (p_n ≤ p_high)))
    (some false)
theorem w_S_inRange (N : Nat) (p_n : Int) (p_low : Int) (p_high : Int) (r : Bool) (hh0 : m_S_inRange N p_n p_low p_high = some r) : FnX Try.prog 85 [] [iA p_n, iA p_low, iA p_high] (RE (bA r) []) := by
  unfold m_S_inRange at hh0
  refine FnX.mk Try.func85 rfl rfl ?_
  intro s hs
  refine PC.seq ?_
  refine PC.region ?_
  refine PL.op rfl (Rd.asnT rfl) ?_
  refine PL.nil ?_
  refine thA_n ?_
  refine PC.seq ?_
  rcases cond_some hh0 with ⟨h_1, hh0⟩ | ⟨h_1, hh0⟩
  rotate_left
  · refine PC.region ?_
    refine PL.op rfl (Rd.moveT rfl) ?_
    refine PL.op rfl (Rd.moveT rfl) ?_
    refine PL.op rfl (Rd.leq rfl rfl) ?_
    refine PL.op rfl (Rd.moveT rfl) ?_
    refine PL.guard_off rfl rfl h_1 ?_
    refine PL.guard_off rfl rfl h_1 ?_
    refine PL.guard_off rfl rfl h_1 ?_
    refine PL.op rfl (Rd.pick_f rfl h_1) ?_
    refine PL.op rfl (Rd.asnT rfl) ?_
    refine PL.nil ?_
    refine thA_n ?_
    refine PC.ret ?_
    obtain rfl := some_in hh0
    exact FinA.mk (r := bA false) (bl := []) [] (.inl rfl) rfl (rl := [.tmp 6]) (.tmp .nil) rfl rfl rfl (.t _) trivial ⟨rfl, rfl⟩
  refine PC.region ?_
  refine PL.op rfl (Rd.moveT rfl) ?_
  refine PL.op rfl (Rd.moveT rfl) ?_
  refine PL.op rfl (Rd.leq rfl rfl) ?_
  refine PL.op rfl (Rd.moveT rfl) ?_
  refine PL.guard_on rfl h_1 ?_
  refine PL.op rfl (Rd.moveT rfl) ?_
  refine PL.guard_on rfl h_1 ?_
  refine PL.op rfl (Rd.moveT rfl) ?_
  refine PL.guard_on rfl h_1 ?_
  refine PL.op rfl (Rd.leq rfl rfl) ?_
  refine PL.op rfl (Rd.pick_t rfl h_1) ?_
  refine PL.op rfl (Rd.asnT rfl) ?_
  refine PL.nil ?_
  refine thA_n ?_
  refine PC.ret ?_
  obtain rfl := some_in hh0
  exact FinA.mk (r := bA (decide (p_n ≤ p_high))) (bl := []) [] (.inl rfl) rfl (rl := [.tmp 6]) (.tmp .nil) rfl rfl rfl (.t _) trivial ⟨rfl, rfl⟩

def m_S_live (N : Nat) (p_p : I_Page) (p_at : Int) : Option (Bool) :=
  (m_S_validPage N p_p).bind fun r1 =>
  cond r1
    ((chk ((p_p.slots.length : Int) - (1 : Int))).bind fun n4 =>
    (m_S_inRange N p_at (0 : Int) n4).bind fun r6 =>
    cond r6
      ((ixI p_p.slots p_at).bind fun x9 =>
      some x9.live)
      (some false))
    (some false)
theorem w_S_live (N : Nat) (p_p : I_Page) (p_at : Int) (r : Bool) (hh0 : m_S_live N p_p p_at = some r) : FnX Try.prog 70 [] [.agg [sL p_p.slots], iA p_at] (RE (bA r) []) := by
  unfold m_S_live at hh0
  refine FnX.mk Try.func70 rfl rfl ?_
  intro s hs
  refine PC.seq ?_
  refine PC.region ?_
  refine PL.ef rfl (Ef.box rfl rfl rfl) ?_
  refine PL.nm (.op 0 0) [some ⟨.mx [sL p_p.slots], 25, 0⟩] rfl rfl ?_
  refine PL.op rfl (Rd.asnT rfl) ?_
  refine PL.nil ?_
  refine thA_n ?_
  refine PC.seq ?_
  obtain ⟨r1, h_2, hh0⟩ := bind_some hh0
  rcases cond_some hh0 with ⟨h_3, hh0⟩ | ⟨h_3, hh0⟩
  rotate_left
  · refine PC.region ?_
    refine PL.op rfl (Rd.loadBox rfl rfl rfl) ?_
    refine PL.callM false [] (w_S_validPage N p_p r1 h_2) rfl Try.call61 rfl ⟨.aggL ⟨.t _, trivial⟩, trivial⟩ rfl trivial (fun h => by cases h) ?_
    refine PL.op rfl (Rd.moveT rfl) ?_
    refine PL.guard_off rfl rfl h_3 ?_
    refine PL.guard_off rfl rfl h_3 ?_
    refine PL.guard_off rfl rfl h_3 ?_
    refine PL.guard_off rfl rfl h_3 ?_
    refine PL.guard_off rfl rfl h_3 ?_
    refine PL.guard_off rfl rfl h_3 ?_
    refine PL.op rfl (Rd.pick_f rfl h_3) ?_
    refine PL.op rfl (Rd.moveT rfl) ?_
    refine PL.guard_off rfl rfl rfl ?_
    refine PL.guard_off rfl rfl rfl ?_
    refine PL.guard_off rfl rfl rfl ?_
    refine PL.guard_off rfl rfl rfl ?_
    refine PL.guard_off rfl rfl rfl ?_
    refine PL.guard_off rfl rfl rfl ?_
    refine PL.op rfl (Rd.pick_f rfl rfl) ?_
    refine PL.op rfl (Rd.asnT rfl) ?_
    refine PL.nil ?_
    refine thA_n ?_
    refine PC.ret ?_
    obtain rfl := some_in hh0
    exact FinA.mk (r := bA false) (bl := []) [] (.inl rfl) rfl (rl := [.tmp 4]) (.tmp .nil) rfl rfl rfl (.t _) trivial ⟨rfl, rfl⟩
  obtain ⟨n4, h_5, hh0⟩ := bind_some hh0
  obtain ⟨r6, h_7, hh0⟩ := bind_some hh0
  rcases cond_some hh0 with ⟨h_8, hh0⟩ | ⟨h_8, hh0⟩
  rotate_left
  · refine PC.region ?_
    refine PL.op rfl (Rd.loadBox rfl rfl rfl) ?_
    refine PL.callM false [] (w_S_validPage N p_p r1 h_2) rfl Try.call61 rfl ⟨.aggL ⟨.t _, trivial⟩, trivial⟩ rfl trivial (fun h => by cases h) ?_
    refine PL.op rfl (Rd.moveT rfl) ?_
    refine PL.guard_on rfl h_3 ?_
    refine PL.op rfl (Rd.moveT rfl) ?_
    refine PL.guard_on rfl h_3 ?_
    refine PL.op rfl (Rd.fieldO rfl rfl) ?_
    refine PL.guard_on rfl h_3 ?_
    refine PL.op rfl (Rd.loadO rfl rfl rfl) ?_
    refine PL.guard_on rfl h_3 ?_
    refine PL.op rfl (Rd.lenT rfl) ?_
    refine PL.guard_on rfl h_3 ?_
    refine PL.op rfl (Rd.subM rfl rfl h_5) ?_
    refine PL.guard_on rfl h_3 ?_
    refine PL.callM false [] (w_S_inRange N p_at (0 : Int) n4 r6 h_7) rfl Try.call85 rfl ⟨.t _, .t _, .t _, trivial⟩ rfl trivial (fun h => by cases h) ?_
    refine PL.op rfl (Rd.pick_t rfl h_3) ?_
    refine PL.op rfl (Rd.moveT rfl) ?_
    refine PL.guard_off rfl rfl h_8 ?_
    refine PL.guard_off rfl rfl h_8 ?_
    refine PL.guard_off rfl rfl h_8 ?_
    refine PL.guard_off rfl rfl h_8 ?_
    refine PL.guard_off rfl rfl h_8 ?_
    refine PL.guard_off rfl rfl h_8 ?_
    refine PL.op rfl (Rd.pick_f rfl h_8) ?_
    refine PL.op rfl (Rd.asnT rfl) ?_
    refine PL.nil ?_
    refine thA_n ?_
    refine PC.ret ?_
    obtain rfl := some_in hh0
    exact FinA.mk (r := bA false) (bl := []) [] (.inl rfl) rfl (rl := [.tmp 4]) (.tmp .nil) rfl rfl rfl (.t _) trivial ⟨rfl, rfl⟩
  obtain ⟨x9, h_10, hh0⟩ := bind_some hh0
  refine PC.region ?_
  refine PL.op rfl (Rd.loadBox rfl rfl rfl) ?_
  refine PL.callM false [] (w_S_validPage N p_p r1 h_2) rfl Try.call61 rfl ⟨.aggL ⟨.t _, trivial⟩, trivial⟩ rfl trivial (fun h => by cases h) ?_
  refine PL.op rfl (Rd.moveT rfl) ?_
  refine PL.guard_on rfl h_3 ?_
  refine PL.op rfl (Rd.moveT rfl) ?_
  refine PL.guard_on rfl h_3 ?_
  refine PL.op rfl (Rd.fieldO rfl rfl) ?_
  refine PL.guard_on rfl h_3 ?_
  refine PL.op rfl (Rd.loadO rfl rfl rfl) ?_
  refine PL.guard_on rfl h_3 ?_
  refine PL.op rfl (Rd.lenT rfl) ?_
  refine PL.guard_on rfl h_3 ?_
  refine PL.op rfl (Rd.subM rfl rfl h_5) ?_
  refine PL.guard_on rfl h_3 ?_
  refine PL.callM false [] (w_S_inRange N p_at (0 : Int) n4 r6 h_7) rfl Try.call85 rfl ⟨.t _, .t _, .t _, trivial⟩ rfl trivial (fun h => by cases h) ?_
  refine PL.op rfl (Rd.pick_t rfl h_3) ?_
  refine PL.op rfl (Rd.moveT rfl) ?_
  refine PL.guard_on rfl h_8 ?_
  refine PL.op rfl (Rd.fieldO rfl rfl) ?_
  refine PL.guard_on rfl h_8 ?_
  refine PL.op rfl (Rd.loadO rfl rfl rfl) ?_
  refine PL.guard_on rfl h_8 ?_
  refine PL.op rfl (Rd.moveT rfl) ?_
  refine PL.guard_on rfl h_8 ?_
  refine PL.op rfl (Rd.ixM rfl rfl h_10) ?_
  refine PL.guard_on rfl h_8 ?_
  refine PL.op rfl (Rd.fieldT rfl) ?_
  refine PL.guard_on rfl h_8 ?_
  refine PL.op rfl (Rd.elMF (f := 0) rfl h_10 rfl rfl) ?_
  refine PL.op rfl (Rd.pick_t rfl h_8) ?_
  refine PL.op rfl (Rd.asnT rfl) ?_
  refine PL.nil ?_
  refine thA_n ?_
  refine PC.ret ?_
  obtain rfl := some_in hh0
  exact FinA.mk (r := bA x9.live) (bl := []) [] (.inl rfl) rfl (rl := [.tmp 4]) (.tmp .nil) rfl rfl rfl (.t _) trivial ⟨rfl, rfl⟩

def m_S_SetSlot (N : Nat) (p_p : I_Page) (p_at : Int) (p_data : ByteArray) : Option (I_Page × Bool) :=
  (m_S_live N p_p p_at).bind fun r1 =>
  cond r1
    ((m_S_withSlot N p_p p_at (I_Slot.mk true p_data)).bind fun r4 =>
    (m_S_validPage N r4).bind fun r6 =>
    cond r6
      (some (r4, true))
      (some ((I_Page.mk ([] : List I_Slot)), false)))
    (some ((I_Page.mk ([] : List I_Slot)), false))
theorem w_S_SetSlot (N : Nat) (p_p : I_Page) (p_at : Int) (p_data : ByteArray) (r : I_Page × Bool) (hh0 : m_S_SetSlot N p_p p_at p_data = some r) : FnX Try.prog 30 [] [.agg [sL p_p.slots], iA p_at, sA p_data] (RE (.tup [.agg [.os 0 0 r.1.slots.length], bA r.2]) [⟨.tr (eL r.1.slots), 35, 2⟩]) := by
  unfold m_S_SetSlot at hh0
  refine FnX.mk Try.func30 rfl rfl ?_
  intro s hs
  refine PC.seq ?_
  refine PC.region ?_
  refine PL.ef rfl (Ef.box rfl rfl rfl) ?_
  refine PL.nm (.op 0 0) [some ⟨.mx [sL p_p.slots], 25, 0⟩] rfl rfl ?_
  refine PL.ef rfl (Ef.alloc rfl rfl) ?_
  refine PL.nm (.op 1 0) [some ⟨.mx [sL p_p.slots], 25, 0⟩, some ⟨.mx [.t (.v (.slice none 0 0))], 25, 0⟩] rfl rfl ?_
  refine PL.op rfl (Rd.asnT rfl) ?_
  refine PL.nil ?_
  refine thA_n ?_
  refine PC.seq ?_
  refine PC.seq ?_
  obtain ⟨r1, h_2, hh0⟩ := bind_some hh0
  refine PC.region ?_
  refine PL.op rfl (Rd.loadBox rfl rfl rfl) ?_
  refine PL.op rfl (Rd.moveT rfl) ?_
  refine PL.callM false [] (w_S_live N p_p p_at r1 h_2) rfl Try.call70 rfl ⟨.aggL ⟨.t _, trivial⟩, .t _, trivial⟩ rfl trivial (fun h => by cases h) ?_
  refine PL.op rfl (Rd.unnot rfl) ?_
  refine PL.nil ?_
  refine thA_n ?_
  rcases cond_some hh0 with ⟨h_3, hh0⟩ | ⟨h_3, hh0⟩
  rotate_left
  · refine PC.cond_true rfl (not_f h_3) ?_
    refine PC.seq ?_
    refine PC.region ?_
    refine PL.op rfl (Rd.build rfl rfl rfl rfl) ?_
    refine PL.store rfl rfl rfl rfl rfl rfl rfl ?_
    refine PL.op rfl (Rd.asnT rfl) ?_
    refine PL.nil ?_
    refine thA_n ?_
    refine PC.ret ?_
    refine thA_r ?_
    obtain rfl := some_in hh0
    exact FinA.mk (r := .tup [.agg [.os 0 0 ((((I_Page.mk ([] : List I_Slot)), false).1.slots).length)], bA (((I_Page.mk ([] : List I_Slot)), false).2)]) (bl := [⟨.tr (eL (((I_Page.mk ([] : List I_Slot)), false).1.slots)), 35, 2⟩]) [none] (.inl rfl) rfl (rl := [.cell 6 25, .tmp 7]) (.cellN rfl rfl rfl rfl (.tmp .nil)) rfl rfl rfl (.tupL ⟨.aggL ⟨.osn rfl, trivial⟩, .t _, trivial⟩) ⟨ow_nil _, trivial⟩ ⟨rfl, rfl⟩
  refine PC.cond_false rfl (not_t h_3) ?_
  refine PC.skip ?_
  refine thA_n ?_
  refine PC.seq ?_
  obtain ⟨r4, h_5, hh0⟩ := bind_some hh0
  refine PC.region ?_
  refine PL.op rfl (Rd.loadBox rfl rfl rfl) ?_
  refine PL.op rfl (Rd.moveT rfl) ?_
  refine PL.op rfl (Rd.moveT rfl) ?_
  refine PL.op rfl (Rd.build rfl rfl rfl rfl) ?_
  refine PL.callM false [] (w_S_withSlot N p_p p_at (I_Slot.mk true p_data) r4 h_5) rfl Try.call67 rfl ⟨.aggL ⟨.t _, trivial⟩, .t _, .aggL ⟨.t _, .t _, trivial⟩, trivial⟩ rfl trivial (fun h => by cases h) ?_
  refine PL.nm (.agg [.os 2 0 r4.slots.length]) [some ⟨.mx [sL p_p.slots], 25, 0⟩, some ⟨.mx [.t (.v (.slice none 0 0))], 25, 0⟩, some ⟨.tr (eL r4.slots), 35, 2⟩] rfl rfl ?_
  refine PL.ef rfl (Ef.alloc rfl rfl) ?_
  refine PL.nm (.op 3 0) [some ⟨.mx [sL p_p.slots], 25, 0⟩, some ⟨.mx [.t (.v (.slice none 0 0))], 25, 0⟩, some ⟨.tr (eL r4.slots), 35, 2⟩, some ⟨.mx [.t (.v (.slice none 0 0))], 25, 0⟩] rfl rfl ?_
  refine PL.store rfl rfl rfl rfl rfl rfl rfl ?_
  refine PL.nO [some ⟨.mx [sL p_p.slots], 25, 0⟩, some ⟨.mx [.t (.v (.slice none 0 0))], 25, 0⟩, some ⟨.tr (eL r4.slots), 35, 2⟩, some ⟨.mx [.os 2 0 r4.slots.length], 25, 0⟩] rfl ?_
  refine PL.nil ?_
  refine thA_n ?_
  refine PC.seq ?_
  refine PC.seq ?_
  obtain ⟨r6, h_7, hh0⟩ := bind_some hh0
  refine PC.region ?_
  refine PL.op rfl (Rd.loadBox rfl rfl rfl) ?_
  refine PL.callM true [] (w_S_validPage N r4 r6 h_7) rfl Try.call61 rfl ⟨.aggL ⟨.own rfl (by first | decide | exact List.not_mem_nil) rfl rfl, trivial⟩, trivial⟩ rfl trivial (fun _ => ⟨trivial, flat_nil⟩) ?_
  refine PL.op rfl (Rd.unnot rfl) ?_
  refine PL.nil ?_
  refine thA_n ?_
  rcases cond_some hh0 with ⟨h_8, hh0⟩ | ⟨h_8, hh0⟩
  rotate_left
  · refine PC.cond_true rfl (not_f h_8) ?_
    refine PC.seq ?_
    refine PC.region ?_
    refine PL.op rfl (Rd.build rfl rfl rfl rfl) ?_
    refine PL.store rfl rfl rfl rfl rfl rfl rfl ?_
    refine PL.op rfl (Rd.asnT rfl) ?_
    refine PL.nil ?_
    refine thA_n ?_
    refine PC.ret ?_
    refine thA_r ?_
    obtain rfl := some_in hh0
    exact FinA.mk (r := .tup [.agg [.os 0 0 ((((I_Page.mk ([] : List I_Slot)), false).1.slots).length)], bA (((I_Page.mk ([] : List I_Slot)), false).2)]) (bl := [⟨.tr (eL (((I_Page.mk ([] : List I_Slot)), false).1.slots)), 35, 2⟩]) [none] (.inl rfl) rfl (rl := [.cell 6 25, .tmp 7]) (.cellN rfl rfl rfl rfl (.tmp .nil)) rfl rfl rfl (.tupL ⟨.aggL ⟨.osn rfl, trivial⟩, .t _, trivial⟩) ⟨ow_nil _, trivial⟩ ⟨rfl, rfl⟩
  refine PC.cond_false rfl (not_t h_8) ?_
  refine PC.skip ?_
  refine thA_n ?_
  refine PC.seq ?_
  refine PC.region ?_
  refine PL.op rfl (Rd.loadBox rfl rfl rfl) ?_
  refine PL.store rfl rfl rfl rfl rfl rfl rfl ?_
  refine PL.nO [some ⟨.mx [sL p_p.slots], 25, 0⟩, some ⟨.mx [.os 2 0 r4.slots.length], 25, 0⟩, some ⟨.tr (eL r4.slots), 35, 2⟩, some ⟨.mx [.os 2 0 r4.slots.length], 25, 0⟩] rfl ?_
  refine PL.op rfl (Rd.asnT rfl) ?_
  refine PL.nil ?_
  refine thA_n ?_
  refine PC.ret ?_
  obtain rfl := some_in hh0
  exact FinA.mk (r := .tup [.agg [.os 0 0 (((r4, true).1.slots).length)], bA ((r4, true).2)]) (bl := [⟨.tr (eL ((r4, true).1.slots)), 35, 2⟩]) [some 2] (.inl rfl) rfl (rl := [.cell 6 25, .tmp 7]) (.cellN rfl rfl rfl rfl (.tmp .nil)) rfl rfl rfl (.tupL ⟨.aggL ⟨.os rfl, trivial⟩, .t _, trivial⟩) ⟨⟨_, rfl, rfl, rfl, .tr _⟩, trivial⟩ ⟨rfl, rfl⟩

def m_S_ClearSlot (N : Nat) (p_p : I_Page) (p_at : Int) : Option (I_Page × Bool) :=
  (m_S_live N p_p p_at).bind fun r1 =>
  cond r1
    ((m_S_withSlot N p_p p_at (I_Slot.mk false ByteArray.empty)).bind fun r4 =>
    some (r4, true))
    (some ((I_Page.mk ([] : List I_Slot)), false))
theorem w_S_ClearSlot (N : Nat) (p_p : I_Page) (p_at : Int) (r : I_Page × Bool) (hh0 : m_S_ClearSlot N p_p p_at = some r) : FnX Try.prog 33 [] [.agg [sL p_p.slots], iA p_at] (RE (.tup [.agg [.os 0 0 r.1.slots.length], bA r.2]) [⟨.tr (eL r.1.slots), 35, 2⟩]) := by
  unfold m_S_ClearSlot at hh0
  refine FnX.mk Try.func33 rfl rfl ?_
  intro s hs
  refine PC.seq ?_
  refine PC.region ?_
  refine PL.ef rfl (Ef.box rfl rfl rfl) ?_
  refine PL.nm (.op 0 0) [some ⟨.mx [sL p_p.slots], 25, 0⟩] rfl rfl ?_
  refine PL.ef rfl (Ef.alloc rfl rfl) ?_
  refine PL.nm (.op 1 0) [some ⟨.mx [sL p_p.slots], 25, 0⟩, some ⟨.mx [.t (.v (.slice none 0 0))], 25, 0⟩] rfl rfl ?_
  refine PL.op rfl (Rd.asnT rfl) ?_
  refine PL.nil ?_
  refine thA_n ?_
  refine PC.seq ?_
  refine PC.seq ?_
  obtain ⟨r1, h_2, hh0⟩ := bind_some hh0
  refine PC.region ?_
  refine PL.op rfl (Rd.loadBox rfl rfl rfl) ?_
  refine PL.op rfl (Rd.moveT rfl) ?_
  refine PL.callM false [] (w_S_live N p_p p_at r1 h_2) rfl Try.call70 rfl ⟨.aggL ⟨.t _, trivial⟩, .t _, trivial⟩ rfl trivial (fun h => by cases h) ?_
  refine PL.op rfl (Rd.unnot rfl) ?_
  refine PL.nil ?_
  refine thA_n ?_
  rcases cond_some hh0 with ⟨h_3, hh0⟩ | ⟨h_3, hh0⟩
  rotate_left
  · refine PC.cond_true rfl (not_f h_3) ?_
    refine PC.seq ?_
    refine PC.region ?_
    refine PL.op rfl (Rd.build rfl rfl rfl rfl) ?_
    refine PL.store rfl rfl rfl rfl rfl rfl rfl ?_
    refine PL.op rfl (Rd.asnT rfl) ?_
    refine PL.nil ?_
    refine thA_n ?_
    refine PC.ret ?_
    refine thA_r ?_
    obtain rfl := some_in hh0
    exact FinA.mk (r := .tup [.agg [.os 0 0 ((((I_Page.mk ([] : List I_Slot)), false).1.slots).length)], bA (((I_Page.mk ([] : List I_Slot)), false).2)]) (bl := [⟨.tr (eL (((I_Page.mk ([] : List I_Slot)), false).1.slots)), 35, 2⟩]) [none] (.inl rfl) rfl (rl := [.cell 4 25, .tmp 5]) (.cellN rfl rfl rfl rfl (.tmp .nil)) rfl rfl rfl (.tupL ⟨.aggL ⟨.osn rfl, trivial⟩, .t _, trivial⟩) ⟨ow_nil _, trivial⟩ ⟨rfl, rfl⟩
  refine PC.cond_false rfl (not_t h_3) ?_
  refine PC.skip ?_
  refine thA_n ?_
  refine PC.seq ?_
  obtain ⟨r4, h_5, hh0⟩ := bind_some hh0
  refine PC.region ?_
  refine PL.op rfl (Rd.loadBox rfl rfl rfl) ?_
  refine PL.op rfl (Rd.moveT rfl) ?_
  refine PL.op rfl (Rd.build rfl rfl rfl rfl) ?_
  refine PL.callM false [] (w_S_withSlot N p_p p_at (I_Slot.mk false ByteArray.empty) r4 h_5) rfl Try.call67 rfl ⟨.aggL ⟨.t _, trivial⟩, .t _, .aggL ⟨.t _, .t _, trivial⟩, trivial⟩ rfl trivial (fun h => by cases h) ?_
  refine PL.nm (.agg [.os 2 0 r4.slots.length]) [some ⟨.mx [sL p_p.slots], 25, 0⟩, some ⟨.mx [.t (.v (.slice none 0 0))], 25, 0⟩, some ⟨.tr (eL r4.slots), 35, 2⟩] rfl rfl ?_
  refine PL.store rfl rfl rfl rfl rfl rfl rfl ?_
  refine PL.nO [some ⟨.mx [sL p_p.slots], 25, 0⟩, some ⟨.mx [.os 2 0 r4.slots.length], 25, 0⟩, some ⟨.tr (eL r4.slots), 35, 2⟩] rfl ?_
  refine PL.op rfl (Rd.asnT rfl) ?_
  refine PL.nil ?_
  refine thA_n ?_
  refine PC.ret ?_
  obtain rfl := some_in hh0
  exact FinA.mk (r := .tup [.agg [.os 0 0 (((r4, true).1.slots).length)], bA ((r4, true).2)]) (bl := [⟨.tr (eL ((r4, true).1.slots)), 35, 2⟩]) [some 2] (.inl rfl) rfl (rl := [.cell 4 25, .tmp 5]) (.cellN rfl rfl rfl rfl (.tmp .nil)) rfl rfl rfl (.tupL ⟨.aggL ⟨.os rfl, trivial⟩, .t _, trivial⟩) ⟨⟨_, rfl, rfl, rfl, .tr _⟩, trivial⟩ ⟨rfl, rfl⟩

end V
end Go.Proofs.Ytoljdhdfijnjiaa
