/- Usable indexes: the functions of the program and of the reference. No condition. -/
import Derived.Test.YtlpbgmahegoidaaFnEq
import Derived.Test.YtlpbgmahegoidaaGenC
namespace Go.Proofs.Ytlpbgmahegoidaa
namespace V
open Enc (enc)
set_option linter.unusedVariables false
set_option linter.unusedSimpArgs false
set_option maxHeartbeats 4000000
set_option maxRecDepth 100000
open Go.RowKit
attribute [local irreducible] thA inA FinA eL

structure I_Entry where
  name : ByteArray
  table : ByteArray
  state : Int
deriving DecidableEq
instance : Enc I_Entry := ⟨fun x => [.v (.string x.name), .v (.string x.table), .v (.int .i64 x.state)], 3, fun _ => rfl⟩
instance : EncF I_Entry := ⟨fun _ c h => by simp [enc] at h; rcases h with h | h | h <;> exact ⟨_, h⟩⟩
def m_I_validName_k1 (N : Nat) : Option (Bool) :=
  some true
def m_I_validName_b1 (N : Nat) (p_s : ByteArray) (i3 : Int) : Option (Int ⊕ (Unit ⊕ Bool)) :=
  cond (decide (i3 < (p_s.size : Int)))
    ((ixS p_s i3).bind fun c19 =>
    cond (decide ((c19.toNat : Int) < ((97 : UInt8).toNat : Int)))
      (some (.inr (.inr false)))
      ((ixS p_s i3).bind fun c22 =>
      cond (decide (((122 : UInt8).toNat : Int) < (c22.toNat : Int)))
        (some (.inr (.inr false)))
        ((chk (i3 + (1 : Int))).bind fun n25 =>
        some (.inl n25))))
    (some (.inr (.inl ())))
def m_I_validName (N : Nat) (p_s : ByteArray) : Option (Bool) :=
  cond (decide ((p_s.size : Int) < (1 : Int)))
    (some false)
    (cond (decide ((8 : Int) < (p_s.size : Int)))
      (some false)
      ((loopM (β := Unit ⊕ Bool) (fun s : Int => m_I_validName_b1 N p_s s) N (0 : Int)).bind fun o => match o with
      | .inl e =>
        m_I_validName_k1 N 
      | .inr v =>
        some v))
theorem w_I_validName (N : Nat) (p_s : ByteArray) (r : Bool) (hh0 : m_I_validName N p_s = some r) : FnX Try.prog 53 [] [sA p_s] (RE (bA r) []) := by
  unfold m_I_validName at hh0
  refine FnX.mk Try.func53 rfl rfl ?_
  intro s hs
  refine PC.seq ?_
  refine PC.region ?_
  refine PL.op rfl (Rd.asnT rfl) ?_
  refine PL.nil ?_
  refine thA_n ?_
  refine PC.seq ?_
  refine PC.seq ?_
  rcases cond_some hh0 with ⟨h_1, hh0⟩ | ⟨h_1, hh0⟩
  · refine PC.region ?_
    refine PL.op rfl (Rd.moveT rfl) ?_
    refine PL.op rfl (Rd.lenSt rfl) ?_
    refine PL.op rfl (Rd.lss rfl rfl) ?_
    refine PL.op rfl (Rd.moveT rfl) ?_
    refine PL.guard_off rfl rfl h_1 ?_
    refine PL.guard_off rfl rfl h_1 ?_
    refine PL.guard_off rfl rfl h_1 ?_
    refine PL.op rfl (Rd.pick_t rfl h_1) ?_
    refine PL.nil ?_
    refine thA_n ?_
    refine PC.cond_true rfl rfl ?_
    refine PC.seq ?_
    refine PC.region ?_
    refine PL.op rfl (Rd.asnT rfl) ?_
    refine PL.nil ?_
    refine thA_n ?_
    refine PC.ret ?_
    refine thA_r ?_
    obtain rfl := some_in hh0
    exact FinA.mk (r := bA false) (bl := []) [] (.inl rfl) rfl (rl := [.tmp 2]) (.tmp .nil) rfl rfl rfl (.t _) trivial ⟨rfl, rfl⟩
  refine PC.region ?_
  refine PL.op rfl (Rd.moveT rfl) ?_
  refine PL.op rfl (Rd.lenSt rfl) ?_
  refine PL.op rfl (Rd.lss rfl rfl) ?_
  refine PL.op rfl (Rd.moveT rfl) ?_
  refine PL.guard_on rfl h_1 ?_
  refine PL.op rfl (Rd.moveT rfl) ?_
  refine PL.guard_on rfl h_1 ?_
  refine PL.op rfl (Rd.lenSt rfl) ?_
  refine PL.guard_on rfl h_1 ?_
  refine PL.op rfl (Rd.gtr rfl rfl) ?_
  refine PL.op rfl (Rd.pick_f rfl h_1) ?_
  refine PL.nil ?_
  refine thA_n ?_
  rcases cond_some hh0 with ⟨h_2, hh0⟩ | ⟨h_2, hh0⟩
  · refine PC.cond_true rfl h_2 ?_
    refine PC.seq ?_
    refine PC.region ?_
    refine PL.op rfl (Rd.asnT rfl) ?_
    refine PL.nil ?_
    refine thA_n ?_
    refine PC.ret ?_
    refine thA_r ?_
    obtain rfl := some_in hh0
    exact FinA.mk (r := bA false) (bl := []) [] (.inl rfl) rfl (rl := [.tmp 2]) (.tmp .nil) rfl rfl rfl (.t _) trivial ⟨rfl, rfl⟩
  refine PC.cond_false rfl h_2 ?_
  refine PC.skip ?_
  refine thA_n ?_
  refine PC.seq ?_
  refine PC.seq ?_
  refine PC.region ?_
  refine PL.op rfl (Rd.asnT rfl) ?_
  refine PL.nil ?_
  refine thA_n ?_
  obtain ⟨o13, h_14, hh0⟩ := bind_some hh0
  refine PC.cutE hs (fun x : Unit => []) (fun x => []) (fun x => m_I_validName_k1 N  = some r) ?_ ?_
  · refine PC.block ?_
    refine PC.loop hs (fun x : Nat × (Int) => [(0, sA p_s), (3, iA x.2)]) (fun x => []) (fun x => loopM (β := Unit ⊕ Bool) (fun s : Int => m_I_validName_b1 N p_s s) x.1 x.2 = some o13) (fun x => x.1) (N, (0 : Int)) [] ⟨rfl, rfl, trivial, ⟨.t _, .t _, trivial⟩⟩ h_14 ?_
    rintro ⟨f15_, i3⟩ h_17
    obtain ⟨f15, y16, rfl, hh1, kk1⟩ := loopM_some h_17
    replace hh1 : m_I_validName_b1 N p_s i3 = some y16 := hh1
    unfold m_I_validName_b1 at hh1
    refine PC.seq ?_
    refine PC.seq ?_
    refine PC.region ?_
    refine PL.op rfl (Rd.moveT rfl) ?_
    refine PL.op rfl (Rd.moveT rfl) ?_
    refine PL.op rfl (Rd.lenSt rfl) ?_
    refine PL.op rfl (Rd.lss rfl rfl) ?_
    refine PL.nil ?_
    refine thA_n ?_
    rcases cond_some hh1 with ⟨h_18, hh1⟩ | ⟨h_18, hh1⟩
    rotate_left
    · refine PC.cond_false rfl h_18 ?_
      refine PC.exit ?_
      refine thA_e ?_
      refine thA_e ?_
      refine inA_eq rfl ?_
      refine thA_n ?_
      obtain rfl := some_in hh1
      obtain rfl : (.inl () : Unit ⊕ Bool) = o13 := kk1
      exact ⟨(), hh0, [], ⟨rfl, rfl, trivial, trivial⟩⟩
    refine PC.cond_true rfl h_18 ?_
    refine PC.skip ?_
    refine thA_n ?_
    refine PC.seq ?_
    refine PC.block ?_
    refine PC.seq ?_
    obtain ⟨c19, h_20, hh1⟩ := bind_some hh1
    rcases cond_some hh1 with ⟨h_21, hh1⟩ | ⟨h_21, hh1⟩
    · refine PC.region ?_
      refine PL.op rfl (Rd.moveT rfl) ?_
      refine PL.op rfl (Rd.moveT rfl) ?_
      refine PL.op rfl (Rd.ixSM rfl rfl h_20) ?_
      refine PL.op rfl (Rd.lssU rfl rfl) ?_
      refine PL.op rfl (Rd.moveT rfl) ?_
      refine PL.guard_off rfl rfl h_21 ?_
      refine PL.guard_off rfl rfl h_21 ?_
      refine PL.guard_off rfl rfl h_21 ?_
      refine PL.guard_off rfl rfl h_21 ?_
      refine PL.op rfl (Rd.pick_t rfl h_21) ?_
      refine PL.nil ?_
      refine thA_n ?_
      refine PC.cond_true rfl rfl ?_
      refine PC.seq ?_
      refine PC.region ?_
      refine PL.op rfl (Rd.asnT rfl) ?_
      refine PL.nil ?_
      refine thA_n ?_
      refine PC.ret ?_
      refine inA_r ?_
      refine thA_r ?_
      refine thA_r ?_
      refine inA_r ?_
      refine thA_r ?_
      obtain rfl := some_in hh1
      obtain rfl : (.inr false : Unit ⊕ Bool) = o13 := kk1
      refine thA_r ?_
      obtain rfl := some_in hh0
      exact FinA.mk (r := bA false) (bl := []) [] (.inl rfl) rfl (rl := [.tmp 2]) (.tmp .nil) rfl rfl rfl (.t _) trivial ⟨rfl, rfl⟩
    obtain ⟨c22, h_23, hh1⟩ := bind_some hh1
    refine PC.region ?_
    refine PL.op rfl (Rd.moveT rfl) ?_
    refine PL.op rfl (Rd.moveT rfl) ?_
    refine PL.op rfl (Rd.ixSM rfl rfl h_20) ?_
    refine PL.op rfl (Rd.lssU rfl rfl) ?_
    refine PL.op rfl (Rd.moveT rfl) ?_
    refine PL.guard_on rfl h_21 ?_
    refine PL.op rfl (Rd.moveT rfl) ?_
    refine PL.guard_on rfl h_21 ?_
    refine PL.op rfl (Rd.moveT rfl) ?_
    refine PL.guard_on rfl h_21 ?_
    refine PL.op rfl (Rd.ixSM rfl rfl h_23) ?_
    refine PL.guard_on rfl h_21 ?_
    refine PL.op rfl (Rd.gtrU rfl rfl) ?_
    refine PL.op rfl (Rd.pick_f rfl h_21) ?_
    refine PL.nil ?_
    refine thA_n ?_
    rcases cond_some hh1 with ⟨h_24, hh1⟩ | ⟨h_24, hh1⟩
    rotate_left
    · refine PC.cond_false rfl h_24 ?_
      refine PC.skip ?_
      refine inA_n ?_
      refine thA_n ?_
      obtain ⟨n25, h_26, hh1⟩ := bind_some hh1
      refine PC.region ?_
      refine PL.op rfl (Rd.moveT rfl) ?_
      refine PL.op rfl (Rd.addM rfl rfl h_26) ?_
      refine PL.op rfl (Rd.asnT rfl) ?_
      refine PL.nil ?_
      obtain rfl := some_in hh1
      refine thA_n ?_
      exact ⟨(f15, n25), Nat.lt_succ_self _, kk1, [], ⟨rfl, rfl, trivial, ⟨.t _, .t _, trivial⟩⟩⟩
    refine PC.cond_true rfl h_24 ?_
    refine PC.seq ?_
    refine PC.region ?_
    refine PL.op rfl (Rd.asnT rfl) ?_
    refine PL.nil ?_
    refine thA_n ?_
    refine PC.ret ?_
    refine inA_r ?_
    refine thA_r ?_
    refine thA_r ?_
    refine inA_r ?_
    refine thA_r ?_
    obtain rfl := some_in hh1
    obtain rfl : (.inr false : Unit ⊕ Bool) = o13 := kk1
    refine thA_r ?_
    obtain rfl := some_in hh0
    exact FinA.mk (r := bA false) (bl := []) [] (.inl rfl) rfl (rl := [.tmp 2]) (.tmp .nil) rfl rfl rfl (.t _) trivial ⟨rfl, rfl⟩
  clear hh0
  rintro ⟨⟩ hh0
  replace hh0 : m_I_validName_k1 N  = some r := hh0
  unfold m_I_validName_k1 at hh0
  refine thA_n ?_
  refine PC.seq ?_
  refine PC.region ?_
  refine PL.op rfl (Rd.asnT rfl) ?_
  refine PL.nil ?_
  refine thA_n ?_
  refine PC.ret ?_
  obtain rfl := some_in hh0
  exact FinA.mk (r := bA true) (bl := []) [] (.inl rfl) rfl (rl := [.tmp 2]) (.tmp .nil) rfl rfl rfl (.t _) trivial ⟨rfl, rfl⟩

def m_I_findEntry_1 (N : Nat) (p_e : I_Entry) (p_c0 : ByteArray) : Option (Bool) :=
  some (p_e.name.toList == p_c0.toList)
theorem w_I_findEntry_1 (N : Nat) (p_e : I_Entry) (p_c0 : ByteArray) (r : Bool) (hh0 : m_I_findEntry_1 N p_e p_c0 = some r) : FnX Try.prog 69 [] ((.agg [sA p_e.name, sA p_e.table, iA p_e.state]) :: [Tr.pt [.v (.string p_c0)] 0].map .t) (RE (bA r) []) := by
  unfold m_I_findEntry_1 at hh0
  refine FnX.mk Try.func69 rfl rfl ?_
  intro s hs
  refine PC.seq ?_
  refine PC.region ?_
  refine PL.ef rfl (Ef.box rfl rfl rfl) ?_
  refine PL.nm (.op 0 0) [some ⟨.mx [sA p_e.name, sA p_e.table, iA p_e.state], 62, 0⟩] rfl rfl ?_
  refine PL.op rfl (Rd.asnT rfl) ?_
  refine PL.nil ?_
  refine thA_n ?_
  refine PC.seq ?_
  refine PC.region ?_
  refine PL.op rfl (Rd.fieldO rfl rfl) ?_
  refine PL.op rfl (Rd.loadO rfl rfl rfl) ?_
  refine PL.op rfl (Rd.loadT rfl rfl) ?_
  refine PL.op rfl (Rd.eqlS rfl rfl) ?_
  refine PL.op rfl (Rd.asnT rfl) ?_
  refine PL.nil ?_
  refine thA_n ?_
  refine PC.ret ?_
  obtain rfl := some_in hh0
  exact FinA.mk (r := bA (p_e.name.toList == p_c0.toList)) (bl := []) [] (.inl rfl) rfl (rl := [.tmp 3]) (.tmp .nil) rfl rfl rfl (.t _) trivial ⟨rfl, rfl⟩

def m_slices_IndexFunc_I_Entry_k1 (N : Nat) (p_f : I_Entry → Option Bool) : Option (Int) :=
  some (-1 : Int)
def m_slices_IndexFunc_I_Entry_b1 (N : Nat) (p_f : I_Entry → Option Bool) (p_s : (List I_Entry)) (i1 : Int) : Option (Int ⊕ (Unit ⊕ Int)) :=
  cond (decide (i1 < (p_s.length : Int)))
    ((ixI p_s i1).bind fun x16 =>
    (p_f x16).bind fun r18 =>
    cond r18
      (some (.inr (.inr i1)))
      ((chk (i1 + (1 : Int))).bind fun n21 =>
      some (.inl n21)))
    (some (.inr (.inl ())))
def m_slices_IndexFunc_I_Entry (N : Nat) (p_s : (List I_Entry)) (p_f : I_Entry → Option Bool) : Option (Int) :=
  (loopM (β := Unit ⊕ Int) (fun s : Int => m_slices_IndexFunc_I_Entry_b1 N p_f p_s s) N (0 : Int)).bind fun o => match o with
  | .inl e =>
    m_slices_IndexFunc_I_Entry_k1 N p_f 
  | .inr v =>
    some v
theorem w_slices_IndexFunc_I_Entry (N : Nat) (p_s : (List I_Entry)) (p_f : I_Entry → Option Bool) (g_p_f : FuncId) (c_p_f : List Tr) (hr_p_f : ∀ args w, (callFunc g_p_f args).run Try.prog w = .ok (.enter g_p_f args) w) (hp_p_f : ∀ (a0 : I_Entry) r, p_f a0 = some r → Fn Try.prog g_p_f ((.agg [sA a0.name, sA a0.table, iA a0.state]) :: c_p_f.map .t) (RE (bA r) [])) (r : Int) (hh0 : m_slices_IndexFunc_I_Entry N p_s p_f = some r) : FnX Try.prog 68 [] [sL p_s, .t (.fn (.func g_p_f) c_p_f)] (RE (iA r) []) := by
  unfold m_slices_IndexFunc_I_Entry at hh0
  refine FnX.mk Try.func68 rfl rfl ?_
  intro s hs
  refine PC.seq ?_
  refine PC.region ?_
  refine PL.op rfl (Rd.asnT rfl) ?_
  refine PL.nil ?_
  refine thA_n ?_
  refine PC.seq ?_
  refine PC.seq ?_
  refine PC.region ?_
  refine PL.op rfl (Rd.moveT rfl) ?_
  refine PL.op rfl (Rd.lenT rfl) ?_
  refine PL.op rfl (Rd.moveT rfl) ?_
  refine PL.nil ?_
  refine thA_n ?_
  obtain ⟨o10, h_11, hh0⟩ := bind_some hh0
  refine PC.cutE hs (fun x : Unit => []) (fun x => []) (fun x => m_slices_IndexFunc_I_Entry_k1 N p_f  = some r) ?_ ?_
  · refine PC.block ?_
    refine PC.loop hs (fun x : Nat × (Int) => [(0, sL p_s), (1, .t (.fn (.func g_p_f) c_p_f)), (7, iA (p_s.length : Int)), (8, iA x.2)]) (fun x => []) (fun x => loopM (β := Unit ⊕ Int) (fun s : Int => m_slices_IndexFunc_I_Entry_b1 N p_f p_s s) x.1 x.2 = some o10) (fun x => x.1) (N, (0 : Int)) [] ⟨rfl, rfl, trivial, ⟨.t _, .t _, .t _, .t _, trivial⟩⟩ h_11 ?_
    rintro ⟨f12_, i1⟩ h_14
    obtain ⟨f12, y13, rfl, hh1, kk1⟩ := loopM_some h_14
    replace hh1 : m_slices_IndexFunc_I_Entry_b1 N p_f p_s i1 = some y13 := hh1
    unfold m_slices_IndexFunc_I_Entry_b1 at hh1
    refine PC.seq ?_
    refine PC.region ?_
    refine PL.op rfl (Rd.lss rfl rfl) ?_
    refine PL.nil ?_
    refine thA_n ?_
    refine PC.seq ?_
    rcases cond_some hh1 with ⟨h_15, hh1⟩ | ⟨h_15, hh1⟩
    rotate_left
    · refine PC.cond_false rfl h_15 ?_
      refine PC.exit ?_
      refine thA_e ?_
      refine thA_e ?_
      refine inA_eq rfl ?_
      refine thA_n ?_
      obtain rfl := some_in hh1
      obtain rfl : (.inl () : Unit ⊕ Int) = o10 := kk1
      exact ⟨(), hh0, [], ⟨rfl, rfl, trivial, trivial⟩⟩
    refine PC.cond_true rfl h_15 ?_
    refine PC.skip ?_
    refine thA_n ?_
    refine PC.seq ?_
    refine PC.block ?_
    refine PC.seq ?_
    refine PC.region ?_
    refine PL.op rfl (Rd.moveT rfl) ?_
    refine PL.op rfl (Rd.asnT rfl) ?_
    refine PL.nil ?_
    refine thA_n ?_
    refine PC.seq ?_
    obtain ⟨x16, h_17, hh1⟩ := bind_some hh1
    obtain ⟨r18, h_19, hh1⟩ := bind_some hh1
    refine PC.region ?_
    refine PL.op rfl (Rd.moveT rfl) ?_
    refine PL.op rfl (Rd.moveT rfl) ?_
    refine PL.op rfl (Rd.moveT rfl) ?_
    refine PL.op rfl (Rd.ixM rfl rfl h_17) ?_
    refine PL.op rfl (Rd.elMR rfl h_17 rfl rfl) ?_
    refine PL.callF1M (hp_p_f x16 _ h_19) rfl rfl rfl hr_p_f (.aggL (by repeat (first | exact trivial | refine ⟨.t _, ?_⟩))) ?_
    refine PL.nil ?_
    refine thA_n ?_
    rcases cond_some hh1 with ⟨h_20, hh1⟩ | ⟨h_20, hh1⟩
    rotate_left
    · refine PC.cond_false rfl h_20 ?_
      refine PC.skip ?_
      refine inA_n ?_
      refine thA_n ?_
      obtain ⟨n21, h_22, hh1⟩ := bind_some hh1
      refine PC.region ?_
      refine PL.op rfl (Rd.addM rfl rfl h_22) ?_
      refine PL.op rfl (Rd.moveT rfl) ?_
      refine PL.nil ?_
      obtain rfl := some_in hh1
      refine thA_n ?_
      exact ⟨(f12, n21), Nat.lt_succ_self _, kk1, [], ⟨rfl, rfl, trivial, ⟨.t _, .t _, .t _, .t _, trivial⟩⟩⟩
    refine PC.cond_true rfl h_20 ?_
    refine PC.seq ?_
    refine PC.region ?_
    refine PL.op rfl (Rd.moveT rfl) ?_
    refine PL.op rfl (Rd.asnT rfl) ?_
    refine PL.nil ?_
    refine thA_n ?_
    refine PC.ret ?_
    refine inA_r ?_
    refine thA_r ?_
    refine thA_r ?_
    refine inA_r ?_
    refine thA_r ?_
    obtain rfl := some_in hh1
    obtain rfl : (.inr i1 : Unit ⊕ Int) = o10 := kk1
    refine thA_r ?_
    obtain rfl := some_in hh0
    exact FinA.mk (r := iA i1) (bl := []) [] (.inl rfl) rfl (rl := [.tmp 4]) (.tmp .nil) rfl rfl rfl (.t _) trivial ⟨rfl, rfl⟩
  clear hh0
  rintro ⟨⟩ hh0
  replace hh0 : m_slices_IndexFunc_I_Entry_k1 N p_f  = some r := hh0
  unfold m_slices_IndexFunc_I_Entry_k1 at hh0
  refine thA_n ?_
  refine PC.seq ?_
  refine PC.region ?_
  refine PL.op rfl (Rd.asnT rfl) ?_
  refine PL.nil ?_
  refine thA_n ?_
  refine PC.ret ?_
  obtain rfl := some_in hh0
  exact FinA.mk (r := iA (-1 : Int)) (bl := []) [] (.inl rfl) rfl (rl := [.tmp 4]) (.tmp .nil) rfl rfl rfl (.t _) trivial ⟨rfl, rfl⟩

def m_I_findEntry (N : Nat) (p_list : (List I_Entry)) (p_name : ByteArray) : Option (Int) :=
  (m_slices_IndexFunc_I_Entry N p_list (fun a0 => m_I_findEntry_1 N a0 p_name)).bind fun r1 =>
  some r1
theorem w_I_findEntry (N : Nat) (p_list : (List I_Entry)) (p_name : ByteArray) (r : Int) (hh0 : m_I_findEntry N p_list p_name = some r) : FnX Try.prog 54 [] [sL p_list, sA p_name] (RE (iA r) []) := by
  unfold m_I_findEntry at hh0
  refine FnX.mk Try.func54 rfl rfl ?_
  intro s hs
  refine PC.seq ?_
  refine PC.region ?_
  refine PL.ef rfl (Ef.box rfl rfl rfl) ?_
  refine PL.nm (.op 0 0) [some ⟨.mx [sA p_name], 9, 0⟩] rfl rfl ?_
  refine PL.op rfl (Rd.asnT rfl) ?_
  refine PL.nil ?_
  refine thA_n ?_
  refine PC.seq ?_
  obtain ⟨r1, h_2, hh0⟩ := bind_some hh0
  refine PC.region ?_
  refine PL.op rfl (Rd.moveT rfl) ?_
  refine PL.op rfl (Rd.makeFunc rfl) ?_
  refine PL.callM true [] (w_slices_IndexFunc_I_Entry N p_list (fun a0 => m_I_findEntry_1 N a0 p_name) 69 [Tr.pt [.v (.string p_name)] 0] Try.call69 (fun a0 r h => w_I_findEntry_1 N a0 p_name r h) r1 h_2) rfl Try.call68 rfl ⟨.t _, Sb.fntL ⟨Sb.fzp rfl rfl (by first | decide | exact List.not_mem_nil) rfl, trivial⟩, trivial⟩ rfl trivial (fun _ => ⟨trivial, flat_nil⟩) ?_
  refine PL.op rfl (Rd.asnT rfl) ?_
  refine PL.nil ?_
  refine thA_n ?_
  refine PC.ret ?_
  obtain rfl := some_in hh0
  exact FinA.mk (r := iA r1) (bl := []) [] (.inl rfl) rfl (rl := [.tmp 4]) (.tmp .nil) rfl rfl rfl (.t _) trivial ⟨rfl, rfl⟩

def m_I_Entry_isTable (N : Nat) (p_e : I_Entry) : Option (Bool) :=
  some (p_e.table.toList == ByteArray.empty.toList)
theorem w_I_Entry_isTable (N : Nat) (p_e : I_Entry) (r : Bool) (hh0 : m_I_Entry_isTable N p_e = some r) : FnX Try.prog 55 [] [.agg [sA p_e.name, sA p_e.table, iA p_e.state]] (RE (bA r) []) := by
  unfold m_I_Entry_isTable at hh0
  refine FnX.mk Try.func55 rfl rfl ?_
  intro s hs
  refine PC.seq ?_
  refine PC.region ?_
  refine PL.ef rfl (Ef.box rfl rfl rfl) ?_
  refine PL.nm (.op 0 0) [some ⟨.mx [sA p_e.name, sA p_e.table, iA p_e.state], 62, 0⟩] rfl rfl ?_
  refine PL.op rfl (Rd.asnT rfl) ?_
  refine PL.nil ?_
  refine thA_n ?_
  refine PC.seq ?_
  refine PC.region ?_
  refine PL.op rfl (Rd.fieldO rfl rfl) ?_
  refine PL.op rfl (Rd.loadO rfl rfl rfl) ?_
  refine PL.op rfl (Rd.eqlS rfl rfl) ?_
  refine PL.op rfl (Rd.asnT rfl) ?_
  refine PL.nil ?_
  refine thA_n ?_
  refine PC.ret ?_
  obtain rfl := some_in hh0
  exact FinA.mk (r := bA (p_e.table.toList == ByteArray.empty.toList)) (bl := []) [] (.inl rfl) rfl (rl := [.tmp 2]) (.tmp .nil) rfl rfl rfl (.t _) trivial ⟨rfl, rfl⟩

def m_I_hasTable (N : Nat) (p_list : (List I_Entry)) (p_name : ByteArray) : Option (Bool) :=
  (m_I_findEntry N p_list p_name).bind fun r1 =>
  cond (decide ((0 : Int) ≤ r1))
    ((ixI p_list r1).bind fun x4 =>
    (m_I_Entry_isTable N x4).bind fun r6 =>
    some r6)
    (some false)
theorem w_I_hasTable (N : Nat) (p_list : (List I_Entry)) (p_name : ByteArray) (r : Bool) (hh0 : m_I_hasTable N p_list p_name = some r) : FnX Try.prog 34 [] [sL p_list, sA p_name] (RE (bA r) []) := by
  unfold m_I_hasTable at hh0
  refine FnX.mk Try.func34 rfl rfl ?_
  intro s hs
  refine PC.seq ?_
  refine PC.region ?_
  refine PL.op rfl (Rd.asnT rfl) ?_
  refine PL.nil ?_
  refine thA_n ?_
  refine PC.seq ?_
  obtain ⟨r1, h_2, hh0⟩ := bind_some hh0
  refine PC.region ?_
  refine PL.op rfl (Rd.moveT rfl) ?_
  refine PL.op rfl (Rd.moveT rfl) ?_
  refine PL.callM false [] (w_I_findEntry N p_list p_name r1 h_2) rfl Try.call54 rfl ⟨.t _, .t _, trivial⟩ rfl trivial (fun h => by cases h) ?_
  refine PL.op rfl (Rd.asnT rfl) ?_
  refine PL.nil ?_
  refine thA_n ?_
  refine PC.seq ?_
  rcases cond_some hh0 with ⟨h_3, hh0⟩ | ⟨h_3, hh0⟩
  rotate_left
  · refine PC.region ?_
    refine PL.op rfl (Rd.moveT rfl) ?_
    refine PL.op rfl (Rd.geq rfl rfl) ?_
    refine PL.op rfl (Rd.moveT rfl) ?_
    refine PL.guard_off rfl rfl h_3 ?_
    refine PL.guard_off rfl rfl h_3 ?_
    refine PL.guard_off rfl rfl h_3 ?_
    refine PL.guard_off rfl rfl h_3 ?_
    refine PL.guard_off rfl rfl h_3 ?_
    refine PL.op rfl (Rd.pick_f rfl h_3) ?_
    refine PL.op rfl (Rd.asnT rfl) ?_
    refine PL.nil ?_
    refine thA_n ?_
    refine PC.ret ?_
    obtain rfl := some_in hh0
    exact FinA.mk (r := bA false) (bl := []) [] (.inl rfl) rfl (rl := [.tmp 4]) (.tmp .nil) rfl rfl rfl (.t _) trivial ⟨rfl, rfl⟩
  obtain ⟨x4, h_5, hh0⟩ := bind_some hh0
  obtain ⟨r6, h_7, hh0⟩ := bind_some hh0
  refine PC.region ?_
  refine PL.op rfl (Rd.moveT rfl) ?_
  refine PL.op rfl (Rd.geq rfl rfl) ?_
  refine PL.op rfl (Rd.moveT rfl) ?_
  refine PL.guard_on rfl h_3 ?_
  refine PL.op rfl (Rd.moveT rfl) ?_
  refine PL.guard_on rfl h_3 ?_
  refine PL.op rfl (Rd.moveT rfl) ?_
  refine PL.guard_on rfl h_3 ?_
  refine PL.op rfl (Rd.ixM rfl rfl h_5) ?_
  refine PL.guard_on rfl h_3 ?_
  refine PL.op rfl (Rd.elMR rfl h_5 rfl rfl) ?_
  refine PL.guard_on rfl h_3 ?_
  refine PL.callM false [] (w_I_Entry_isTable N x4 r6 h_7) rfl Try.call55 rfl ⟨.aggL ⟨.t _, .t _, .t _, trivial⟩, trivial⟩ rfl trivial (fun h => by cases h) ?_
  refine PL.op rfl (Rd.pick_t rfl h_3) ?_
  refine PL.op rfl (Rd.asnT rfl) ?_
  refine PL.nil ?_
  refine thA_n ?_
  refine PC.ret ?_
  obtain rfl := some_in hh0
  exact FinA.mk (r := bA r6) (bl := []) [] (.inl rfl) rfl (rl := [.tmp 4]) (.tmp .nil) rfl rfl rfl (.t _) trivial ⟨rfl, rfl⟩

def m_I_ValidCatalog_k1 (N : Nat) : Option (Bool) :=
  some true
def m_I_ValidCatalog_b1 (N : Nat) (p_list : (List I_Entry)) (i2 : Int) : Option (Int ⊕ (Unit ⊕ Bool)) :=
  cond (decide (i2 < (p_list.length : Int)))
    ((ixI p_list i2).bind fun x31 =>
    (m_I_validName N x31.name).bind fun r33 =>
    cond r33
      ((m_I_findEntry N p_list x31.name).bind fun r36 =>
      cond (decide (r36 = i2))
        ((m_I_Entry_isTable N x31).bind fun r39 =>
        cond r39
          (cond (decide (x31.state = (1 : Int)))
            ((chk (i2 + (1 : Int))).bind fun n43 =>
            some (.inl n43))
            (some (.inr (.inr false))))
          ((m_I_hasTable N p_list x31.table).bind fun r45 =>
          cond r45
            (cond (decide (x31.state < (0 : Int)))
              (some (.inr (.inr false)))
              (cond (decide ((2 : Int) < x31.state))
                (some (.inr (.inr false)))
                ((chk (i2 + (1 : Int))).bind fun n50 =>
                some (.inl n50))))
            (some (.inr (.inr false)))))
        (some (.inr (.inr false))))
      (some (.inr (.inr false))))
    (some (.inr (.inl ())))
def m_I_ValidCatalog (N : Nat) (p_list : (List I_Entry)) : Option (Bool) :=
  cond (decide ((12 : Int) < (p_list.length : Int)))
    (some false)
    ((loopM (β := Unit ⊕ Bool) (fun s : Int => m_I_ValidCatalog_b1 N p_list s) N (0 : Int)).bind fun o => match o with
    | .inl e =>
      m_I_ValidCatalog_k1 N 
    | .inr v =>
      some v)
theorem w_I_ValidCatalog (N : Nat) (p_list : (List I_Entry)) (r : Bool) (hh0 : m_I_ValidCatalog N p_list = some r) : FnX Try.prog 33 [] [sL p_list] (RE (bA r) []) := by
  unfold m_I_ValidCatalog at hh0
  refine FnX.mk Try.func33 rfl rfl ?_
  intro s hs
  refine PC.seq ?_
  refine PC.region ?_
  refine PL.op rfl (Rd.asnT rfl) ?_
  refine PL.nil ?_
  refine thA_n ?_
  refine PC.seq ?_
  refine PC.seq ?_
  refine PC.region ?_
  refine PL.op rfl (Rd.moveT rfl) ?_
  refine PL.op rfl (Rd.lenT rfl) ?_
  refine PL.op rfl (Rd.gtr rfl rfl) ?_
  refine PL.nil ?_
  refine thA_n ?_
  rcases cond_some hh0 with ⟨h_1, hh0⟩ | ⟨h_1, hh0⟩
  · refine PC.cond_true rfl h_1 ?_
    refine PC.seq ?_
    refine PC.region ?_
    refine PL.op rfl (Rd.asnT rfl) ?_
    refine PL.nil ?_
    refine thA_n ?_
    refine PC.ret ?_
    refine thA_r ?_
    obtain rfl := some_in hh0
    exact FinA.mk (r := bA false) (bl := []) [] (.inl rfl) rfl (rl := [.tmp 2]) (.tmp .nil) rfl rfl rfl (.t _) trivial ⟨rfl, rfl⟩
  refine PC.cond_false rfl h_1 ?_
  refine PC.skip ?_
  refine thA_n ?_
  refine PC.seq ?_
  refine PC.seq ?_
  refine PC.region ?_
  refine PL.op rfl (Rd.moveT rfl) ?_
  refine PL.op rfl (Rd.lenT rfl) ?_
  refine PL.op rfl (Rd.moveT rfl) ?_
  refine PL.nil ?_
  refine thA_n ?_
  obtain ⟨o25, h_26, hh0⟩ := bind_some hh0
  refine PC.cutE hs (fun x : Unit => []) (fun x => []) (fun x => m_I_ValidCatalog_k1 N  = some r) ?_ ?_
  · refine PC.block ?_
    refine PC.loop hs (fun x : Nat × (Int) => [(0, sL p_list), (8, sL p_list), (9, iA (p_list.length : Int)), (10, iA x.2)]) (fun x => []) (fun x => loopM (β := Unit ⊕ Bool) (fun s : Int => m_I_ValidCatalog_b1 N p_list s) x.1 x.2 = some o25) (fun x => x.1) (N, (0 : Int)) [] ⟨rfl, rfl, trivial, ⟨.t _, .t _, .t _, .t _, trivial⟩⟩ h_26 ?_
    rintro ⟨f27_, i2⟩ h_29
    obtain ⟨f27, y28, rfl, hh1, kk1⟩ := loopM_some h_29
    replace hh1 : m_I_ValidCatalog_b1 N p_list i2 = some y28 := hh1
    unfold m_I_ValidCatalog_b1 at hh1
    refine PC.seq ?_
    refine PC.region ?_
    refine PL.op rfl (Rd.lss rfl rfl) ?_
    refine PL.nil ?_
    refine thA_n ?_
    refine PC.seq ?_
    rcases cond_some hh1 with ⟨h_30, hh1⟩ | ⟨h_30, hh1⟩
    rotate_left
    · refine PC.cond_false rfl h_30 ?_
      refine PC.exit ?_
      refine thA_e ?_
      refine thA_e ?_
      refine inA_eq rfl ?_
      refine thA_n ?_
      obtain rfl := some_in hh1
      obtain rfl : (.inl () : Unit ⊕ Bool) = o25 := kk1
      exact ⟨(), hh0, [], ⟨rfl, rfl, trivial, trivial⟩⟩
    refine PC.cond_true rfl h_30 ?_
    refine PC.skip ?_
    refine thA_n ?_
    refine PC.seq ?_
    refine PC.block ?_
    refine PC.seq ?_
    obtain ⟨x31, h_32, hh1⟩ := bind_some hh1
    refine PC.region ?_
    refine PL.op rfl (Rd.moveT rfl) ?_
    refine PL.op rfl (Rd.ixM rfl rfl h_32) ?_
    refine PL.op rfl (Rd.elMR rfl h_32 rfl rfl) ?_
    refine PL.ef rfl (Ef.alloc rfl rfl) ?_
    refine PL.nm (.op 0 0) [some ⟨.mx [sA ByteArray.empty, sA ByteArray.empty, iA (0 : Int)], 62, 0⟩] rfl rfl ?_
    refine PL.op rfl (Rd.asnT rfl) ?_
    refine PL.store rfl rfl rfl rfl rfl rfl rfl ?_
    refine PL.nO [some ⟨.mx [sA x31.name, sA x31.table, iA x31.state], 62, 0⟩] rfl ?_
    refine PL.nil ?_
    refine thA_n ?_
    refine PC.seq ?_
    refine PC.seq ?_
    obtain ⟨r33, h_34, hh1⟩ := bind_some hh1
    rcases cond_some hh1 with ⟨h_35, hh1⟩ | ⟨h_35, hh1⟩
    rotate_left
    · refine PC.region ?_
      refine PL.op rfl (Rd.fieldO rfl rfl) ?_
      refine PL.op rfl (Rd.loadO rfl rfl rfl) ?_
      refine PL.callM false [] (w_I_validName N x31.name r33 h_34) rfl Try.call53 rfl ⟨.t _, trivial⟩ rfl trivial (fun h => by cases h) ?_
      refine PL.op rfl (Rd.unnot rfl) ?_
      refine PL.op rfl (Rd.moveT rfl) ?_
      refine PL.guard_off rfl rfl (not_f h_35) ?_
      refine PL.guard_off rfl rfl (not_f h_35) ?_
      refine PL.guard_off rfl rfl (not_f h_35) ?_
      refine PL.guard_off rfl rfl (not_f h_35) ?_
      refine PL.guard_off rfl rfl (not_f h_35) ?_
      refine PL.guard_off rfl rfl (not_f h_35) ?_
      refine PL.op rfl (Rd.pick_t rfl (not_f h_35)) ?_
      refine PL.nil ?_
      refine thA_n ?_
      refine PC.cond_true rfl rfl ?_
      refine PC.seq ?_
      refine PC.region ?_
      refine PL.op rfl (Rd.asnT rfl) ?_
      refine PL.nil ?_
      refine thA_n ?_
      refine PC.ret ?_
      refine thA_r ?_
      refine inA_r ?_
      refine thA_r ?_
      refine thA_r ?_
      refine inA_r ?_
      refine thA_r ?_
      obtain rfl := some_in hh1
      obtain rfl : (.inr false : Unit ⊕ Bool) = o25 := kk1
      refine thA_r ?_
      obtain rfl := some_in hh0
      exact FinA.mk (r := bA false) (bl := []) [] (.inl rfl) rfl (rl := [.tmp 2]) (.tmp .nil) rfl rfl rfl (.t _) trivial ⟨rfl, rfl⟩
    obtain ⟨r36, h_37, hh1⟩ := bind_some hh1
    refine PC.region ?_
    refine PL.op rfl (Rd.fieldO rfl rfl) ?_
    refine PL.op rfl (Rd.loadO rfl rfl rfl) ?_
    refine PL.callM false [] (w_I_validName N x31.name r33 h_34) rfl Try.call53 rfl ⟨.t _, trivial⟩ rfl trivial (fun h => by cases h) ?_
    refine PL.op rfl (Rd.unnot rfl) ?_
    refine PL.op rfl (Rd.moveT rfl) ?_
    refine PL.guard_on rfl (not_t h_35) ?_
    refine PL.op rfl (Rd.moveT rfl) ?_
    refine PL.guard_on rfl (not_t h_35) ?_
    refine PL.op rfl (Rd.fieldO rfl rfl) ?_
    refine PL.guard_on rfl (not_t h_35) ?_
    refine PL.op rfl (Rd.loadO rfl rfl rfl) ?_
    refine PL.guard_on rfl (not_t h_35) ?_
    refine PL.callM false [] (w_I_findEntry N p_list x31.name r36 h_37) rfl Try.call54 rfl ⟨.t _, .t _, trivial⟩ rfl trivial (fun h => by cases h) ?_
    refine PL.guard_on rfl (not_t h_35) ?_
    refine PL.op rfl (Rd.moveT rfl) ?_
    refine PL.guard_on rfl (not_t h_35) ?_
    refine PL.op rfl (Rd.neq rfl rfl) ?_
    refine PL.op rfl (Rd.pick_f rfl (not_t h_35)) ?_
    refine PL.nil ?_
    refine thA_n ?_
    rcases cond_some hh1 with ⟨h_38, hh1⟩ | ⟨h_38, hh1⟩
    rotate_left
    · refine PC.cond_true rfl (not_f h_38) ?_
      refine PC.seq ?_
      refine PC.region ?_
      refine PL.op rfl (Rd.asnT rfl) ?_
      refine PL.nil ?_
      refine thA_n ?_
      refine PC.ret ?_
      refine thA_r ?_
      refine inA_r ?_
      refine thA_r ?_
      refine thA_r ?_
      refine inA_r ?_
      refine thA_r ?_
      obtain rfl := some_in hh1
      obtain rfl : (.inr false : Unit ⊕ Bool) = o25 := kk1
      refine thA_r ?_
      obtain rfl := some_in hh0
      exact FinA.mk (r := bA false) (bl := []) [] (.inl rfl) rfl (rl := [.tmp 2]) (.tmp .nil) rfl rfl rfl (.t _) trivial ⟨rfl, rfl⟩
    refine PC.cond_false rfl (not_t h_38) ?_
    refine PC.skip ?_
    refine thA_n ?_
    refine PC.seq ?_
    refine PC.seq ?_
    obtain ⟨r39, h_40, hh1⟩ := bind_some hh1
    refine PC.region ?_
    refine PL.op rfl (Rd.loadBox rfl rfl rfl) ?_
    refine PL.callM false [] (w_I_Entry_isTable N x31 r39 h_40) rfl Try.call55 rfl ⟨.aggL ⟨.t _, .t _, .t _, trivial⟩, trivial⟩ rfl trivial (fun h => by cases h) ?_
    refine PL.nil ?_
    refine thA_n ?_
    rcases cond_some hh1 with ⟨h_41, hh1⟩ | ⟨h_41, hh1⟩
    · refine PC.cond_true rfl h_41 ?_
      refine PC.seq ?_
      refine PC.seq ?_
      refine PC.region ?_
      refine PL.op rfl (Rd.fieldO rfl rfl) ?_
      refine PL.op rfl (Rd.loadO rfl rfl rfl) ?_
      refine PL.op rfl (Rd.neq rfl rfl) ?_
      refine PL.nil ?_
      refine thA_n ?_
      rcases cond_some hh1 with ⟨h_42, hh1⟩ | ⟨h_42, hh1⟩
      · refine PC.cond_false rfl (not_t h_42) ?_
        refine PC.skip ?_
        refine thA_n ?_
        refine PC.exit ?_
        refine thA_e ?_
        refine inA_eq rfl ?_
        refine thA_n ?_
        obtain ⟨n43, h_44, hh1⟩ := bind_some hh1
        refine PC.region ?_
        refine PL.op rfl (Rd.addM rfl rfl h_44) ?_
        refine PL.op rfl (Rd.moveT rfl) ?_
        refine PL.nil ?_
        obtain rfl := some_in hh1
        refine thA_n ?_
        exact ⟨(f27, n43), Nat.lt_succ_self _, kk1, [], ⟨rfl, rfl, trivial, ⟨.t _, .t _, .t _, .t _, trivial⟩⟩⟩
      refine PC.cond_true rfl (not_f h_42) ?_
      refine PC.seq ?_
      refine PC.region ?_
      refine PL.op rfl (Rd.asnT rfl) ?_
      refine PL.nil ?_
      refine thA_n ?_
      refine PC.ret ?_
      refine thA_r ?_
      refine thA_r ?_
      refine inA_r ?_
      refine thA_r ?_
      refine thA_r ?_
      refine inA_r ?_
      refine thA_r ?_
      obtain rfl := some_in hh1
      obtain rfl : (.inr false : Unit ⊕ Bool) = o25 := kk1
      refine thA_r ?_
      obtain rfl := some_in hh0
      exact FinA.mk (r := bA false) (bl := []) [] (.inl rfl) rfl (rl := [.tmp 2]) (.tmp .nil) rfl rfl rfl (.t _) trivial ⟨rfl, rfl⟩
    refine PC.cond_false rfl h_41 ?_
    refine PC.skip ?_
    refine thA_n ?_
    refine PC.seq ?_
    obtain ⟨r45, h_46, hh1⟩ := bind_some hh1
    rcases cond_some hh1 with ⟨h_47, hh1⟩ | ⟨h_47, hh1⟩
    rotate_left
    · refine PC.region ?_
      refine PL.op rfl (Rd.moveT rfl) ?_
      refine PL.op rfl (Rd.fieldO rfl rfl) ?_
      refine PL.op rfl (Rd.loadO rfl rfl rfl) ?_
      refine PL.callM false [] (w_I_hasTable N p_list x31.table r45 h_46) rfl Try.call34 rfl ⟨.t _, .t _, trivial⟩ rfl trivial (fun h => by cases h) ?_
      refine PL.op rfl (Rd.unnot rfl) ?_
      refine PL.op rfl (Rd.moveT rfl) ?_
      refine PL.guard_off rfl rfl (not_f h_47) ?_
      refine PL.guard_off rfl rfl (not_f h_47) ?_
      refine PL.guard_off rfl rfl (not_f h_47) ?_
      refine PL.op rfl (Rd.pick_t rfl (not_f h_47)) ?_
      refine PL.op rfl (Rd.moveT rfl) ?_
      refine PL.guard_off rfl rfl rfl ?_
      refine PL.guard_off rfl rfl rfl ?_
      refine PL.guard_off rfl rfl rfl ?_
      refine PL.op rfl (Rd.pick_t rfl rfl) ?_
      refine PL.nil ?_
      refine thA_n ?_
      refine PC.cond_true rfl rfl ?_
      refine PC.seq ?_
      refine PC.region ?_
      refine PL.op rfl (Rd.asnT rfl) ?_
      refine PL.nil ?_
      refine thA_n ?_
      refine PC.ret ?_
      refine inA_r ?_
      refine thA_r ?_
      refine thA_r ?_
      refine inA_r ?_
      refine thA_r ?_
      obtain rfl := some_in hh1
      obtain rfl : (.inr false : Unit ⊕ Bool) = o25 := kk1
      refine thA_r ?_
      obtain rfl := some_in hh0
      exact FinA.mk (r := bA false) (bl := []) [] (.inl rfl) rfl (rl := [.tmp 2]) (.tmp .nil) rfl rfl rfl (.t _) trivial ⟨rfl, rfl⟩
    rcases cond_some hh1 with ⟨h_48, hh1⟩ | ⟨h_48, hh1⟩
    · refine PC.region ?_
      refine PL.op rfl (Rd.moveT rfl) ?_
      refine PL.op rfl (Rd.fieldO rfl rfl) ?_
      refine PL.op rfl (Rd.loadO rfl rfl rfl) ?_
      refine PL.callM false [] (w_I_hasTable N p_list x31.table r45 h_46) rfl Try.call34 rfl ⟨.t _, .t _, trivial⟩ rfl trivial (fun h => by cases h) ?_
      refine PL.op rfl (Rd.unnot rfl) ?_
      refine PL.op rfl (Rd.moveT rfl) ?_
      refine PL.guard_on rfl (not_t h_47) ?_
      refine PL.op rfl (Rd.fieldO rfl rfl) ?_
      refine PL.guard_on rfl (not_t h_47) ?_
      refine PL.op rfl (Rd.loadO rfl rfl rfl) ?_
      refine PL.guard_on rfl (not_t h_47) ?_
      refine PL.op rfl (Rd.lss rfl rfl) ?_
      refine PL.op rfl (Rd.pick_f rfl (not_t h_47)) ?_
      refine PL.op rfl (Rd.moveT rfl) ?_
      refine PL.guard_off rfl rfl h_48 ?_
      refine PL.guard_off rfl rfl h_48 ?_
      refine PL.guard_off rfl rfl h_48 ?_
      refine PL.op rfl (Rd.pick_t rfl h_48) ?_
      refine PL.nil ?_
      refine thA_n ?_
      refine PC.cond_true rfl rfl ?_
      refine PC.seq ?_
      refine PC.region ?_
      refine PL.op rfl (Rd.asnT rfl) ?_
      refine PL.nil ?_
      refine thA_n ?_
      refine PC.ret ?_
      refine inA_r ?_
      refine thA_r ?_
      refine thA_r ?_
      refine inA_r ?_
      refine thA_r ?_
      obtain rfl := some_in hh1
      obtain rfl : (.inr false : Unit ⊕ Bool) = o25 := kk1
      refine thA_r ?_
      obtain rfl := some_in hh0
      exact FinA.mk (r := bA false) (bl := []) [] (.inl rfl) rfl (rl := [.tmp 2]) (.tmp .nil) rfl rfl rfl (.t _) trivial ⟨rfl, rfl⟩
    refine PC.region ?_
    refine PL.op rfl (Rd.moveT rfl) ?_
    refine PL.op rfl (Rd.fieldO rfl rfl) ?_
    refine PL.op rfl (Rd.loadO rfl rfl rfl) ?_
    refine PL.callM false [] (w_I_hasTable N p_list x31.table r45 h_46) rfl Try.call34 rfl ⟨.t _, .t _, trivial⟩ rfl trivial (fun h => by cases h) ?_
    refine PL.op rfl (Rd.unnot rfl) ?_
    refine PL.op rfl (Rd.moveT rfl) ?_
    refine PL.guard_on rfl (not_t h_47) ?_
    refine PL.op rfl (Rd.fieldO rfl rfl) ?_
    refine PL.guard_on rfl (not_t h_47) ?_
    refine PL.op rfl (Rd.loadO rfl rfl rfl) ?_
    refine PL.guard_on rfl (not_t h_47) ?_
    refine PL.op rfl (Rd.lss rfl rfl) ?_
    refine PL.op rfl (Rd.pick_f rfl (not_t h_47)) ?_
    refine PL.op rfl (Rd.moveT rfl) ?_
    refine PL.guard_on rfl h_48 ?_
    refine PL.op rfl (Rd.fieldO rfl rfl) ?_
    refine PL.guard_on rfl h_48 ?_
    refine PL.op rfl (Rd.loadO rfl rfl rfl) ?_
    refine PL.guard_on rfl h_48 ?_
    refine PL.op rfl (Rd.gtr rfl rfl) ?_
    refine PL.op rfl (Rd.pick_f rfl h_48) ?_
    refine PL.nil ?_
    refine thA_n ?_
    rcases cond_some hh1 with ⟨h_49, hh1⟩ | ⟨h_49, hh1⟩
    rotate_left
    · refine PC.cond_false rfl h_49 ?_
      refine PC.skip ?_
      refine inA_n ?_
      refine thA_n ?_
      obtain ⟨n50, h_51, hh1⟩ := bind_some hh1
      refine PC.region ?_
      refine PL.op rfl (Rd.addM rfl rfl h_51) ?_
      refine PL.op rfl (Rd.moveT rfl) ?_
      refine PL.nil ?_
      obtain rfl := some_in hh1
      refine thA_n ?_
      exact ⟨(f27, n50), Nat.lt_succ_self _, kk1, [], ⟨rfl, rfl, trivial, ⟨.t _, .t _, .t _, .t _, trivial⟩⟩⟩
    refine PC.cond_true rfl h_49 ?_
    refine PC.seq ?_
    refine PC.region ?_
    refine PL.op rfl (Rd.asnT rfl) ?_
    refine PL.nil ?_
    refine thA_n ?_
    refine PC.ret ?_
    refine inA_r ?_
    refine thA_r ?_
    refine thA_r ?_
    refine inA_r ?_
    refine thA_r ?_
    obtain rfl := some_in hh1
    obtain rfl : (.inr false : Unit ⊕ Bool) = o25 := kk1
    refine thA_r ?_
    obtain rfl := some_in hh0
    exact FinA.mk (r := bA false) (bl := []) [] (.inl rfl) rfl (rl := [.tmp 2]) (.tmp .nil) rfl rfl rfl (.t _) trivial ⟨rfl, rfl⟩
  clear hh0
  rintro ⟨⟩ hh0
  replace hh0 : m_I_ValidCatalog_k1 N  = some r := hh0
  unfold m_I_ValidCatalog_k1 at hh0
  refine thA_n ?_
  refine PC.seq ?_
  refine PC.region ?_
  refine PL.op rfl (Rd.asnT rfl) ?_
  refine PL.nil ?_
  refine thA_n ?_
  refine PC.ret ?_
  obtain rfl := some_in hh0
  exact FinA.mk (r := bA true) (bl := []) [] (.inl rfl) rfl (rl := [.tmp 2]) (.tmp .nil) rfl rfl rfl (.t _) trivial ⟨rfl, rfl⟩

def m_I_UsableIndexes_k1 (N : Nat) (v30 : (List ByteArray)) : Option ((List ByteArray)) :=
  some v30
def m_I_UsableIndexes_b1 (N : Nat) (p_list : (List I_Entry)) (p_table : ByteArray) (p_changes : Bool) (i7 : Int) (v8 : (List ByteArray)) : Option ((Int × (List ByteArray)) ⊕ (List ByteArray)) :=
  cond (decide (i7 < (p_list.length : Int)))
    ((ixI p_list i7).bind fun x37 =>
    cond (x37.table.toList == p_table.toList)
      (cond (decide (x37.state = (1 : Int)))
        ((appM 16 v8 [x37.name]).bind fun xs42 =>
        (chk (i7 + (1 : Int))).bind fun n44 =>
        some (.inl (n44, xs42)))
        (cond p_changes
          (cond (decide (x37.state = (0 : Int)))
            ((appM 16 v8 [x37.name]).bind fun xs47 =>
            (chk (i7 + (1 : Int))).bind fun n49 =>
            some (.inl (n49, xs47)))
            ((chk (i7 + (1 : Int))).bind fun n51 =>
            some (.inl (n51, v8))))
          ((chk (i7 + (1 : Int))).bind fun n53 =>
          some (.inl (n53, v8)))))
      ((chk (i7 + (1 : Int))).bind fun n55 =>
      some (.inl (n55, v8))))
    (some (.inr v8))
def m_I_UsableIndexes (N : Nat) (p_list : (List I_Entry)) (p_table : ByteArray) (p_changes : Bool) : Option ((List ByteArray)) :=
  (m_I_ValidCatalog N p_list).bind fun r1 =>
  cond r1
    ((m_I_hasTable N p_list p_table).bind fun r4 =>
    cond r4
      ((loopM (β := (List ByteArray)) (fun s : Int × (List ByteArray) => m_I_UsableIndexes_b1 N p_list p_table p_changes s.1 s.2) N ((0 : Int), ([] : List ByteArray))).bind fun e =>
      m_I_UsableIndexes_k1 N e)
      (some ([] : List ByteArray)))
    (some ([] : List ByteArray))
theorem w_I_UsableIndexes (N : Nat) (p_list : (List I_Entry)) (p_table : ByteArray) (p_changes : Bool) (r : (List ByteArray)) (hh0 : m_I_UsableIndexes N p_list p_table p_changes = some r) : FnX Try.prog 9 [] [sL p_list, sA p_table, bA p_changes] (RE (.os 0 0 r.length) [⟨.tr (eL r), 9, 1⟩]) := by
  unfold m_I_UsableIndexes at hh0
  refine FnX.mk Try.func9 rfl rfl ?_
  intro s hs
  refine PC.seq ?_
  refine PC.region ?_
  refine PL.op rfl (Rd.asnT rfl) ?_
  refine PL.nil ?_
  refine thA_n ?_
  refine PC.seq ?_
  refine PC.seq ?_
  obtain ⟨r1, h_2, hh0⟩ := bind_some hh0
  rcases cond_some hh0 with ⟨h_3, hh0⟩ | ⟨h_3, hh0⟩
  rotate_left
  · refine PC.region ?_
    refine PL.op rfl (Rd.moveT rfl) ?_
    refine PL.callM false [] (w_I_ValidCatalog N p_list r1 h_2) rfl Try.call33 rfl ⟨.t _, trivial⟩ rfl trivial (fun h => by cases h) ?_
    refine PL.op rfl (Rd.unnot rfl) ?_
    refine PL.op rfl (Rd.moveT rfl) ?_
    refine PL.guard_off rfl rfl (not_f h_3) ?_
    refine PL.guard_off rfl rfl (not_f h_3) ?_
    refine PL.guard_off rfl rfl (not_f h_3) ?_
    refine PL.guard_off rfl rfl (not_f h_3) ?_
    refine PL.op rfl (Rd.pick_t rfl (not_f h_3)) ?_
    refine PL.nil ?_
    refine thA_n ?_
    refine PC.cond_true rfl rfl ?_
    refine PC.seq ?_
    refine PC.region ?_
    refine PL.op rfl (Rd.asnT rfl) ?_
    refine PL.nil ?_
    refine thA_n ?_
    refine PC.ret ?_
    refine thA_r ?_
    obtain rfl := some_in hh0
    exact FinA.mk (r := .os 0 0 0) (bl := [⟨.tr (eL ([] : List ByteArray)), 9, 1⟩]) [none] (.inl rfl) rfl (rl := [.tmp 6]) (.tmp .nil) rfl rfl rfl (.osn rfl) ⟨ow_nil _, trivial⟩ ⟨rfl, rfl⟩
  obtain ⟨r4, h_5, hh0⟩ := bind_some hh0
  refine PC.region ?_
  refine PL.op rfl (Rd.moveT rfl) ?_
  refine PL.callM false [] (w_I_ValidCatalog N p_list r1 h_2) rfl Try.call33 rfl ⟨.t _, trivial⟩ rfl trivial (fun h => by cases h) ?_
  refine PL.op rfl (Rd.unnot rfl) ?_
  refine PL.op rfl (Rd.moveT rfl) ?_
  refine PL.guard_on rfl (not_t h_3) ?_
  refine PL.op rfl (Rd.moveT rfl) ?_
  refine PL.guard_on rfl (not_t h_3) ?_
  refine PL.op rfl (Rd.moveT rfl) ?_
  refine PL.guard_on rfl (not_t h_3) ?_
  refine PL.callM false [] (w_I_hasTable N p_list p_table r4 h_5) rfl Try.call34 rfl ⟨.t _, .t _, trivial⟩ rfl trivial (fun h => by cases h) ?_
  refine PL.guard_on rfl (not_t h_3) ?_
  refine PL.op rfl (Rd.unnot rfl) ?_
  refine PL.op rfl (Rd.pick_f rfl (not_t h_3)) ?_
  refine PL.nil ?_
  refine thA_n ?_
  rcases cond_some hh0 with ⟨h_6, hh0⟩ | ⟨h_6, hh0⟩
  rotate_left
  · refine PC.cond_true rfl (not_f h_6) ?_
    refine PC.seq ?_
    refine PC.region ?_
    refine PL.op rfl (Rd.asnT rfl) ?_
    refine PL.nil ?_
    refine thA_n ?_
    refine PC.ret ?_
    refine thA_r ?_
    obtain rfl := some_in hh0
    exact FinA.mk (r := .os 0 0 0) (bl := [⟨.tr (eL ([] : List ByteArray)), 9, 1⟩]) [none] (.inl rfl) rfl (rl := [.tmp 6]) (.tmp .nil) rfl rfl rfl (.osn rfl) ⟨ow_nil _, trivial⟩ ⟨rfl, rfl⟩
  refine PC.cond_false rfl (not_t h_6) ?_
  refine PC.skip ?_
  refine thA_n ?_
  refine PC.seq ?_
  refine PC.region ?_
  refine PL.op rfl (Rd.asnT rfl) ?_
  refine PL.nil ?_
  refine thA_n ?_
  refine PC.seq ?_
  refine PC.seq ?_
  refine PC.region ?_
  refine PL.op rfl (Rd.moveT rfl) ?_
  refine PL.op rfl (Rd.lenT rfl) ?_
  refine PL.op rfl (Rd.moveT rfl) ?_
  refine PL.nil ?_
  refine thA_n ?_
  obtain ⟨o31, h_32, hh0⟩ := bind_some hh0
  refine PC.cutE hs (fun x : (List ByteArray) => [(7, .os 0 0 x.length)]) (fun x => [⟨.tr (eL x), 9, 1⟩]) (fun x => m_I_UsableIndexes_k1 N x = some r) ?_ ?_
  · refine PC.block ?_
    refine PC.loop hs (fun x : Nat × (Int × (List ByteArray)) => [(1, sA p_table), (2, bA p_changes), (7, .os 0 0 x.2.2.length), (19, sL p_list), (20, iA (p_list.length : Int)), (21, iA x.2.1)]) (fun x => [⟨.tr (eL x.2.2), 9, 1⟩]) (fun x => loopM (β := (List ByteArray)) (fun s : Int × (List ByteArray) => m_I_UsableIndexes_b1 N p_list p_table p_changes s.1 s.2) x.1 x.2 = some o31) (fun x => x.1) (N, ((0 : Int), ([] : List ByteArray))) [none] ⟨rfl, rfl, ⟨ow_nil _, trivial⟩, ⟨.t _, .t _, .osn rfl, .t _, .t _, .t _, trivial⟩⟩ h_32 ?_
    rintro ⟨f33_, i7, v8⟩ h_35
    obtain ⟨f33, y34, rfl, hh1, kk1⟩ := loopM_some h_35
    replace hh1 : m_I_UsableIndexes_b1 N p_list p_table p_changes i7 v8 = some y34 := hh1
    unfold m_I_UsableIndexes_b1 at hh1
    refine PC.seq ?_
    refine PC.region ?_
    refine PL.op rfl (Rd.lss rfl rfl) ?_
    refine PL.nil ?_
    refine thA_n ?_
    refine PC.seq ?_
    rcases cond_some hh1 with ⟨h_36, hh1⟩ | ⟨h_36, hh1⟩
    rotate_left
    · refine PC.cond_false rfl h_36 ?_
      refine PC.exit ?_
      refine thA_e ?_
      refine thA_e ?_
      refine inA_eq rfl ?_
      refine thA_n ?_
      obtain rfl := some_in hh1
      obtain rfl : (v8 : (List ByteArray)) = o31 := kk1
      exact ⟨v8, hh0, [some 0], ⟨rfl, rfl, ⟨⟨_, rfl, rfl, rfl, .tr _⟩, trivial⟩, ⟨.os rfl, trivial⟩⟩⟩
    refine PC.cond_true rfl h_36 ?_
    refine PC.skip ?_
    refine thA_n ?_
    refine PC.seq ?_
    refine PC.block ?_
    refine PC.seq ?_
    obtain ⟨x37, h_38, hh1⟩ := bind_some hh1
    refine PC.region ?_
    refine PL.op rfl (Rd.ixM rfl rfl h_38) ?_
    refine PL.op rfl (Rd.elMR rfl h_38 rfl rfl) ?_
    refine PL.ef rfl (Ef.alloc rfl rfl) ?_
    refine PL.nm (.op 1 0) [some ⟨.tr (eL v8), 9, 1⟩, some ⟨.mx [sA ByteArray.empty, sA ByteArray.empty, iA (0 : Int)], 62, 0⟩] rfl rfl ?_
    refine PL.store rfl rfl rfl rfl rfl rfl rfl ?_
    refine PL.nO [some ⟨.tr (eL v8), 9, 1⟩, some ⟨.mx [sA x37.name, sA x37.table, iA x37.state], 62, 0⟩] rfl ?_
    refine PL.nil ?_
    refine thA_n ?_
    refine PC.seq ?_
    rcases cond_some hh1 with ⟨h_39, hh1⟩ | ⟨h_39, hh1⟩
    rotate_left
    · refine PC.region ?_
      refine PL.op rfl (Rd.fieldO rfl rfl) ?_
      refine PL.op rfl (Rd.loadO rfl rfl rfl) ?_
      refine PL.op rfl (Rd.moveT rfl) ?_
      refine PL.op rfl (Rd.eqlS rfl rfl) ?_
      refine PL.op rfl (Rd.moveT rfl) ?_
      refine PL.guard_off rfl rfl h_39 ?_
      refine PL.guard_off rfl rfl h_39 ?_
      refine PL.guard_off rfl rfl h_39 ?_
      refine PL.guard_off rfl rfl h_39 ?_
      refine PL.guard_un rfl rfl ?_
      refine PL.guard_un rfl rfl ?_
      refine PL.guard_un rfl rfl ?_
      refine PL.guard_un rfl rfl ?_
      refine PL.guard_un rfl rfl ?_
      refine PL.guard_un rfl rfl ?_
      refine PL.guard_off rfl rfl h_39 ?_
      refine PL.op rfl (Rd.pick_f rfl h_39) ?_
      refine PL.nil ?_
      refine thA_n ?_
      refine PC.cond_false rfl rfl ?_
      refine PC.skip ?_
      refine inA_n ?_
      refine thA_n ?_
      obtain ⟨n55, h_56, hh1⟩ := bind_some hh1
      refine PC.region ?_
      refine PL.op rfl (Rd.addM rfl rfl h_56) ?_
      refine PL.op rfl (Rd.moveT rfl) ?_
      refine PL.nil ?_
      obtain rfl := some_in hh1
      refine thA_n ?_
      exact ⟨(f33, (n55, v8)), Nat.lt_succ_self _, kk1, [some 0], ⟨rfl, rfl, ⟨⟨_, rfl, rfl, rfl, .tr _⟩, trivial⟩, ⟨.t _, .t _, .os rfl, .t _, .t _, .t _, trivial⟩⟩⟩
    rcases cond_some hh1 with ⟨h_40, hh1⟩ | ⟨h_40, hh1⟩
    · refine PC.region ?_
      refine PL.op rfl (Rd.fieldO rfl rfl) ?_
      refine PL.op rfl (Rd.loadO rfl rfl rfl) ?_
      refine PL.op rfl (Rd.moveT rfl) ?_
      refine PL.op rfl (Rd.eqlS rfl rfl) ?_
      refine PL.op rfl (Rd.moveT rfl) ?_
      refine PL.guard_on rfl h_39 ?_
      refine PL.op rfl (Rd.fieldO rfl rfl) ?_
      refine PL.guard_on rfl h_39 ?_
      refine PL.op rfl (Rd.loadO rfl rfl rfl) ?_
      refine PL.guard_on rfl h_39 ?_
      refine PL.op rfl (Rd.eql rfl rfl) ?_
      refine PL.guard_on rfl h_39 ?_
      refine PL.op rfl (Rd.moveT rfl) ?_
      refine PL.guard_off rfl rfl h_40 ?_
      refine PL.guard_off rfl rfl h_40 ?_
      refine PL.guard_un rfl rfl ?_
      refine PL.guard_un rfl rfl ?_
      refine PL.guard_un rfl rfl ?_
      refine PL.guard_off rfl rfl h_40 ?_
      refine PL.guard_on rfl h_39 ?_
      refine PL.op rfl (Rd.pick_t rfl h_40) ?_
      refine PL.op rfl (Rd.pick_t rfl h_39) ?_
      refine PL.nil ?_
      refine thA_n ?_
      refine PC.cond_true rfl rfl ?_
      obtain ⟨xs42, h_43, hh1⟩ := bind_some hh1
      refine PC.region ?_
      refine PL.op rfl (Rd.moveO rfl) ?_
      refine PL.op rfl (Rd.fieldO rfl rfl) ?_
      refine PL.op rfl (Rd.loadO rfl rfl rfl) ?_
      refine PL.ef rfl (Ef.litM (α := ByteArray) [x37.name] [_] rfl rfl (by decide) rfl rfl rfl rfl) ?_
      refine PL.nm (.os 2 0 1) [some ⟨.tr (eL v8), 9, 1⟩, some ⟨.mx [sA x37.name, sA x37.table, iA x37.state], 62, 0⟩, some ⟨.tr (eL [x37.name]), 9, 1⟩] rfl rfl ?_
      refine PL.apM hs rfl rfl rfl rfl (SrcA.ownE rfl rfl rfl) rfl rfl rfl rfl h_43 ?_
      refine PL.nm (.os 3 0 xs42.length) [none, some ⟨.mx [sA x37.name, sA x37.table, iA x37.state], 62, 0⟩, some ⟨.tr (eL [x37.name]), 9, 1⟩, some ⟨.tr (eL xs42), 9, 1⟩] rfl rfl ?_
      refine PL.op rfl (Rd.asnO rfl) ?_
      refine PL.nil ?_
      refine inA_n ?_
      refine thA_n ?_
      obtain ⟨n44, h_45, hh1⟩ := bind_some hh1
      refine PC.region ?_
      refine PL.op rfl (Rd.addM rfl rfl h_45) ?_
      refine PL.op rfl (Rd.moveT rfl) ?_
      refine PL.nil ?_
      obtain rfl := some_in hh1
      refine thA_n ?_
      exact ⟨(f33, (n44, xs42)), Nat.lt_succ_self _, kk1, [some 3], ⟨rfl, rfl, ⟨⟨_, rfl, rfl, rfl, .tr _⟩, trivial⟩, ⟨.t _, .t _, .os rfl, .t _, .t _, .t _, trivial⟩⟩⟩
    rcases cond_some hh1 with ⟨h_41, hh1⟩ | ⟨h_41, hh1⟩
    rotate_left
    · refine PC.region ?_
      refine PL.op rfl (Rd.fieldO rfl rfl) ?_
      refine PL.op rfl (Rd.loadO rfl rfl rfl) ?_
      refine PL.op rfl (Rd.moveT rfl) ?_
      refine PL.op rfl (Rd.eqlS rfl rfl) ?_
      refine PL.op rfl (Rd.moveT rfl) ?_
      refine PL.guard_on rfl h_39 ?_
      refine PL.op rfl (Rd.fieldO rfl rfl) ?_
      refine PL.guard_on rfl h_39 ?_
      refine PL.op rfl (Rd.loadO rfl rfl rfl) ?_
      refine PL.guard_on rfl h_39 ?_
      refine PL.op rfl (Rd.eql rfl rfl) ?_
      refine PL.guard_on rfl h_39 ?_
      refine PL.op rfl (Rd.moveT rfl) ?_
      refine PL.guard_on rfl h_40 ?_
      refine PL.op rfl (Rd.moveT rfl) ?_
      refine PL.guard_on rfl h_40 ?_
      refine PL.op rfl (Rd.moveT rfl) ?_
      refine PL.guard_off rfl rfl h_41 ?_
      refine PL.guard_off rfl rfl h_41 ?_
      refine PL.guard_off rfl rfl h_41 ?_
      refine PL.guard_on rfl h_40 ?_
      refine PL.op rfl (Rd.pick_f rfl h_41) ?_
      refine PL.guard_on rfl h_39 ?_
      refine PL.op rfl (Rd.pick_f rfl h_40) ?_
      refine PL.op rfl (Rd.pick_t rfl h_39) ?_
      refine PL.nil ?_
      refine thA_n ?_
      refine PC.cond_false rfl rfl ?_
      refine PC.skip ?_
      refine inA_n ?_
      refine thA_n ?_
      obtain ⟨n53, h_54, hh1⟩ := bind_some hh1
      refine PC.region ?_
      refine PL.op rfl (Rd.addM rfl rfl h_54) ?_
      refine PL.op rfl (Rd.moveT rfl) ?_
      refine PL.nil ?_
      obtain rfl := some_in hh1
      refine thA_n ?_
      exact ⟨(f33, (n53, v8)), Nat.lt_succ_self _, kk1, [some 0], ⟨rfl, rfl, ⟨⟨_, rfl, rfl, rfl, .tr _⟩, trivial⟩, ⟨.t _, .t _, .os rfl, .t _, .t _, .t _, trivial⟩⟩⟩
    refine PC.region ?_
    refine PL.op rfl (Rd.fieldO rfl rfl) ?_
    refine PL.op rfl (Rd.loadO rfl rfl rfl) ?_
    refine PL.op rfl (Rd.moveT rfl) ?_
    refine PL.op rfl (Rd.eqlS rfl rfl) ?_
    refine PL.op rfl (Rd.moveT rfl) ?_
    refine PL.guard_on rfl h_39 ?_
    refine PL.op rfl (Rd.fieldO rfl rfl) ?_
    refine PL.guard_on rfl h_39 ?_
    refine PL.op rfl (Rd.loadO rfl rfl rfl) ?_
    refine PL.guard_on rfl h_39 ?_
    refine PL.op rfl (Rd.eql rfl rfl) ?_
    refine PL.guard_on rfl h_39 ?_
    refine PL.op rfl (Rd.moveT rfl) ?_
    refine PL.guard_on rfl h_40 ?_
    refine PL.op rfl (Rd.moveT rfl) ?_
    refine PL.guard_on rfl h_40 ?_
    refine PL.op rfl (Rd.moveT rfl) ?_
    refine PL.guard_on rfl h_41 ?_
    refine PL.op rfl (Rd.fieldO rfl rfl) ?_
    refine PL.guard_on rfl h_41 ?_
    refine PL.op rfl (Rd.loadO rfl rfl rfl) ?_
    refine PL.guard_on rfl h_41 ?_
    refine PL.op rfl (Rd.eql rfl rfl) ?_
    refine PL.guard_on rfl h_40 ?_
    refine PL.op rfl (Rd.pick_t rfl h_41) ?_
    refine PL.guard_on rfl h_39 ?_
    refine PL.op rfl (Rd.pick_f rfl h_40) ?_
    refine PL.op rfl (Rd.pick_t rfl h_39) ?_
    refine PL.nil ?_
    refine thA_n ?_
    rcases cond_some hh1 with ⟨h_46, hh1⟩ | ⟨h_46, hh1⟩
    rotate_left
    · refine PC.cond_false rfl h_46 ?_
      refine PC.skip ?_
      refine inA_n ?_
      refine thA_n ?_
      obtain ⟨n51, h_52, hh1⟩ := bind_some hh1
      refine PC.region ?_
      refine PL.op rfl (Rd.addM rfl rfl h_52) ?_
      refine PL.op rfl (Rd.moveT rfl) ?_
      refine PL.nil ?_
      obtain rfl := some_in hh1
      refine thA_n ?_
      exact ⟨(f33, (n51, v8)), Nat.lt_succ_self _, kk1, [some 0], ⟨rfl, rfl, ⟨⟨_, rfl, rfl, rfl, .tr _⟩, trivial⟩, ⟨.t _, .t _, .os rfl, .t _, .t _, .t _, trivial⟩⟩⟩
    refine PC.cond_true rfl h_46 ?_
    obtain ⟨xs47, h_48, hh1⟩ := bind_some hh1
    refine PC.region ?_
    refine PL.op rfl (Rd.moveO rfl) ?_
    refine PL.op rfl (Rd.fieldO rfl rfl) ?_
    refine PL.op rfl (Rd.loadO rfl rfl rfl) ?_
    refine PL.ef rfl (Ef.litM (α := ByteArray) [x37.name] [_] rfl rfl (by decide) rfl rfl rfl rfl) ?_
    refine PL.nm (.os 2 0 1) [some ⟨.tr (eL v8), 9, 1⟩, some ⟨.mx [sA x37.name, sA x37.table, iA x37.state], 62, 0⟩, some ⟨.tr (eL [x37.name]), 9, 1⟩] rfl rfl ?_
    refine PL.apM hs rfl rfl rfl rfl (SrcA.ownE rfl rfl rfl) rfl rfl rfl rfl h_48 ?_
    refine PL.nm (.os 3 0 xs47.length) [none, some ⟨.mx [sA x37.name, sA x37.table, iA x37.state], 62, 0⟩, some ⟨.tr (eL [x37.name]), 9, 1⟩, some ⟨.tr (eL xs47), 9, 1⟩] rfl rfl ?_
    refine PL.op rfl (Rd.asnO rfl) ?_
    refine PL.nil ?_
    refine inA_n ?_
    refine thA_n ?_
    obtain ⟨n49, h_50, hh1⟩ := bind_some hh1
    refine PC.region ?_
    refine PL.op rfl (Rd.addM rfl rfl h_50) ?_
    refine PL.op rfl (Rd.moveT rfl) ?_
    refine PL.nil ?_
    obtain rfl := some_in hh1
    refine thA_n ?_
    exact ⟨(f33, (n49, xs47)), Nat.lt_succ_self _, kk1, [some 3], ⟨rfl, rfl, ⟨⟨_, rfl, rfl, rfl, .tr _⟩, trivial⟩, ⟨.t _, .t _, .os rfl, .t _, .t _, .t _, trivial⟩⟩⟩
  clear hh0
  rintro v30 hh0
  replace hh0 : m_I_UsableIndexes_k1 N v30 = some r := hh0
  unfold m_I_UsableIndexes_k1 at hh0
  refine thA_n ?_
  refine PC.seq ?_
  refine PC.region ?_
  refine PL.op rfl (Rd.moveO rfl) ?_
  refine PL.op rfl (Rd.asnO rfl) ?_
  refine PL.nil ?_
  refine thA_n ?_
  refine PC.ret ?_
  obtain rfl := some_in hh0
  exact FinA.mk (r := .os 0 0 v30.length) (bl := [⟨.tr (eL v30), 9, 1⟩]) [some 0] (.inl rfl) rfl (rl := [.tmp 6]) (.tmp .nil) rfl rfl rfl (.os rfl) ⟨⟨_, rfl, rfl, rfl, .tr _⟩, trivial⟩ ⟨rfl, rfl⟩

def m_S_inRange (N : Nat) (p_n : Int) (p_low : Int) (p_high : Int) : Option (Bool) :=
  cond (decide (p_low ≤ p_n))
    (some (decide (p_n ≤ p_high)))
    (some false)
theorem w_S_inRange (N : Nat) (p_n : Int) (p_low : Int) (p_high : Int) (r : Bool) (hh0 : m_S_inRange N p_n p_low p_high = some r) : FnX Try.prog 52 [] [iA p_n, iA p_low, iA p_high] (RE (bA r) []) := by
  unfold m_S_inRange at hh0
  refine FnX.mk Try.func52 rfl rfl ?_
  intro s hs
  refine PC.seq ?_
  refine PC.region ?_
  refine PL.op rfl (Rd.asnT rfl) ?_
  refine PL.nil ?_
  refine thA_n ?_
  refine PC.seq ?_
  rcases cond_some hh0 with ⟨h_1, hh0⟩ | ⟨h_1, hh0⟩
  rotate_left
  · refine PC.region ?_
    refine PL.op rfl (Rd.moveT rfl) ?_
    refine PL.op rfl (Rd.moveT rfl) ?_
    refine PL.op rfl (Rd.leq rfl rfl) ?_
    refine PL.op rfl (Rd.moveT rfl) ?_
    refine PL.guard_off rfl rfl h_1 ?_
    refine PL.guard_off rfl rfl h_1 ?_
    refine PL.guard_off rfl rfl h_1 ?_
    refine PL.op rfl (Rd.pick_f rfl h_1) ?_
    refine PL.op rfl (Rd.asnT rfl) ?_
    refine PL.nil ?_
    refine thA_n ?_
    refine PC.ret ?_
    obtain rfl := some_in hh0
    exact FinA.mk (r := bA false) (bl := []) [] (.inl rfl) rfl (rl := [.tmp 6]) (.tmp .nil) rfl rfl rfl (.t _) trivial ⟨rfl, rfl⟩
  refine PC.region ?_
  refine PL.op rfl (Rd.moveT rfl) ?_
  refine PL.op rfl (Rd.moveT rfl) ?_
  refine PL.op rfl (Rd.leq rfl rfl) ?_
  refine PL.op rfl (Rd.moveT rfl) ?_
  refine PL.guard_on rfl h_1 ?_
  refine PL.op rfl (Rd.moveT rfl) ?_
  refine PL.guard_on rfl h_1 ?_
  refine PL.op rfl (Rd.moveT rfl) ?_
  refine PL.guard_on rfl h_1 ?_
  refine PL.op rfl (Rd.leq rfl rfl) ?_
  refine PL.op rfl (Rd.pick_t rfl h_1) ?_
  refine PL.op rfl (Rd.asnT rfl) ?_
  refine PL.nil ?_
  refine thA_n ?_
  refine PC.ret ?_
  obtain rfl := some_in hh0
  exact FinA.mk (r := bA (decide (p_n ≤ p_high))) (bl := []) [] (.inl rfl) rfl (rl := [.tmp 6]) (.tmp .nil) rfl rfl rfl (.t _) trivial ⟨rfl, rfl⟩

def m_S_validName_k1 (N : Nat) (p_s : ByteArray) : Option (Bool) :=
  (m_S_inRange N (p_s.size : Int) (1 : Int) (8 : Int)).bind fun r15 =>
  some r15
def m_S_validName_b1 (N : Nat) (p_s : ByteArray) (i1 : Int) : Option (Int ⊕ (Unit ⊕ Bool)) :=
  cond (decide (i1 < (p_s.size : Int)))
    ((ixS p_s i1).bind fun c18 =>
    (m_S_inRange N (c18.toNat : Int) (97 : Int) (122 : Int)).bind fun r20 =>
    cond r20
      ((chk (i1 + (1 : Int))).bind fun n23 =>
      some (.inl n23))
      (some (.inr (.inr false))))
    (some (.inr (.inl ())))
def m_S_validName (N : Nat) (p_s : ByteArray) : Option (Bool) :=
  (loopM (β := Unit ⊕ Bool) (fun s : Int => m_S_validName_b1 N p_s s) N (0 : Int)).bind fun o => match o with
  | .inl e =>
    m_S_validName_k1 N p_s 
  | .inr v =>
    some v
theorem w_S_validName (N : Nat) (p_s : ByteArray) (r : Bool) (hh0 : m_S_validName N p_s = some r) : FnX Try.prog 50 [] [sA p_s] (RE (bA r) []) := by
  unfold m_S_validName at hh0
  refine FnX.mk Try.func50 rfl rfl ?_
  intro s hs
  refine PC.seq ?_
  refine PC.region ?_
  refine PL.op rfl (Rd.asnT rfl) ?_
  refine PL.nil ?_
  refine thA_n ?_
  refine PC.seq ?_
  refine PC.seq ?_
  refine PC.region ?_
  refine PL.op rfl (Rd.asnT rfl) ?_
  refine PL.nil ?_
  refine thA_n ?_
  obtain ⟨o10, h_11, hh0⟩ := bind_some hh0
  refine PC.cutE hs (fun x : Unit => [(0, sA p_s)]) (fun x => []) (fun x => m_S_validName_k1 N p_s  = some r) ?_ ?_
  · refine PC.block ?_
    refine PC.loop hs (fun x : Nat × (Int) => [(0, sA p_s), (3, iA x.2)]) (fun x => []) (fun x => loopM (β := Unit ⊕ Bool) (fun s : Int => m_S_validName_b1 N p_s s) x.1 x.2 = some o10) (fun x => x.1) (N, (0 : Int)) [] ⟨rfl, rfl, trivial, ⟨.t _, .t _, trivial⟩⟩ h_11 ?_
    rintro ⟨f12_, i1⟩ h_14
    obtain ⟨f12, y13, rfl, hh1, kk1⟩ := loopM_some h_14
    replace hh1 : m_S_validName_b1 N p_s i1 = some y13 := hh1
    unfold m_S_validName_b1 at hh1
    refine PC.seq ?_
    refine PC.seq ?_
    refine PC.region ?_
    refine PL.op rfl (Rd.moveT rfl) ?_
    refine PL.op rfl (Rd.moveT rfl) ?_
    refine PL.op rfl (Rd.lenSt rfl) ?_
    refine PL.op rfl (Rd.lss rfl rfl) ?_
    refine PL.nil ?_
    refine thA_n ?_
    rcases cond_some hh1 with ⟨h_17, hh1⟩ | ⟨h_17, hh1⟩
    rotate_left
    · refine PC.cond_false rfl h_17 ?_
      refine PC.exit ?_
      refine thA_e ?_
      refine thA_e ?_
      refine inA_eq rfl ?_
      refine thA_n ?_
      obtain rfl := some_in hh1
      obtain rfl : (.inl () : Unit ⊕ Bool) = o10 := kk1
      exact ⟨(), hh0, [], ⟨rfl, rfl, trivial, ⟨.t _, trivial⟩⟩⟩
    refine PC.cond_true rfl h_17 ?_
    refine PC.skip ?_
    refine thA_n ?_
    refine PC.seq ?_
    refine PC.block ?_
    refine PC.seq ?_
    obtain ⟨c18, h_19, hh1⟩ := bind_some hh1
    obtain ⟨r20, h_21, hh1⟩ := bind_some hh1
    refine PC.region ?_
    refine PL.op rfl (Rd.moveT rfl) ?_
    refine PL.op rfl (Rd.moveT rfl) ?_
    refine PL.op rfl (Rd.ixSM rfl rfl h_19) ?_
    refine PL.op rfl (Rd.u8 rfl) ?_
    refine PL.callM false [] (w_S_inRange N (c18.toNat : Int) (97 : Int) (122 : Int) r20 h_21) rfl Try.call52 rfl ⟨.t _, .t _, .t _, trivial⟩ rfl trivial (fun h => by cases h) ?_
    refine PL.op rfl (Rd.unnot rfl) ?_
    refine PL.nil ?_
    refine thA_n ?_
    rcases cond_some hh1 with ⟨h_22, hh1⟩ | ⟨h_22, hh1⟩
    · refine PC.cond_false rfl (not_t h_22) ?_
      refine PC.skip ?_
      refine inA_n ?_
      refine thA_n ?_
      obtain ⟨n23, h_24, hh1⟩ := bind_some hh1
      refine PC.region ?_
      refine PL.op rfl (Rd.moveT rfl) ?_
      refine PL.op rfl (Rd.addM rfl rfl h_24) ?_
      refine PL.op rfl (Rd.asnT rfl) ?_
      refine PL.nil ?_
      obtain rfl := some_in hh1
      refine thA_n ?_
      exact ⟨(f12, n23), Nat.lt_succ_self _, kk1, [], ⟨rfl, rfl, trivial, ⟨.t _, .t _, trivial⟩⟩⟩
    refine PC.cond_true rfl (not_f h_22) ?_
    refine PC.seq ?_
    refine PC.region ?_
    refine PL.op rfl (Rd.asnT rfl) ?_
    refine PL.nil ?_
    refine thA_n ?_
    refine PC.ret ?_
    refine inA_r ?_
    refine thA_r ?_
    refine thA_r ?_
    refine inA_r ?_
    refine thA_r ?_
    obtain rfl := some_in hh1
    obtain rfl : (.inr false : Unit ⊕ Bool) = o10 := kk1
    refine thA_r ?_
    obtain rfl := some_in hh0
    exact FinA.mk (r := bA false) (bl := []) [] (.inl rfl) rfl (rl := [.tmp 2]) (.tmp .nil) rfl rfl rfl (.t _) trivial ⟨rfl, rfl⟩
  clear hh0
  rintro ⟨⟩ hh0
  replace hh0 : m_S_validName_k1 N p_s  = some r := hh0
  unfold m_S_validName_k1 at hh0
  refine thA_n ?_
  refine PC.seq ?_
  obtain ⟨r15, h_16, hh0⟩ := bind_some hh0
  refine PC.region ?_
  refine PL.op rfl (Rd.moveT rfl) ?_
  refine PL.op rfl (Rd.lenSt rfl) ?_
  refine PL.callM false [] (w_S_inRange N (p_s.size : Int) (1 : Int) (8 : Int) r15 h_16) rfl Try.call52 rfl ⟨.t _, .t _, .t _, trivial⟩ rfl trivial (fun h => by cases h) ?_
  refine PL.op rfl (Rd.asnT rfl) ?_
  refine PL.nil ?_
  refine thA_n ?_
  refine PC.ret ?_
  obtain rfl := some_in hh0
  exact FinA.mk (r := bA r15) (bl := []) [] (.inl rfl) rfl (rl := [.tmp 2]) (.tmp .nil) rfl rfl rfl (.t _) trivial ⟨rfl, rfl⟩

def m_S_find_k1 (N : Nat) : Option (Int) :=
  some (-1 : Int)
def m_S_find_b1 (N : Nat) (p_list : (List I_Entry)) (p_name : ByteArray) (i1 : Int) : Option (Int ⊕ (Unit ⊕ Int)) :=
  cond (decide (i1 < (p_list.length : Int)))
    ((ixI p_list i1).bind fun x14 =>
    cond (x14.name.toList == p_name.toList)
      (some (.inr (.inr i1)))
      ((chk (i1 + (1 : Int))).bind fun n17 =>
      some (.inl n17)))
    (some (.inr (.inl ())))
def m_S_find (N : Nat) (p_list : (List I_Entry)) (p_name : ByteArray) : Option (Int) :=
  (loopM (β := Unit ⊕ Int) (fun s : Int => m_S_find_b1 N p_list p_name s) N (0 : Int)).bind fun o => match o with
  | .inl e =>
    m_S_find_k1 N 
  | .inr v =>
    some v
theorem w_S_find (N : Nat) (p_list : (List I_Entry)) (p_name : ByteArray) (r : Int) (hh0 : m_S_find N p_list p_name = some r) : FnX Try.prog 51 [] [sL p_list, sA p_name] (RE (iA r) []) := by
  unfold m_S_find at hh0
  refine FnX.mk Try.func51 rfl rfl ?_
  intro s hs
  refine PC.seq ?_
  refine PC.region ?_
  refine PL.op rfl (Rd.asnT rfl) ?_
  refine PL.nil ?_
  refine thA_n ?_
  refine PC.seq ?_
  refine PC.seq ?_
  refine PC.region ?_
  refine PL.op rfl (Rd.asnT rfl) ?_
  refine PL.nil ?_
  refine thA_n ?_
  obtain ⟨o8, h_9, hh0⟩ := bind_some hh0
  refine PC.cutE hs (fun x : Unit => []) (fun x => []) (fun x => m_S_find_k1 N  = some r) ?_ ?_
  · refine PC.block ?_
    refine PC.loop hs (fun x : Nat × (Int) => [(0, sL p_list), (1, sA p_name), (5, iA x.2)]) (fun x => []) (fun x => loopM (β := Unit ⊕ Int) (fun s : Int => m_S_find_b1 N p_list p_name s) x.1 x.2 = some o8) (fun x => x.1) (N, (0 : Int)) [] ⟨rfl, rfl, trivial, ⟨.t _, .t _, .t _, trivial⟩⟩ h_9 ?_
    rintro ⟨f10_, i1⟩ h_12
    obtain ⟨f10, y11, rfl, hh1, kk1⟩ := loopM_some h_12
    replace hh1 : m_S_find_b1 N p_list p_name i1 = some y11 := hh1
    unfold m_S_find_b1 at hh1
    refine PC.seq ?_
    refine PC.seq ?_
    refine PC.region ?_
    refine PL.op rfl (Rd.moveT rfl) ?_
    refine PL.op rfl (Rd.moveT rfl) ?_
    refine PL.op rfl (Rd.lenT rfl) ?_
    refine PL.op rfl (Rd.lss rfl rfl) ?_
    refine PL.nil ?_
    refine thA_n ?_
    rcases cond_some hh1 with ⟨h_13, hh1⟩ | ⟨h_13, hh1⟩
    rotate_left
    · refine PC.cond_false rfl h_13 ?_
      refine PC.exit ?_
      refine thA_e ?_
      refine thA_e ?_
      refine inA_eq rfl ?_
      refine thA_n ?_
      obtain rfl := some_in hh1
      obtain rfl : (.inl () : Unit ⊕ Int) = o8 := kk1
      exact ⟨(), hh0, [], ⟨rfl, rfl, trivial, trivial⟩⟩
    refine PC.cond_true rfl h_13 ?_
    refine PC.skip ?_
    refine thA_n ?_
    refine PC.seq ?_
    refine PC.block ?_
    refine PC.seq ?_
    obtain ⟨x14, h_15, hh1⟩ := bind_some hh1
    refine PC.region ?_
    refine PL.op rfl (Rd.moveT rfl) ?_
    refine PL.op rfl (Rd.moveT rfl) ?_
    refine PL.op rfl (Rd.ixM rfl rfl h_15) ?_
    refine PL.op rfl (Rd.fieldT rfl) ?_
    refine PL.op rfl (Rd.elMF (f := 0) rfl h_15 rfl rfl) ?_
    refine PL.op rfl (Rd.moveT rfl) ?_
    refine PL.op rfl (Rd.eqlS rfl rfl) ?_
    refine PL.nil ?_
    refine thA_n ?_
    rcases cond_some hh1 with ⟨h_16, hh1⟩ | ⟨h_16, hh1⟩
    rotate_left
    · refine PC.cond_false rfl h_16 ?_
      refine PC.skip ?_
      refine inA_n ?_
      refine thA_n ?_
      obtain ⟨n17, h_18, hh1⟩ := bind_some hh1
      refine PC.region ?_
      refine PL.op rfl (Rd.moveT rfl) ?_
      refine PL.op rfl (Rd.addM rfl rfl h_18) ?_
      refine PL.op rfl (Rd.asnT rfl) ?_
      refine PL.nil ?_
      obtain rfl := some_in hh1
      refine thA_n ?_
      exact ⟨(f10, n17), Nat.lt_succ_self _, kk1, [], ⟨rfl, rfl, trivial, ⟨.t _, .t _, .t _, trivial⟩⟩⟩
    refine PC.cond_true rfl h_16 ?_
    refine PC.seq ?_
    refine PC.region ?_
    refine PL.op rfl (Rd.moveT rfl) ?_
    refine PL.op rfl (Rd.asnT rfl) ?_
    refine PL.nil ?_
    refine thA_n ?_
    refine PC.ret ?_
    refine inA_r ?_
    refine thA_r ?_
    refine thA_r ?_
    refine inA_r ?_
    refine thA_r ?_
    obtain rfl := some_in hh1
    obtain rfl : (.inr i1 : Unit ⊕ Int) = o8 := kk1
    refine thA_r ?_
    obtain rfl := some_in hh0
    exact FinA.mk (r := iA i1) (bl := []) [] (.inl rfl) rfl (rl := [.tmp 4]) (.tmp .nil) rfl rfl rfl (.t _) trivial ⟨rfl, rfl⟩
  clear hh0
  rintro ⟨⟩ hh0
  replace hh0 : m_S_find_k1 N  = some r := hh0
  unfold m_S_find_k1 at hh0
  refine thA_n ?_
  refine PC.seq ?_
  refine PC.region ?_
  refine PL.op rfl (Rd.asnT rfl) ?_
  refine PL.nil ?_
  refine thA_n ?_
  refine PC.ret ?_
  obtain rfl := some_in hh0
  exact FinA.mk (r := iA (-1 : Int)) (bl := []) [] (.inl rfl) rfl (rl := [.tmp 4]) (.tmp .nil) rfl rfl rfl (.t _) trivial ⟨rfl, rfl⟩

def m_S_isTable (N : Nat) (p_list : (List I_Entry)) (p_name : ByteArray) : Option (Bool) :=
  (m_S_find N p_list p_name).bind fun r1 =>
  cond (decide ((0 : Int) ≤ r1))
    ((ixI p_list r1).bind fun x4 =>
    some (x4.table.toList == ByteArray.empty.toList))
    (some false)
theorem w_S_isTable (N : Nat) (p_list : (List I_Entry)) (p_name : ByteArray) (r : Bool) (hh0 : m_S_isTable N p_list p_name = some r) : FnX Try.prog 31 [] [sL p_list, sA p_name] (RE (bA r) []) := by
  unfold m_S_isTable at hh0
  refine FnX.mk Try.func31 rfl rfl ?_
  intro s hs
  refine PC.seq ?_
  refine PC.region ?_
  refine PL.op rfl (Rd.asnT rfl) ?_
  refine PL.nil ?_
  refine thA_n ?_
  refine PC.seq ?_
  obtain ⟨r1, h_2, hh0⟩ := bind_some hh0
  refine PC.region ?_
  refine PL.op rfl (Rd.moveT rfl) ?_
  refine PL.op rfl (Rd.moveT rfl) ?_
  refine PL.callM false [] (w_S_find N p_list p_name r1 h_2) rfl Try.call51 rfl ⟨.t _, .t _, trivial⟩ rfl trivial (fun h => by cases h) ?_
  refine PL.op rfl (Rd.asnT rfl) ?_
  refine PL.nil ?_
  refine thA_n ?_
  refine PC.seq ?_
  rcases cond_some hh0 with ⟨h_3, hh0⟩ | ⟨h_3, hh0⟩
  rotate_left
  · refine PC.region ?_
    refine PL.op rfl (Rd.moveT rfl) ?_
    refine PL.op rfl (Rd.geq rfl rfl) ?_
    refine PL.op rfl (Rd.moveT rfl) ?_
    refine PL.guard_off rfl rfl h_3 ?_
    refine PL.guard_off rfl rfl h_3 ?_
    refine PL.guard_off rfl rfl h_3 ?_
    refine PL.guard_off rfl rfl h_3 ?_
    refine PL.guard_off rfl rfl h_3 ?_
    refine PL.guard_off rfl rfl h_3 ?_
    refine PL.op rfl (Rd.pick_f rfl h_3) ?_
    refine PL.op rfl (Rd.asnT rfl) ?_
    refine PL.nil ?_
    refine thA_n ?_
    refine PC.ret ?_
    obtain rfl := some_in hh0
    exact FinA.mk (r := bA false) (bl := []) [] (.inl rfl) rfl (rl := [.tmp 4]) (.tmp .nil) rfl rfl rfl (.t _) trivial ⟨rfl, rfl⟩
  obtain ⟨x4, h_5, hh0⟩ := bind_some hh0
  refine PC.region ?_
  refine PL.op rfl (Rd.moveT rfl) ?_
  refine PL.op rfl (Rd.geq rfl rfl) ?_
  refine PL.op rfl (Rd.moveT rfl) ?_
  refine PL.guard_on rfl h_3 ?_
  refine PL.op rfl (Rd.moveT rfl) ?_
  refine PL.guard_on rfl h_3 ?_
  refine PL.op rfl (Rd.moveT rfl) ?_
  refine PL.guard_on rfl h_3 ?_
  refine PL.op rfl (Rd.ixM rfl rfl h_5) ?_
  refine PL.guard_on rfl h_3 ?_
  refine PL.op rfl (Rd.fieldT rfl) ?_
  refine PL.guard_on rfl h_3 ?_
  refine PL.op rfl (Rd.elMF (f := 1) rfl h_5 rfl rfl) ?_
  refine PL.guard_on rfl h_3 ?_
  refine PL.op rfl (Rd.eqlS rfl rfl) ?_
  refine PL.op rfl (Rd.pick_t rfl h_3) ?_
  refine PL.op rfl (Rd.asnT rfl) ?_
  refine PL.nil ?_
  refine thA_n ?_
  refine PC.ret ?_
  obtain rfl := some_in hh0
  exact FinA.mk (r := bA (x4.table.toList == ByteArray.empty.toList)) (bl := []) [] (.inl rfl) rfl (rl := [.tmp 4]) (.tmp .nil) rfl rfl rfl (.t _) trivial ⟨rfl, rfl⟩

def m_S_validCatalog_k1 (N : Nat) (p_list : (List I_Entry)) : Option (Bool) :=
  some (decide ((p_list.length : Int) ≤ (12 : Int)))
def m_S_validCatalog_b1 (N : Nat) (p_list : (List I_Entry)) (e1 : Int) : Option (Int ⊕ (Unit ⊕ Bool)) :=
  cond (decide (e1 < (p_list.length : Int)))
    ((ixI p_list e1).bind fun x29 =>
    (m_S_validName N x29.name).bind fun r31 =>
    cond r31
      ((m_S_find N p_list x29.name).bind fun r34 =>
      cond (decide (r34 = e1))
        ((m_S_inRange N x29.state (0 : Int) (2 : Int)).bind fun r37 =>
        cond r37
          (cond (x29.table.toList == ByteArray.empty.toList)
            (cond (decide (x29.state = (1 : Int)))
              ((chk (e1 + (1 : Int))).bind fun n42 =>
              some (.inl n42))
              (some (.inr (.inr false))))
            ((m_S_isTable N p_list x29.table).bind fun r44 =>
            cond r44
              ((chk (e1 + (1 : Int))).bind fun n47 =>
              some (.inl n47))
              (some (.inr (.inr false)))))
          (some (.inr (.inr false))))
        (some (.inr (.inr false))))
      (some (.inr (.inr false))))
    (some (.inr (.inl ())))
def m_S_validCatalog (N : Nat) (p_list : (List I_Entry)) : Option (Bool) :=
  (loopM (β := Unit ⊕ Bool) (fun s : Int => m_S_validCatalog_b1 N p_list s) N (0 : Int)).bind fun o => match o with
  | .inl e =>
    m_S_validCatalog_k1 N p_list 
  | .inr v =>
    some v
theorem w_S_validCatalog (N : Nat) (p_list : (List I_Entry)) (r : Bool) (hh0 : m_S_validCatalog N p_list = some r) : FnX Try.prog 30 [] [sL p_list] (RE (bA r) []) := by
  unfold m_S_validCatalog at hh0
  refine FnX.mk Try.func30 rfl rfl ?_
  intro s hs
  refine PC.seq ?_
  refine PC.region ?_
  refine PL.op rfl (Rd.asnT rfl) ?_
  refine PL.nil ?_
  refine thA_n ?_
  refine PC.seq ?_
  refine PC.seq ?_
  refine PC.region ?_
  refine PL.op rfl (Rd.asnT rfl) ?_
  refine PL.nil ?_
  refine thA_n ?_
  obtain ⟨o23, h_24, hh0⟩ := bind_some hh0
  refine PC.cutE hs (fun x : Unit => [(0, sL p_list)]) (fun x => []) (fun x => m_S_validCatalog_k1 N p_list  = some r) ?_ ?_
  · refine PC.block ?_
    refine PC.loop hs (fun x : Nat × (Int) => [(0, sL p_list), (3, iA x.2)]) (fun x => []) (fun x => loopM (β := Unit ⊕ Bool) (fun s : Int => m_S_validCatalog_b1 N p_list s) x.1 x.2 = some o23) (fun x => x.1) (N, (0 : Int)) [] ⟨rfl, rfl, trivial, ⟨.t _, .t _, trivial⟩⟩ h_24 ?_
    rintro ⟨f25_, e1⟩ h_27
    obtain ⟨f25, y26, rfl, hh1, kk1⟩ := loopM_some h_27
    replace hh1 : m_S_validCatalog_b1 N p_list e1 = some y26 := hh1
    unfold m_S_validCatalog_b1 at hh1
    refine PC.seq ?_
    refine PC.seq ?_
    refine PC.region ?_
    refine PL.op rfl (Rd.moveT rfl) ?_
    refine PL.op rfl (Rd.moveT rfl) ?_
    refine PL.op rfl (Rd.lenT rfl) ?_
    refine PL.op rfl (Rd.lss rfl rfl) ?_
    refine PL.nil ?_
    refine thA_n ?_
    rcases cond_some hh1 with ⟨h_28, hh1⟩ | ⟨h_28, hh1⟩
    rotate_left
    · refine PC.cond_false rfl h_28 ?_
      refine PC.exit ?_
      refine thA_e ?_
      refine thA_e ?_
      refine inA_eq rfl ?_
      refine thA_n ?_
      obtain rfl := some_in hh1
      obtain rfl : (.inl () : Unit ⊕ Bool) = o23 := kk1
      exact ⟨(), hh0, [], ⟨rfl, rfl, trivial, ⟨.t _, trivial⟩⟩⟩
    refine PC.cond_true rfl h_28 ?_
    refine PC.skip ?_
    refine thA_n ?_
    refine PC.seq ?_
    refine PC.block ?_
    refine PC.seq ?_
    obtain ⟨x29, h_30, hh1⟩ := bind_some hh1
    refine PC.region ?_
    refine PL.op rfl (Rd.moveT rfl) ?_
    refine PL.op rfl (Rd.moveT rfl) ?_
    refine PL.op rfl (Rd.ixM rfl rfl h_30) ?_
    refine PL.op rfl (Rd.elMR rfl h_30 rfl rfl) ?_
    refine PL.ef rfl (Ef.alloc rfl rfl) ?_
    refine PL.nm (.op 0 0) [some ⟨.mx [sA ByteArray.empty, sA ByteArray.empty, iA (0 : Int)], 62, 0⟩] rfl rfl ?_
    refine PL.store rfl rfl rfl rfl rfl rfl rfl ?_
    refine PL.nO [some ⟨.mx [sA x29.name, sA x29.table, iA x29.state], 62, 0⟩] rfl ?_
    refine PL.nil ?_
    refine thA_n ?_
    refine PC.seq ?_
    refine PC.seq ?_
    obtain ⟨r31, h_32, hh1⟩ := bind_some hh1
    rcases cond_some hh1 with ⟨h_33, hh1⟩ | ⟨h_33, hh1⟩
    rotate_left
    · refine PC.region ?_
      refine PL.op rfl (Rd.fieldO rfl rfl) ?_
      refine PL.op rfl (Rd.loadO rfl rfl rfl) ?_
      refine PL.callM false [] (w_S_validName N x29.name r31 h_32) rfl Try.call50 rfl ⟨.t _, trivial⟩ rfl trivial (fun h => by cases h) ?_
      refine PL.op rfl (Rd.unnot rfl) ?_
      refine PL.op rfl (Rd.moveT rfl) ?_
      refine PL.guard_off rfl rfl (not_f h_33) ?_
      refine PL.guard_off rfl rfl (not_f h_33) ?_
      refine PL.guard_off rfl rfl (not_f h_33) ?_
      refine PL.guard_off rfl rfl (not_f h_33) ?_
      refine PL.guard_off rfl rfl (not_f h_33) ?_
      refine PL.guard_off rfl rfl (not_f h_33) ?_
      refine PL.op rfl (Rd.pick_t rfl (not_f h_33)) ?_
      refine PL.op rfl (Rd.moveT rfl) ?_
      refine PL.guard_off rfl rfl rfl ?_
      refine PL.guard_off rfl rfl rfl ?_
      refine PL.guard_off rfl rfl rfl ?_
      refine PL.guard_off rfl rfl rfl ?_
      refine PL.op rfl (Rd.pick_t rfl rfl) ?_
      refine PL.nil ?_
      refine thA_n ?_
      refine PC.cond_true rfl rfl ?_
      refine PC.seq ?_
      refine PC.region ?_
      refine PL.op rfl (Rd.asnT rfl) ?_
      refine PL.nil ?_
      refine thA_n ?_
      refine PC.ret ?_
      refine thA_r ?_
      refine inA_r ?_
      refine thA_r ?_
      refine thA_r ?_
      refine inA_r ?_
      refine thA_r ?_
      obtain rfl := some_in hh1
      obtain rfl : (.inr false : Unit ⊕ Bool) = o23 := kk1
      refine thA_r ?_
      obtain rfl := some_in hh0
      exact FinA.mk (r := bA false) (bl := []) [] (.inl rfl) rfl (rl := [.tmp 2]) (.tmp .nil) rfl rfl rfl (.t _) trivial ⟨rfl, rfl⟩
    obtain ⟨r34, h_35, hh1⟩ := bind_some hh1
    rcases cond_some hh1 with ⟨h_36, hh1⟩ | ⟨h_36, hh1⟩
    rotate_left
    · refine PC.region ?_
      refine PL.op rfl (Rd.fieldO rfl rfl) ?_
      refine PL.op rfl (Rd.loadO rfl rfl rfl) ?_
      refine PL.callM false [] (w_S_validName N x29.name r31 h_32) rfl Try.call50 rfl ⟨.t _, trivial⟩ rfl trivial (fun h => by cases h) ?_
      refine PL.op rfl (Rd.unnot rfl) ?_
      refine PL.op rfl (Rd.moveT rfl) ?_
      refine PL.guard_on rfl (not_t h_33) ?_
      refine PL.op rfl (Rd.moveT rfl) ?_
      refine PL.guard_on rfl (not_t h_33) ?_
      refine PL.op rfl (Rd.fieldO rfl rfl) ?_
      refine PL.guard_on rfl (not_t h_33) ?_
      refine PL.op rfl (Rd.loadO rfl rfl rfl) ?_
      refine PL.guard_on rfl (not_t h_33) ?_
      refine PL.callM false [] (w_S_find N p_list x29.name r34 h_35) rfl Try.call51 rfl ⟨.t _, .t _, trivial⟩ rfl trivial (fun h => by cases h) ?_
      refine PL.guard_on rfl (not_t h_33) ?_
      refine PL.op rfl (Rd.moveT rfl) ?_
      refine PL.guard_on rfl (not_t h_33) ?_
      refine PL.op rfl (Rd.neq rfl rfl) ?_
      refine PL.op rfl (Rd.pick_f rfl (not_t h_33)) ?_
      refine PL.op rfl (Rd.moveT rfl) ?_
      refine PL.guard_off rfl rfl (not_f h_36) ?_
      refine PL.guard_off rfl rfl (not_f h_36) ?_
      refine PL.guard_off rfl rfl (not_f h_36) ?_
      refine PL.guard_off rfl rfl (not_f h_36) ?_
      refine PL.op rfl (Rd.pick_t rfl (not_f h_36)) ?_
      refine PL.nil ?_
      refine thA_n ?_
      refine PC.cond_true rfl rfl ?_
      refine PC.seq ?_
      refine PC.region ?_
      refine PL.op rfl (Rd.asnT rfl) ?_
      refine PL.nil ?_
      refine thA_n ?_
      refine PC.ret ?_
      refine thA_r ?_
      refine inA_r ?_
      refine thA_r ?_
      refine thA_r ?_
      refine inA_r ?_
      refine thA_r ?_
      obtain rfl := some_in hh1
      obtain rfl : (.inr false : Unit ⊕ Bool) = o23 := kk1
      refine thA_r ?_
      obtain rfl := some_in hh0
      exact FinA.mk (r := bA false) (bl := []) [] (.inl rfl) rfl (rl := [.tmp 2]) (.tmp .nil) rfl rfl rfl (.t _) trivial ⟨rfl, rfl⟩
    obtain ⟨r37, h_38, hh1⟩ := bind_some hh1
    refine PC.region ?_
    refine PL.op rfl (Rd.fieldO rfl rfl) ?_
    refine PL.op rfl (Rd.loadO rfl rfl rfl) ?_
    refine PL.callM false [] (w_S_validName N x29.name r31 h_32) rfl Try.call50 rfl ⟨.t _, trivial⟩ rfl trivial (fun h => by cases h) ?_
    refine PL.op rfl (Rd.unnot rfl) ?_
    refine PL.op rfl (Rd.moveT rfl) ?_
    refine PL.guard_on rfl (not_t h_33) ?_
    refine PL.op rfl (Rd.moveT rfl) ?_
    refine PL.guard_on rfl (not_t h_33) ?_
    refine PL.op rfl (Rd.fieldO rfl rfl) ?_
    refine PL.guard_on rfl (not_t h_33) ?_
    refine PL.op rfl (Rd.loadO rfl rfl rfl) ?_
    refine PL.guard_on rfl (not_t h_33) ?_
    refine PL.callM false [] (w_S_find N p_list x29.name r34 h_35) rfl Try.call51 rfl ⟨.t _, .t _, trivial⟩ rfl trivial (fun h => by cases h) ?_
    refine PL.guard_on rfl (not_t h_33) ?_
    refine PL.op rfl (Rd.moveT rfl) ?_
    refine PL.guard_on rfl (not_t h_33) ?_
    refine PL.op rfl (Rd.neq rfl rfl) ?_
    refine PL.op rfl (Rd.pick_f rfl (not_t h_33)) ?_
    refine PL.op rfl (Rd.moveT rfl) ?_
    refine PL.guard_on rfl (not_t h_36) ?_
    refine PL.op rfl (Rd.fieldO rfl rfl) ?_
    refine PL.guard_on rfl (not_t h_36) ?_
    refine PL.op rfl (Rd.loadO rfl rfl rfl) ?_
    refine PL.guard_on rfl (not_t h_36) ?_
    refine PL.callM false [] (w_S_inRange N x29.state (0 : Int) (2 : Int) r37 h_38) rfl Try.call52 rfl ⟨.t _, .t _, .t _, trivial⟩ rfl trivial (fun h => by cases h) ?_
    refine PL.guard_on rfl (not_t h_36) ?_
    refine PL.op rfl (Rd.unnot rfl) ?_
    refine PL.op rfl (Rd.pick_f rfl (not_t h_36)) ?_
    refine PL.nil ?_
    refine thA_n ?_
    rcases cond_some hh1 with ⟨h_39, hh1⟩ | ⟨h_39, hh1⟩
    rotate_left
    · refine PC.cond_true rfl (not_f h_39) ?_
      refine PC.seq ?_
      refine PC.region ?_
      refine PL.op rfl (Rd.asnT rfl) ?_
      refine PL.nil ?_
      refine thA_n ?_
      refine PC.ret ?_
      refine thA_r ?_
      refine inA_r ?_
      refine thA_r ?_
      refine thA_r ?_
      refine inA_r ?_
      refine thA_r ?_
      obtain rfl := some_in hh1
      obtain rfl : (.inr false : Unit ⊕ Bool) = o23 := kk1
      refine thA_r ?_
      obtain rfl := some_in hh0
      exact FinA.mk (r := bA false) (bl := []) [] (.inl rfl) rfl (rl := [.tmp 2]) (.tmp .nil) rfl rfl rfl (.t _) trivial ⟨rfl, rfl⟩
    refine PC.cond_false rfl (not_t h_39) ?_
    refine PC.skip ?_
    refine thA_n ?_
    refine PC.seq ?_
    refine PC.seq ?_
    rcases cond_some hh1 with ⟨h_40, hh1⟩ | ⟨h_40, hh1⟩
    · refine PC.region ?_
      refine PL.op rfl (Rd.fieldO rfl rfl) ?_
      refine PL.op rfl (Rd.loadO rfl rfl rfl) ?_
      refine PL.op rfl (Rd.eqlS rfl rfl) ?_
      refine PL.op rfl (Rd.moveT rfl) ?_
      refine PL.guard_on rfl h_40 ?_
      refine PL.op rfl (Rd.fieldO rfl rfl) ?_
      refine PL.guard_on rfl h_40 ?_
      refine PL.op rfl (Rd.loadO rfl rfl rfl) ?_
      refine PL.guard_on rfl h_40 ?_
      refine PL.op rfl (Rd.neq rfl rfl) ?_
      refine PL.op rfl (Rd.pick_t rfl h_40) ?_
      refine PL.nil ?_
      refine thA_n ?_
      rcases cond_some hh1 with ⟨h_41, hh1⟩ | ⟨h_41, hh1⟩
      rotate_left
      · refine PC.cond_true rfl (not_f h_41) ?_
        refine PC.seq ?_
        refine PC.region ?_
        refine PL.op rfl (Rd.asnT rfl) ?_
        refine PL.nil ?_
        refine thA_n ?_
        refine PC.ret ?_
        refine thA_r ?_
        refine inA_r ?_
        refine thA_r ?_
        refine thA_r ?_
        refine inA_r ?_
        refine thA_r ?_
        obtain rfl := some_in hh1
        obtain rfl : (.inr false : Unit ⊕ Bool) = o23 := kk1
        refine thA_r ?_
        obtain rfl := some_in hh0
        exact FinA.mk (r := bA false) (bl := []) [] (.inl rfl) rfl (rl := [.tmp 2]) (.tmp .nil) rfl rfl rfl (.t _) trivial ⟨rfl, rfl⟩
      refine PC.cond_false rfl (not_t h_41) ?_
      refine PC.skip ?_
      refine thA_n ?_
      refine PC.seq ?_
      refine PC.region ?_
      refine PL.op rfl (Rd.fieldO rfl rfl) ?_
      refine PL.op rfl (Rd.loadO rfl rfl rfl) ?_
      refine PL.op rfl (Rd.neqS rfl rfl) ?_
      refine PL.op rfl (Rd.moveT rfl) ?_
      refine PL.guard_off rfl rfl (not_t h_40) ?_
      refine PL.guard_off rfl rfl (not_t h_40) ?_
      refine PL.guard_off rfl rfl (not_t h_40) ?_
      refine PL.guard_off rfl rfl (not_t h_40) ?_
      refine PL.guard_off rfl rfl (not_t h_40) ?_
      refine PL.op rfl (Rd.pick_f rfl (not_t h_40)) ?_
      refine PL.nil ?_
      refine thA_n ?_
      refine PC.cond_false rfl rfl ?_
      refine PC.skip ?_
      refine inA_n ?_
      refine thA_n ?_
      obtain ⟨n42, h_43, hh1⟩ := bind_some hh1
      refine PC.region ?_
      refine PL.op rfl (Rd.moveT rfl) ?_
      refine PL.op rfl (Rd.addM rfl rfl h_43) ?_
      refine PL.op rfl (Rd.asnT rfl) ?_
      refine PL.nil ?_
      obtain rfl := some_in hh1
      refine thA_n ?_
      exact ⟨(f25, n42), Nat.lt_succ_self _, kk1, [], ⟨rfl, rfl, trivial, ⟨.t _, .t _, trivial⟩⟩⟩
    refine PC.region ?_
    refine PL.op rfl (Rd.fieldO rfl rfl) ?_
    refine PL.op rfl (Rd.loadO rfl rfl rfl) ?_
    refine PL.op rfl (Rd.eqlS rfl rfl) ?_
    refine PL.op rfl (Rd.moveT rfl) ?_
    refine PL.guard_off rfl rfl h_40 ?_
    refine PL.guard_off rfl rfl h_40 ?_
    refine PL.guard_off rfl rfl h_40 ?_
    refine PL.op rfl (Rd.pick_f rfl h_40) ?_
    refine PL.nil ?_
    refine thA_n ?_
    refine PC.cond_false rfl rfl ?_
    refine PC.skip ?_
    refine thA_n ?_
    refine PC.seq ?_
    obtain ⟨r44, h_45, hh1⟩ := bind_some hh1
    refine PC.region ?_
    refine PL.op rfl (Rd.fieldO rfl rfl) ?_
    refine PL.op rfl (Rd.loadO rfl rfl rfl) ?_
    refine PL.op rfl (Rd.neqS rfl rfl) ?_
    refine PL.op rfl (Rd.moveT rfl) ?_
    refine PL.guard_on rfl (not_f h_40) ?_
    refine PL.op rfl (Rd.moveT rfl) ?_
    refine PL.guard_on rfl (not_f h_40) ?_
    refine PL.op rfl (Rd.fieldO rfl rfl) ?_
    refine PL.guard_on rfl (not_f h_40) ?_
    refine PL.op rfl (Rd.loadO rfl rfl rfl) ?_
    refine PL.guard_on rfl (not_f h_40) ?_
    refine PL.callM false [] (w_S_isTable N p_list x29.table r44 h_45) rfl Try.call31 rfl ⟨.t _, .t _, trivial⟩ rfl trivial (fun h => by cases h) ?_
    refine PL.guard_on rfl (not_f h_40) ?_
    refine PL.op rfl (Rd.unnot rfl) ?_
    refine PL.op rfl (Rd.pick_t rfl (not_f h_40)) ?_
    refine PL.nil ?_
    refine thA_n ?_
    rcases cond_some hh1 with ⟨h_46, hh1⟩ | ⟨h_46, hh1⟩
    · refine PC.cond_false rfl (not_t h_46) ?_
      refine PC.skip ?_
      refine inA_n ?_
      refine thA_n ?_
      obtain ⟨n47, h_48, hh1⟩ := bind_some hh1
      refine PC.region ?_
      refine PL.op rfl (Rd.moveT rfl) ?_
      refine PL.op rfl (Rd.addM rfl rfl h_48) ?_
      refine PL.op rfl (Rd.asnT rfl) ?_
      refine PL.nil ?_
      obtain rfl := some_in hh1
      refine thA_n ?_
      exact ⟨(f25, n47), Nat.lt_succ_self _, kk1, [], ⟨rfl, rfl, trivial, ⟨.t _, .t _, trivial⟩⟩⟩
    refine PC.cond_true rfl (not_f h_46) ?_
    refine PC.seq ?_
    refine PC.region ?_
    refine PL.op rfl (Rd.asnT rfl) ?_
    refine PL.nil ?_
    refine thA_n ?_
    refine PC.ret ?_
    refine inA_r ?_
    refine thA_r ?_
    refine thA_r ?_
    refine inA_r ?_
    refine thA_r ?_
    obtain rfl := some_in hh1
    obtain rfl : (.inr false : Unit ⊕ Bool) = o23 := kk1
    refine thA_r ?_
    obtain rfl := some_in hh0
    exact FinA.mk (r := bA false) (bl := []) [] (.inl rfl) rfl (rl := [.tmp 2]) (.tmp .nil) rfl rfl rfl (.t _) trivial ⟨rfl, rfl⟩
  clear hh0
  rintro ⟨⟩ hh0
  replace hh0 : m_S_validCatalog_k1 N p_list  = some r := hh0
  unfold m_S_validCatalog_k1 at hh0
  refine thA_n ?_
  refine PC.seq ?_
  refine PC.region ?_
  refine PL.op rfl (Rd.moveT rfl) ?_
  refine PL.op rfl (Rd.lenT rfl) ?_
  refine PL.op rfl (Rd.leq rfl rfl) ?_
  refine PL.op rfl (Rd.asnT rfl) ?_
  refine PL.nil ?_
  refine thA_n ?_
  refine PC.ret ?_
  obtain rfl := some_in hh0
  exact FinA.mk (r := bA (decide ((p_list.length : Int) ≤ (12 : Int)))) (bl := []) [] (.inl rfl) rfl (rl := [.tmp 2]) (.tmp .nil) rfl rfl rfl (.t _) trivial ⟨rfl, rfl⟩

def m_S_UsableIndexes_k1 (N : Nat) (v48 : (List ByteArray)) : Option ((List ByteArray)) :=
  some v48
def m_S_UsableIndexes_b1 (N : Nat) (p_list : (List I_Entry)) (p_table : ByteArray) (p_changes : Bool) (i7 : Int) (v8 : (List ByteArray)) : Option ((Int × (List ByteArray)) ⊕ (List ByteArray)) :=
  cond (decide (i7 < (p_list.length : Int)))
    ((ixI p_list i7).bind fun x55 =>
    cond (decide (x55.state = (1 : Int)))
      ((ixI p_list i7).bind fun x61 =>
      cond (x61.table.toList == p_table.toList)
        ((ixI p_list i7).bind fun x64 =>
        (appM 16 v8 [x64.name]).bind fun xs66 =>
        (chk (i7 + (1 : Int))).bind fun n68 =>
        some (.inl (n68, xs66)))
        ((chk (i7 + (1 : Int))).bind fun n70 =>
        some (.inl (n70, v8))))
      (cond p_changes
        ((ixI p_list i7).bind fun x59 =>
        (ixI p_list i7).bind fun x72 =>
        cond (x72.table.toList == p_table.toList)
          (cond (decide (x59.state = (0 : Int)))
            ((ixI p_list i7).bind fun x76 =>
            (appM 16 v8 [x76.name]).bind fun xs78 =>
            (chk (i7 + (1 : Int))).bind fun n80 =>
            some (.inl (n80, xs78)))
            ((chk (i7 + (1 : Int))).bind fun n82 =>
            some (.inl (n82, v8))))
          ((chk (i7 + (1 : Int))).bind fun n84 =>
          some (.inl (n84, v8))))
        ((ixI p_list i7).bind fun x86 =>
        cond (x86.table.toList == p_table.toList)
          ((chk (i7 + (1 : Int))).bind fun n89 =>
          some (.inl (n89, v8)))
          ((chk (i7 + (1 : Int))).bind fun n91 =>
          some (.inl (n91, v8))))))
    (some (.inr v8))
def m_S_UsableIndexes (N : Nat) (p_list : (List I_Entry)) (p_table : ByteArray) (p_changes : Bool) : Option ((List ByteArray)) :=
  (m_S_validCatalog N p_list).bind fun r1 =>
  cond r1
    ((m_S_isTable N p_list p_table).bind fun r4 =>
    cond r4
      ((loopM (β := (List ByteArray)) (fun s : Int × (List ByteArray) => m_S_UsableIndexes_b1 N p_list p_table p_changes s.1 s.2) N ((0 : Int), ([] : List ByteArray))).bind fun e =>
      m_S_UsableIndexes_k1 N e)
      (some ([] : List ByteArray)))
    (some ([] : List ByteArray))
theorem w_S_UsableIndexes (N : Nat) (p_list : (List I_Entry)) (p_table : ByteArray) (p_changes : Bool) (r : (List ByteArray)) (hh0 : m_S_UsableIndexes N p_list p_table p_changes = some r) : FnX Try.prog 7 [] [sL p_list, sA p_table, bA p_changes] (RE (.os 0 0 r.length) [⟨.tr (eL r), 9, 1⟩]) := by
  unfold m_S_UsableIndexes at hh0
  refine FnX.mk Try.func7 rfl rfl ?_
  intro s hs
  refine PC.seq ?_
  refine PC.region ?_
  refine PL.op rfl (Rd.asnT rfl) ?_
  refine PL.nil ?_
  refine thA_n ?_
  refine PC.seq ?_
  refine PC.region ?_
  refine PL.ef rfl (Ef.lit0M ByteArray) ?_
  refine PL.nm (.os 0 0 0) [some ⟨.tr (eL ([] : List ByteArray)), 9, 1⟩] rfl rfl ?_
  refine PL.op rfl (Rd.asnO rfl) ?_
  refine PL.nil ?_
  refine thA_n ?_
  refine PC.seq ?_
  refine PC.seq ?_
  obtain ⟨r1, h_2, hh0⟩ := bind_some hh0
  rcases cond_some hh0 with ⟨h_3, hh0⟩ | ⟨h_3, hh0⟩
  rotate_left
  · refine PC.region ?_
    refine PL.op rfl (Rd.moveT rfl) ?_
    refine PL.callM false [] (w_S_validCatalog N p_list r1 h_2) rfl Try.call30 rfl ⟨.t _, trivial⟩ rfl trivial (fun h => by cases h) ?_
    refine PL.op rfl (Rd.unnot rfl) ?_
    refine PL.op rfl (Rd.moveT rfl) ?_
    refine PL.guard_off rfl rfl (not_f h_3) ?_
    refine PL.guard_off rfl rfl (not_f h_3) ?_
    refine PL.guard_off rfl rfl (not_f h_3) ?_
    refine PL.guard_off rfl rfl (not_f h_3) ?_
    refine PL.op rfl (Rd.pick_t rfl (not_f h_3)) ?_
    refine PL.nil ?_
    refine thA_n ?_
    refine PC.cond_true rfl rfl ?_
    refine PC.seq ?_
    refine PC.region ?_
    refine PL.op rfl (Rd.asnT rfl) ?_
    refine PL.nil ?_
    refine thA_n ?_
    refine PC.ret ?_
    refine thA_r ?_
    obtain rfl := some_in hh0
    exact FinA.mk (r := .os 0 0 0) (bl := [⟨.tr (eL ([] : List ByteArray)), 9, 1⟩]) [none] (.inl rfl) rfl (rl := [.tmp 6]) (.tmp .nil) rfl rfl rfl (.osn rfl) ⟨ow_nil _, trivial⟩ ⟨rfl, rfl⟩
  obtain ⟨r4, h_5, hh0⟩ := bind_some hh0
  refine PC.region ?_
  refine PL.op rfl (Rd.moveT rfl) ?_
  refine PL.callM false [] (w_S_validCatalog N p_list r1 h_2) rfl Try.call30 rfl ⟨.t _, trivial⟩ rfl trivial (fun h => by cases h) ?_
  refine PL.op rfl (Rd.unnot rfl) ?_
  refine PL.op rfl (Rd.moveT rfl) ?_
  refine PL.guard_on rfl (not_t h_3) ?_
  refine PL.op rfl (Rd.moveT rfl) ?_
  refine PL.guard_on rfl (not_t h_3) ?_
  refine PL.op rfl (Rd.moveT rfl) ?_
  refine PL.guard_on rfl (not_t h_3) ?_
  refine PL.callM false [] (w_S_isTable N p_list p_table r4 h_5) rfl Try.call31 rfl ⟨.t _, .t _, trivial⟩ rfl trivial (fun h => by cases h) ?_
  refine PL.guard_on rfl (not_t h_3) ?_
  refine PL.op rfl (Rd.unnot rfl) ?_
  refine PL.op rfl (Rd.pick_f rfl (not_t h_3)) ?_
  refine PL.nil ?_
  refine thA_n ?_
  rcases cond_some hh0 with ⟨h_6, hh0⟩ | ⟨h_6, hh0⟩
  rotate_left
  · refine PC.cond_true rfl (not_f h_6) ?_
    refine PC.seq ?_
    refine PC.region ?_
    refine PL.op rfl (Rd.asnT rfl) ?_
    refine PL.nil ?_
    refine thA_n ?_
    refine PC.ret ?_
    refine thA_r ?_
    obtain rfl := some_in hh0
    exact FinA.mk (r := .os 0 0 0) (bl := [⟨.tr (eL ([] : List ByteArray)), 9, 1⟩]) [none] (.inl rfl) rfl (rl := [.tmp 6]) (.tmp .nil) rfl rfl rfl (.osn rfl) ⟨ow_nil _, trivial⟩ ⟨rfl, rfl⟩
  refine PC.cond_false rfl (not_t h_6) ?_
  refine PC.skip ?_
  refine thA_n ?_
  refine PC.seq ?_
  refine PC.seq ?_
  refine PC.region ?_
  refine PL.op rfl (Rd.asnT rfl) ?_
  refine PL.nil ?_
  refine thA_n ?_
  obtain ⟨o49, h_50, hh0⟩ := bind_some hh0
  refine PC.cutE hs (fun x : (List ByteArray) => [(7, .os 0 0 x.length)]) (fun x => [⟨.tr (eL x), 9, 1⟩]) (fun x => m_S_UsableIndexes_k1 N x = some r) ?_ ?_
  · refine PC.block ?_
    refine PC.loop hs (fun x : Nat × (Int × (List ByteArray)) => [(0, sL p_list), (1, sA p_table), (2, bA p_changes), (7, .os 0 0 x.2.2.length), (8, iA x.2.1)]) (fun x => [⟨.tr (eL x.2.2), 9, 1⟩]) (fun x => loopM (β := (List ByteArray)) (fun s : Int × (List ByteArray) => m_S_UsableIndexes_b1 N p_list p_table p_changes s.1 s.2) x.1 x.2 = some o49) (fun x => x.1) (N, ((0 : Int), ([] : List ByteArray))) [some 0] ⟨rfl, rfl, ⟨⟨_, rfl, rfl, rfl, .tr _⟩, trivial⟩, ⟨.t _, .t _, .t _, .os rfl, .t _, trivial⟩⟩ h_50 ?_
    rintro ⟨f51_, i7, v8⟩ h_53
    obtain ⟨f51, y52, rfl, hh1, kk1⟩ := loopM_some h_53
    replace hh1 : m_S_UsableIndexes_b1 N p_list p_table p_changes i7 v8 = some y52 := hh1
    unfold m_S_UsableIndexes_b1 at hh1
    refine PC.seq ?_
    refine PC.seq ?_
    refine PC.region ?_
    refine PL.op rfl (Rd.moveT rfl) ?_
    refine PL.op rfl (Rd.moveT rfl) ?_
    refine PL.op rfl (Rd.lenT rfl) ?_
    refine PL.op rfl (Rd.lss rfl rfl) ?_
    refine PL.nil ?_
    refine thA_n ?_
    rcases cond_some hh1 with ⟨h_54, hh1⟩ | ⟨h_54, hh1⟩
    rotate_left
    · refine PC.cond_false rfl h_54 ?_
      refine PC.exit ?_
      refine thA_e ?_
      refine thA_e ?_
      refine inA_eq rfl ?_
      refine thA_n ?_
      obtain rfl := some_in hh1
      obtain rfl : (v8 : (List ByteArray)) = o49 := kk1
      exact ⟨v8, hh0, [some 0], ⟨rfl, rfl, ⟨⟨_, rfl, rfl, rfl, .tr _⟩, trivial⟩, ⟨.os rfl, trivial⟩⟩⟩
    refine PC.cond_true rfl h_54 ?_
    refine PC.skip ?_
    refine thA_n ?_
    refine PC.seq ?_
    refine PC.block ?_
    refine PC.seq ?_
    obtain ⟨x55, h_56, hh1⟩ := bind_some hh1
    rcases cond_some hh1 with ⟨h_57, hh1⟩ | ⟨h_57, hh1⟩
    · refine PC.region ?_
      refine PL.op rfl (Rd.moveT rfl) ?_
      refine PL.op rfl (Rd.moveT rfl) ?_
      refine PL.op rfl (Rd.ixM rfl rfl h_56) ?_
      refine PL.op rfl (Rd.fieldT rfl) ?_
      refine PL.op rfl (Rd.elMF (f := 2) rfl h_56 rfl rfl) ?_
      refine PL.op rfl (Rd.eql rfl rfl) ?_
      refine PL.op rfl (Rd.moveT rfl) ?_
      refine PL.guard_off rfl rfl h_57 ?_
      refine PL.guard_off rfl rfl h_57 ?_
      refine PL.guard_un rfl rfl ?_
      refine PL.guard_un rfl rfl ?_
      refine PL.guard_un rfl rfl ?_
      refine PL.guard_un rfl rfl ?_
      refine PL.guard_un rfl rfl ?_
      refine PL.guard_un rfl rfl ?_
      refine PL.guard_off rfl rfl h_57 ?_
      refine PL.op rfl (Rd.pick_t rfl h_57) ?_
      refine PL.op rfl (Rd.asnT rfl) ?_
      refine PL.nil ?_
      refine thA_n ?_
      refine PC.seq ?_
      obtain ⟨x61, h_62, hh1⟩ := bind_some hh1
      rcases cond_some hh1 with ⟨h_63, hh1⟩ | ⟨h_63, hh1⟩
      rotate_left
      · refine PC.region ?_
        refine PL.op rfl (Rd.moveT rfl) ?_
        refine PL.op rfl (Rd.moveT rfl) ?_
        refine PL.op rfl (Rd.ixM rfl rfl h_62) ?_
        refine PL.op rfl (Rd.fieldT rfl) ?_
        refine PL.op rfl (Rd.elMF (f := 1) rfl h_62 rfl rfl) ?_
        refine PL.op rfl (Rd.moveT rfl) ?_
        refine PL.op rfl (Rd.eqlS rfl rfl) ?_
        refine PL.op rfl (Rd.moveT rfl) ?_
        refine PL.guard_off rfl rfl h_63 ?_
        refine PL.op rfl (Rd.pick_f rfl h_63) ?_
        refine PL.nil ?_
        refine thA_n ?_
        refine PC.cond_false rfl rfl ?_
        refine PC.skip ?_
        refine inA_n ?_
        refine thA_n ?_
        obtain ⟨n70, h_71, hh1⟩ := bind_some hh1
        refine PC.region ?_
        refine PL.op rfl (Rd.moveT rfl) ?_
        refine PL.op rfl (Rd.addM rfl rfl h_71) ?_
        refine PL.op rfl (Rd.asnT rfl) ?_
        refine PL.nil ?_
        obtain rfl := some_in hh1
        refine thA_n ?_
        exact ⟨(f51, (n70, v8)), Nat.lt_succ_self _, kk1, [some 0], ⟨rfl, rfl, ⟨⟨_, rfl, rfl, rfl, .tr _⟩, trivial⟩, ⟨.t _, .t _, .t _, .os rfl, .t _, trivial⟩⟩⟩
      refine PC.region ?_
      refine PL.op rfl (Rd.moveT rfl) ?_
      refine PL.op rfl (Rd.moveT rfl) ?_
      refine PL.op rfl (Rd.ixM rfl rfl h_62) ?_
      refine PL.op rfl (Rd.fieldT rfl) ?_
      refine PL.op rfl (Rd.elMF (f := 1) rfl h_62 rfl rfl) ?_
      refine PL.op rfl (Rd.moveT rfl) ?_
      refine PL.op rfl (Rd.eqlS rfl rfl) ?_
      refine PL.op rfl (Rd.moveT rfl) ?_
      refine PL.guard_on rfl h_63 ?_
      refine PL.op rfl (Rd.moveT rfl) ?_
      refine PL.op rfl (Rd.pick_t rfl h_63) ?_
      refine PL.nil ?_
      refine thA_n ?_
      refine PC.cond_true rfl rfl ?_
      obtain ⟨x64, h_65, hh1⟩ := bind_some hh1
      obtain ⟨xs66, h_67, hh1⟩ := bind_some hh1
      refine PC.region ?_
      refine PL.op rfl (Rd.moveO rfl) ?_
      refine PL.op rfl (Rd.moveT rfl) ?_
      refine PL.op rfl (Rd.moveT rfl) ?_
      refine PL.op rfl (Rd.ixM rfl rfl h_65) ?_
      refine PL.op rfl (Rd.fieldT rfl) ?_
      refine PL.op rfl (Rd.elMF (f := 0) rfl h_65 rfl rfl) ?_
      refine PL.ef rfl (Ef.litM (α := ByteArray) [x64.name] [_] rfl rfl (by decide) rfl rfl rfl rfl) ?_
      refine PL.nm (.os 1 0 1) [some ⟨.tr (eL v8), 9, 1⟩, some ⟨.tr (eL [x64.name]), 9, 1⟩] rfl rfl ?_
      refine PL.apM hs rfl rfl rfl rfl (SrcA.ownE rfl rfl rfl) rfl rfl rfl rfl h_67 ?_
      refine PL.nm (.os 2 0 xs66.length) [none, some ⟨.tr (eL [x64.name]), 9, 1⟩, some ⟨.tr (eL xs66), 9, 1⟩] rfl rfl ?_
      refine PL.op rfl (Rd.asnO rfl) ?_
      refine PL.nil ?_
      refine inA_n ?_
      refine thA_n ?_
      obtain ⟨n68, h_69, hh1⟩ := bind_some hh1
      refine PC.region ?_
      refine PL.op rfl (Rd.moveT rfl) ?_
      refine PL.op rfl (Rd.addM rfl rfl h_69) ?_
      refine PL.op rfl (Rd.asnT rfl) ?_
      refine PL.nil ?_
      obtain rfl := some_in hh1
      refine thA_n ?_
      exact ⟨(f51, (n68, xs66)), Nat.lt_succ_self _, kk1, [some 2], ⟨rfl, rfl, ⟨⟨_, rfl, rfl, rfl, .tr _⟩, trivial⟩, ⟨.t _, .t _, .t _, .os rfl, .t _, trivial⟩⟩⟩
    rcases cond_some hh1 with ⟨h_58, hh1⟩ | ⟨h_58, hh1⟩
    rotate_left
    · refine PC.region ?_
      refine PL.op rfl (Rd.moveT rfl) ?_
      refine PL.op rfl (Rd.moveT rfl) ?_
      refine PL.op rfl (Rd.ixM rfl rfl h_56) ?_
      refine PL.op rfl (Rd.fieldT rfl) ?_
      refine PL.op rfl (Rd.elMF (f := 2) rfl h_56 rfl rfl) ?_
      refine PL.op rfl (Rd.eql rfl rfl) ?_
      refine PL.op rfl (Rd.moveT rfl) ?_
      refine PL.guard_on rfl h_57 ?_
      refine PL.op rfl (Rd.moveT rfl) ?_
      refine PL.guard_on rfl h_57 ?_
      refine PL.op rfl (Rd.moveT rfl) ?_
      refine PL.guard_off rfl rfl h_58 ?_
      refine PL.guard_off rfl rfl h_58 ?_
      refine PL.guard_off rfl rfl h_58 ?_
      refine PL.guard_off rfl rfl h_58 ?_
      refine PL.guard_off rfl rfl h_58 ?_
      refine PL.guard_off rfl rfl h_58 ?_
      refine PL.guard_on rfl h_57 ?_
      refine PL.op rfl (Rd.pick_f rfl h_58) ?_
      refine PL.op rfl (Rd.pick_f rfl h_57) ?_
      refine PL.op rfl (Rd.asnT rfl) ?_
      refine PL.nil ?_
      refine thA_n ?_
      refine PC.seq ?_
      obtain ⟨x86, h_87, hh1⟩ := bind_some hh1
      rcases cond_some hh1 with ⟨h_88, hh1⟩ | ⟨h_88, hh1⟩
      rotate_left
      · refine PC.region ?_
        refine PL.op rfl (Rd.moveT rfl) ?_
        refine PL.op rfl (Rd.moveT rfl) ?_
        refine PL.op rfl (Rd.ixM rfl rfl h_87) ?_
        refine PL.op rfl (Rd.fieldT rfl) ?_
        refine PL.op rfl (Rd.elMF (f := 1) rfl h_87 rfl rfl) ?_
        refine PL.op rfl (Rd.moveT rfl) ?_
        refine PL.op rfl (Rd.eqlS rfl rfl) ?_
        refine PL.op rfl (Rd.moveT rfl) ?_
        refine PL.guard_off rfl rfl h_88 ?_
        refine PL.op rfl (Rd.pick_f rfl h_88) ?_
        refine PL.nil ?_
        refine thA_n ?_
        refine PC.cond_false rfl rfl ?_
        refine PC.skip ?_
        refine inA_n ?_
        refine thA_n ?_
        obtain ⟨n91, h_92, hh1⟩ := bind_some hh1
        refine PC.region ?_
        refine PL.op rfl (Rd.moveT rfl) ?_
        refine PL.op rfl (Rd.addM rfl rfl h_92) ?_
        refine PL.op rfl (Rd.asnT rfl) ?_
        refine PL.nil ?_
        obtain rfl := some_in hh1
        refine thA_n ?_
        exact ⟨(f51, (n91, v8)), Nat.lt_succ_self _, kk1, [some 0], ⟨rfl, rfl, ⟨⟨_, rfl, rfl, rfl, .tr _⟩, trivial⟩, ⟨.t _, .t _, .t _, .os rfl, .t _, trivial⟩⟩⟩
      refine PC.region ?_
      refine PL.op rfl (Rd.moveT rfl) ?_
      refine PL.op rfl (Rd.moveT rfl) ?_
      refine PL.op rfl (Rd.ixM rfl rfl h_87) ?_
      refine PL.op rfl (Rd.fieldT rfl) ?_
      refine PL.op rfl (Rd.elMF (f := 1) rfl h_87 rfl rfl) ?_
      refine PL.op rfl (Rd.moveT rfl) ?_
      refine PL.op rfl (Rd.eqlS rfl rfl) ?_
      refine PL.op rfl (Rd.moveT rfl) ?_
      refine PL.guard_on rfl h_88 ?_
      refine PL.op rfl (Rd.moveT rfl) ?_
      refine PL.op rfl (Rd.pick_t rfl h_88) ?_
      refine PL.nil ?_
      refine thA_n ?_
      refine PC.cond_false rfl rfl ?_
      refine PC.skip ?_
      refine inA_n ?_
      refine thA_n ?_
      obtain ⟨n89, h_90, hh1⟩ := bind_some hh1
      refine PC.region ?_
      refine PL.op rfl (Rd.moveT rfl) ?_
      refine PL.op rfl (Rd.addM rfl rfl h_90) ?_
      refine PL.op rfl (Rd.asnT rfl) ?_
      refine PL.nil ?_
      obtain rfl := some_in hh1
      refine thA_n ?_
      exact ⟨(f51, (n89, v8)), Nat.lt_succ_self _, kk1, [some 0], ⟨rfl, rfl, ⟨⟨_, rfl, rfl, rfl, .tr _⟩, trivial⟩, ⟨.t _, .t _, .t _, .os rfl, .t _, trivial⟩⟩⟩
    obtain ⟨x59, h_60, hh1⟩ := bind_some hh1
    refine PC.region ?_
    refine PL.op rfl (Rd.moveT rfl) ?_
    refine PL.op rfl (Rd.moveT rfl) ?_
    refine PL.op rfl (Rd.ixM rfl rfl h_56) ?_
    refine PL.op rfl (Rd.fieldT rfl) ?_
    refine PL.op rfl (Rd.elMF (f := 2) rfl h_56 rfl rfl) ?_
    refine PL.op rfl (Rd.eql rfl rfl) ?_
    refine PL.op rfl (Rd.moveT rfl) ?_
    refine PL.guard_on rfl h_57 ?_
    refine PL.op rfl (Rd.moveT rfl) ?_
    refine PL.guard_on rfl h_57 ?_
    refine PL.op rfl (Rd.moveT rfl) ?_
    refine PL.guard_on rfl h_58 ?_
    refine PL.op rfl (Rd.moveT rfl) ?_
    refine PL.guard_on rfl h_58 ?_
    refine PL.op rfl (Rd.moveT rfl) ?_
    refine PL.guard_on rfl h_58 ?_
    refine PL.op rfl (Rd.ixM rfl rfl h_60) ?_
    refine PL.guard_on rfl h_58 ?_
    refine PL.op rfl (Rd.fieldT rfl) ?_
    refine PL.guard_on rfl h_58 ?_
    refine PL.op rfl (Rd.elMF (f := 2) rfl h_60 rfl rfl) ?_
    refine PL.guard_on rfl h_58 ?_
    refine PL.op rfl (Rd.eql rfl rfl) ?_
    refine PL.guard_on rfl h_57 ?_
    refine PL.op rfl (Rd.pick_t rfl h_58) ?_
    refine PL.op rfl (Rd.pick_f rfl h_57) ?_
    refine PL.op rfl (Rd.asnT rfl) ?_
    refine PL.nil ?_
    refine thA_n ?_
    refine PC.seq ?_
    obtain ⟨x72, h_73, hh1⟩ := bind_some hh1
    rcases cond_some hh1 with ⟨h_74, hh1⟩ | ⟨h_74, hh1⟩
    rotate_left
    · refine PC.region ?_
      refine PL.op rfl (Rd.moveT rfl) ?_
      refine PL.op rfl (Rd.moveT rfl) ?_
      refine PL.op rfl (Rd.ixM rfl rfl h_73) ?_
      refine PL.op rfl (Rd.fieldT rfl) ?_
      refine PL.op rfl (Rd.elMF (f := 1) rfl h_73 rfl rfl) ?_
      refine PL.op rfl (Rd.moveT rfl) ?_
      refine PL.op rfl (Rd.eqlS rfl rfl) ?_
      refine PL.op rfl (Rd.moveT rfl) ?_
      refine PL.guard_off rfl rfl h_74 ?_
      refine PL.op rfl (Rd.pick_f rfl h_74) ?_
      refine PL.nil ?_
      refine thA_n ?_
      refine PC.cond_false rfl rfl ?_
      refine PC.skip ?_
      refine inA_n ?_
      refine thA_n ?_
      obtain ⟨n84, h_85, hh1⟩ := bind_some hh1
      refine PC.region ?_
      refine PL.op rfl (Rd.moveT rfl) ?_
      refine PL.op rfl (Rd.addM rfl rfl h_85) ?_
      refine PL.op rfl (Rd.asnT rfl) ?_
      refine PL.nil ?_
      obtain rfl := some_in hh1
      refine thA_n ?_
      exact ⟨(f51, (n84, v8)), Nat.lt_succ_self _, kk1, [some 0], ⟨rfl, rfl, ⟨⟨_, rfl, rfl, rfl, .tr _⟩, trivial⟩, ⟨.t _, .t _, .t _, .os rfl, .t _, trivial⟩⟩⟩
    refine PC.region ?_
    refine PL.op rfl (Rd.moveT rfl) ?_
    refine PL.op rfl (Rd.moveT rfl) ?_
    refine PL.op rfl (Rd.ixM rfl rfl h_73) ?_
    refine PL.op rfl (Rd.fieldT rfl) ?_
    refine PL.op rfl (Rd.elMF (f := 1) rfl h_73 rfl rfl) ?_
    refine PL.op rfl (Rd.moveT rfl) ?_
    refine PL.op rfl (Rd.eqlS rfl rfl) ?_
    refine PL.op rfl (Rd.moveT rfl) ?_
    refine PL.guard_on rfl h_74 ?_
    refine PL.op rfl (Rd.moveT rfl) ?_
    refine PL.op rfl (Rd.pick_t rfl h_74) ?_
    refine PL.nil ?_
    refine thA_n ?_
    rcases cond_some hh1 with ⟨h_75, hh1⟩ | ⟨h_75, hh1⟩
    rotate_left
    · refine PC.cond_false rfl h_75 ?_
      refine PC.skip ?_
      refine inA_n ?_
      refine thA_n ?_
      obtain ⟨n82, h_83, hh1⟩ := bind_some hh1
      refine PC.region ?_
      refine PL.op rfl (Rd.moveT rfl) ?_
      refine PL.op rfl (Rd.addM rfl rfl h_83) ?_
      refine PL.op rfl (Rd.asnT rfl) ?_
      refine PL.nil ?_
      obtain rfl := some_in hh1
      refine thA_n ?_
      exact ⟨(f51, (n82, v8)), Nat.lt_succ_self _, kk1, [some 0], ⟨rfl, rfl, ⟨⟨_, rfl, rfl, rfl, .tr _⟩, trivial⟩, ⟨.t _, .t _, .t _, .os rfl, .t _, trivial⟩⟩⟩
    refine PC.cond_true rfl h_75 ?_
    obtain ⟨x76, h_77, hh1⟩ := bind_some hh1
    obtain ⟨xs78, h_79, hh1⟩ := bind_some hh1
    refine PC.region ?_
    refine PL.op rfl (Rd.moveO rfl) ?_
    refine PL.op rfl (Rd.moveT rfl) ?_
    refine PL.op rfl (Rd.moveT rfl) ?_
    refine PL.op rfl (Rd.ixM rfl rfl h_77) ?_
    refine PL.op rfl (Rd.fieldT rfl) ?_
    refine PL.op rfl (Rd.elMF (f := 0) rfl h_77 rfl rfl) ?_
    refine PL.ef rfl (Ef.litM (α := ByteArray) [x76.name] [_] rfl rfl (by decide) rfl rfl rfl rfl) ?_
    refine PL.nm (.os 1 0 1) [some ⟨.tr (eL v8), 9, 1⟩, some ⟨.tr (eL [x76.name]), 9, 1⟩] rfl rfl ?_
    refine PL.apM hs rfl rfl rfl rfl (SrcA.ownE rfl rfl rfl) rfl rfl rfl rfl h_79 ?_
    refine PL.nm (.os 2 0 xs78.length) [none, some ⟨.tr (eL [x76.name]), 9, 1⟩, some ⟨.tr (eL xs78), 9, 1⟩] rfl rfl ?_
    refine PL.op rfl (Rd.asnO rfl) ?_
    refine PL.nil ?_
    refine inA_n ?_
    refine thA_n ?_
    obtain ⟨n80, h_81, hh1⟩ := bind_some hh1
    refine PC.region ?_
    refine PL.op rfl (Rd.moveT rfl) ?_
    refine PL.op rfl (Rd.addM rfl rfl h_81) ?_
    refine PL.op rfl (Rd.asnT rfl) ?_
    refine PL.nil ?_
    obtain rfl := some_in hh1
    refine thA_n ?_
    exact ⟨(f51, (n80, xs78)), Nat.lt_succ_self _, kk1, [some 2], ⟨rfl, rfl, ⟨⟨_, rfl, rfl, rfl, .tr _⟩, trivial⟩, ⟨.t _, .t _, .t _, .os rfl, .t _, trivial⟩⟩⟩
  clear hh0
  rintro v48 hh0
  replace hh0 : m_S_UsableIndexes_k1 N v48 = some r := hh0
  unfold m_S_UsableIndexes_k1 at hh0
  refine thA_n ?_
  refine PC.seq ?_
  refine PC.region ?_
  refine PL.op rfl (Rd.moveO rfl) ?_
  refine PL.op rfl (Rd.asnO rfl) ?_
  refine PL.nil ?_
  refine thA_n ?_
  refine PC.ret ?_
  obtain rfl := some_in hh0
  exact FinA.mk (r := .os 0 0 v48.length) (bl := [⟨.tr (eL v48), 9, 1⟩]) [some 0] (.inl rfl) rfl (rl := [.tmp 6]) (.tmp .nil) rfl rfl rfl (.os rfl) ⟨⟨_, rfl, rfl, rfl, .tr _⟩, trivial⟩ ⟨rfl, rfl⟩

end V
end Go.Proofs.Ytlpbgmahegoidaa
