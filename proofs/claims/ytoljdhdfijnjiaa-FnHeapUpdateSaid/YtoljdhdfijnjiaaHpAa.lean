/- Heaps: the functions of the program and of the reference. No condition. -/
import Derived.Test.YtoljdhdfijnjiaaPgAa
namespace Go.Proofs.Ytoljdhdfijnjiaa
namespace V
open Enc (enc)
set_option linter.unusedVariables false
set_option linter.unusedSimpArgs false
set_option maxHeartbeats 4000000
set_option maxRecDepth 100000
open Go.RowKit
attribute [local irreducible] thA inA FinA eL

structure I_Heap where
  pages : List I_Page
deriving DecidableEq
instance : Enc I_Heap := ⟨fun x => [.sl x.pages.length (eL x.pages)], 1, fun _ => rfl⟩
structure I_Rid where
  page : Int
  slot : Int
deriving DecidableEq
instance : Enc I_Rid := ⟨fun x => [.v (.int .i64 x.page), .v (.int .i64 x.slot)], 2, fun _ => rfl⟩
instance : EncF I_Rid := ⟨fun _ c h => by simp [enc] at h; rcases h with h | h <;> exact ⟨_, h⟩⟩
instance : EncI I_Rid := ⟨fun a b h => by rcases a with ⟨_, _⟩; rcases b with ⟨_, _⟩; simp [enc] at h; simp [h]⟩
instance : CEq Try.prog 62 [1, 1] := ⟨by kernel_rfl, by kernel_rfl, by kernel_rfl⟩
def m_I_ValidHeap_k1 (N : Nat) : Option (Bool) :=
  some true
def m_I_ValidHeap_b1 (N : Nat) (p_h : I_Heap) (i2 : Int) : Option (Int ⊕ (Unit ⊕ Bool)) :=
  cond (decide (i2 < (p_h.pages.length : Int)))
    ((ixI p_h.pages i2).bind fun x17 =>
    (m_I_ValidPage N x17).bind fun r19 =>
    cond r19
      ((chk (i2 + (1 : Int))).bind fun n22 =>
      some (.inl n22))
      (some (.inr (.inr false))))
    (some (.inr (.inl ())))
def m_I_ValidHeap (N : Nat) (p_h : I_Heap) : Option (Bool) :=
  cond (decide ((6 : Int) < (p_h.pages.length : Int)))
    (some false)
    ((loopM (β := Unit ⊕ Bool) (fun s : Int => m_I_ValidHeap_b1 N p_h s) N (0 : Int)).bind fun o => match o with
    | .inl e =>
      m_I_ValidHeap_k1 N 
    | .inr v =>
      some v)
theorem w_I_ValidHeap (N : Nat) (p_h : I_Heap) (r : Bool) (hh0 : m_I_ValidHeap N p_h = some r) : FnX Try.prog 78 [] [.agg [sL p_h.pages]] (RE (bA r) []) := by
  unfold m_I_ValidHeap at hh0
  refine FnX.mk Try.func78 rfl rfl ?_
  intro s hs
  refine PC.seq ?_
  refine PC.region ?_
  refine PL.ef rfl (Ef.box rfl rfl rfl) ?_
  refine PL.nm (.op 0 0) [some ⟨.mx [sL p_h.pages], 58, 0⟩] rfl rfl ?_
  refine PL.op rfl (Rd.asnT rfl) ?_
  refine PL.nil ?_
  refine thA_n ?_
  refine PC.seq ?_
  refine PC.seq ?_
  refine PC.region ?_
  refine PL.op rfl (Rd.fieldO rfl rfl) ?_
  refine PL.op rfl (Rd.loadO rfl rfl rfl) ?_
  refine PL.op rfl (Rd.lenT rfl) ?_
  refine PL.op rfl (Rd.gtr rfl rfl) ?_
  refine PL.nil ?_
  refine thA_n ?_
  rcases cond_some hh0 with ⟨h_1, hh0⟩ | ⟨h_1, hh0⟩
  · refine PC.cond_true rfl h_1 ?_
    refine PC.seq ?_
    refine PC.region ?_
    refine PL.op rfl (Rd.asnT rfl) ?_
    refine PL.nil ?_
    refine thA_n ?_
    refine PC.ret ?_
    refine thA_r ?_
    obtain rfl := some_in hh0
    exact FinA.mk (r := bA false) (bl := []) [] (.inl rfl) rfl (rl := [.tmp 2]) (.tmp .nil) rfl rfl rfl (.t _) trivial ⟨rfl, rfl⟩
  refine PC.cond_false rfl h_1 ?_
  refine PC.skip ?_
  refine thA_n ?_
  refine PC.seq ?_
  refine PC.seq ?_
  refine PC.region ?_
  refine PL.op rfl (Rd.fieldO rfl rfl) ?_
  refine PL.op rfl (Rd.loadO rfl rfl rfl) ?_
  refine PL.op rfl (Rd.lenT rfl) ?_
  refine PL.op rfl (Rd.moveT rfl) ?_
  refine PL.nil ?_
  refine thA_n ?_
  obtain ⟨o11, h_12, hh0⟩ := bind_some hh0
  refine PC.cutE hs (fun x : Unit => []) (fun x => []) (fun x => m_I_ValidHeap_k1 N  = some r) ?_ ?_
  · refine PC.block ?_
    refine PC.loop hs (fun x : Nat × (Int) => [(10, sL p_h.pages), (11, iA (p_h.pages.length : Int)), (12, iA x.2)]) (fun x => []) (fun x => loopM (β := Unit ⊕ Bool) (fun s : Int => m_I_ValidHeap_b1 N p_h s) x.1 x.2 = some o11) (fun x => x.1) (N, (0 : Int)) [] ⟨rfl, rfl, trivial, ⟨.t _, .t _, .t _, trivial⟩⟩ h_12 ?_
    rintro ⟨f13_, i2⟩ h_15
    obtain ⟨f13, y14, rfl, hh1, kk1⟩ := loopM_some h_15
    replace hh1 : m_I_ValidHeap_b1 N p_h i2 = some y14 := hh1
    unfold m_I_ValidHeap_b1 at hh1
    refine PC.seq ?_
    refine PC.region ?_
    refine PL.op rfl (Rd.lss rfl rfl) ?_
    refine PL.nil ?_
    refine thA_n ?_
    refine PC.seq ?_
    rcases cond_some hh1 with ⟨h_16, hh1⟩ | ⟨h_16, hh1⟩
    rotate_left
    · refine PC.cond_false rfl h_16 ?_
      refine PC.exit ?_
      refine thA_e ?_
      refine thA_e ?_
      refine inA_eq rfl ?_
      refine thA_n ?_
      obtain rfl := some_in hh1
      obtain rfl : (.inl () : Unit ⊕ Bool) = o11 := kk1
      exact ⟨(), hh0, [], ⟨rfl, rfl, trivial, trivial⟩⟩
    refine PC.cond_true rfl h_16 ?_
    refine PC.skip ?_
    refine thA_n ?_
    refine PC.seq ?_
    refine PC.block ?_
    refine PC.seq ?_
    obtain ⟨x17, h_18, hh1⟩ := bind_some hh1
    refine PC.region ?_
    refine PL.op rfl (Rd.ixM rfl rfl h_18) ?_
    refine PL.op rfl (Rd.elMR rfl h_18 rfl rfl) ?_
    refine PL.ef rfl (Ef.alloc rfl rfl) ?_
    refine PL.nm (.op 0 0) [some ⟨.mx [.t (.v (.slice none 0 0))], 25, 0⟩] rfl rfl ?_
    refine PL.store rfl rfl rfl rfl rfl rfl rfl ?_
    refine PL.nO [some ⟨.mx [sL x17.slots], 25, 0⟩] rfl ?_
    refine PL.nil ?_
    refine thA_n ?_
    refine PC.seq ?_
    obtain ⟨r19, h_20, hh1⟩ := bind_some hh1
    refine PC.region ?_
    refine PL.op rfl (Rd.loadBox rfl rfl rfl) ?_
    refine PL.callM false [] (w_I_ValidPage N x17 r19 h_20) rfl Try.call27 rfl ⟨.aggL ⟨.t _, trivial⟩, trivial⟩ rfl trivial (fun h => by cases h) ?_
    refine PL.op rfl (Rd.unnot rfl) ?_
    refine PL.nil ?_
    refine thA_n ?_
    rcases cond_some hh1 with ⟨h_21, hh1⟩ | ⟨h_21, hh1⟩
    · refine PC.cond_false rfl (not_t h_21) ?_
      refine PC.skip ?_
      refine inA_n ?_
      refine thA_n ?_
      obtain ⟨n22, h_23, hh1⟩ := bind_some hh1
      refine PC.region ?_
      refine PL.op rfl (Rd.addM rfl rfl h_23) ?_
      refine PL.op rfl (Rd.moveT rfl) ?_
      refine PL.nil ?_
      obtain rfl := some_in hh1
      refine thA_n ?_
      exact ⟨(f13, n22), Nat.lt_succ_self _, kk1, [], ⟨rfl, rfl, trivial, ⟨.t _, .t _, .t _, trivial⟩⟩⟩
    refine PC.cond_true rfl (not_f h_21) ?_
    refine PC.seq ?_
    refine PC.region ?_
    refine PL.op rfl (Rd.asnT rfl) ?_
    refine PL.nil ?_
    refine thA_n ?_
    refine PC.ret ?_
    refine inA_r ?_
    refine thA_r ?_
    refine thA_r ?_
    refine inA_r ?_
    refine thA_r ?_
    obtain rfl := some_in hh1
    obtain rfl : (.inr false : Unit ⊕ Bool) = o11 := kk1
    refine thA_r ?_
    obtain rfl := some_in hh0
    exact FinA.mk (r := bA false) (bl := []) [] (.inl rfl) rfl (rl := [.tmp 2]) (.tmp .nil) rfl rfl rfl (.t _) trivial ⟨rfl, rfl⟩
  clear hh0
  rintro ⟨⟩ hh0
  replace hh0 : m_I_ValidHeap_k1 N  = some r := hh0
  unfold m_I_ValidHeap_k1 at hh0
  refine thA_n ?_
  refine PC.seq ?_
  refine PC.region ?_
  refine PL.op rfl (Rd.asnT rfl) ?_
  refine PL.nil ?_
  refine thA_n ?_
  refine PC.ret ?_
  obtain rfl := some_in hh0
  exact FinA.mk (r := bA true) (bl := []) [] (.inl rfl) rfl (rl := [.tmp 2]) (.tmp .nil) rfl rfl rfl (.t _) trivial ⟨rfl, rfl⟩

def m_I_Heap_clone_k1 (N : Nat) (v12 : (List I_Page)) : Option (I_Heap) :=
  some (I_Heap.mk v12)
def m_I_Heap_clone_b1 (N : Nat) (p_h : I_Heap) (i1 : Int) (v2 : (List I_Page)) : Option ((Int × (List I_Page)) ⊕ (List I_Page)) :=
  cond (decide (i1 < (p_h.pages.length : Int)))
    ((ixI p_h.pages i1).bind fun x19 =>
    (m_I_Page_clone N x19).bind fun r21 =>
    (appM 24 v2 [r21]).bind fun xs23 =>
    (chk (i1 + (1 : Int))).bind fun n25 =>
    some (.inl (n25, xs23)))
    (some (.inr v2))
def m_I_Heap_clone (N : Nat) (p_h : I_Heap) : Option (I_Heap) :=
  (loopM (β := (List I_Page)) (fun s : Int × (List I_Page) => m_I_Heap_clone_b1 N p_h s.1 s.2) N ((0 : Int), ([] : List I_Page))).bind fun e =>
  m_I_Heap_clone_k1 N e
theorem w_I_Heap_clone (N : Nat) (p_h : I_Heap) (r : I_Heap) (hh0 : m_I_Heap_clone N p_h = some r) : FnX Try.prog 79 [] [.agg [sL p_h.pages]] (RE (.agg [.os 0 0 r.pages.length]) [⟨.tr (eL r.pages), 25, 1⟩]) := by
  unfold m_I_Heap_clone at hh0
  refine FnX.mk Try.func79 rfl rfl ?_
  intro s hs
  refine PC.seq ?_
  refine PC.region ?_
  refine PL.ef rfl (Ef.box rfl rfl rfl) ?_
  refine PL.nm (.op 0 0) [some ⟨.mx [sL p_h.pages], 58, 0⟩] rfl rfl ?_
  refine PL.ef rfl (Ef.alloc rfl rfl) ?_
  refine PL.nm (.op 1 0) [some ⟨.mx [sL p_h.pages], 58, 0⟩, some ⟨.mx [.t (.v (.slice none 0 0))], 58, 0⟩] rfl rfl ?_
  refine PL.nil ?_
  refine thA_n ?_
  refine PC.seq ?_
  refine PC.region ?_
  refine PL.ef rfl (Ef.alloc rfl rfl) ?_
  refine PL.nm (.op 2 0) [some ⟨.mx [sL p_h.pages], 58, 0⟩, some ⟨.mx [.t (.v (.slice none 0 0))], 58, 0⟩, some ⟨.mx [.t (.v (.slice none 0 0))], 58, 0⟩] rfl rfl ?_
  refine PL.nil ?_
  refine thA_n ?_
  refine PC.seq ?_
  refine PC.seq ?_
  refine PC.region ?_
  refine PL.op rfl (Rd.fieldO rfl rfl) ?_
  refine PL.op rfl (Rd.loadO rfl rfl rfl) ?_
  refine PL.op rfl (Rd.lenT rfl) ?_
  refine PL.op rfl (Rd.moveT rfl) ?_
  refine PL.nil ?_
  refine thA_n ?_
  obtain ⟨o13, h_14, hh0⟩ := bind_some hh0
  refine PC.cutE hs (fun x : (List I_Page) => [(2, .op 0 0), (3, .op 1 0)]) (fun x => [⟨.mx [.t (.v (.slice none 0 0))], 58, 0⟩, ⟨.mx [.os 2 0 x.length], 58, 0⟩, ⟨.tr (eL x), 25, 1⟩]) (fun x => m_I_Heap_clone_k1 N x = some r) ?_ ?_
  · refine PC.block ?_
    refine PC.loop hs (fun x : Nat × (Int × (List I_Page)) => [(2, .op 0 0), (3, .op 1 0), (7, sL p_h.pages), (8, iA (p_h.pages.length : Int)), (9, iA x.2.1)]) (fun x => [⟨.mx [.t (.v (.slice none 0 0))], 58, 0⟩, ⟨.mx [.os 2 0 x.2.2.length], 58, 0⟩, ⟨.tr (eL x.2.2), 25, 1⟩]) (fun x => loopM (β := (List I_Page)) (fun s : Int × (List I_Page) => m_I_Heap_clone_b1 N p_h s.1 s.2) x.1 x.2 = some o13) (fun x => x.1) (N, ((0 : Int), ([] : List I_Page))) [some 1, some 2, none] ⟨rfl, rfl, ⟨⟨_, rfl, rfl, rfl, .mx ⟨.t _, trivial⟩⟩, ⟨_, rfl, rfl, rfl, .mx ⟨.osn rfl, trivial⟩⟩, ow_nil _, trivial⟩, ⟨.op rfl, .op rfl, .t _, .t _, .t _, trivial⟩⟩ h_14 ?_
    rintro ⟨f15_, i1, v2⟩ h_17
    obtain ⟨f15, y16, rfl, hh1, kk1⟩ := loopM_some h_17
    replace hh1 : m_I_Heap_clone_b1 N p_h i1 v2 = some y16 := hh1
    unfold m_I_Heap_clone_b1 at hh1
    refine PC.seq ?_
    refine PC.region ?_
    refine PL.op rfl (Rd.lss rfl rfl) ?_
    refine PL.nil ?_
    refine thA_n ?_
    refine PC.seq ?_
    rcases cond_some hh1 with ⟨h_18, hh1⟩ | ⟨h_18, hh1⟩
    rotate_left
    · refine PC.cond_false rfl h_18 ?_
      refine PC.exit ?_
      refine thA_e ?_
      refine thA_e ?_
      refine inA_eq rfl ?_
      refine thA_n ?_
      obtain rfl := some_in hh1
      obtain rfl : (v2 : (List I_Page)) = o13 := kk1
      exact ⟨v2, hh0, [some 0, some 1, some 2], ⟨rfl, rfl, ⟨⟨_, rfl, rfl, rfl, .mx ⟨.t _, trivial⟩⟩, ⟨_, rfl, rfl, rfl, .mx ⟨.os rfl, trivial⟩⟩, ⟨_, rfl, rfl, rfl, .tr _⟩, trivial⟩, ⟨.op rfl, .op rfl, trivial⟩⟩⟩
    refine PC.cond_true rfl h_18 ?_
    refine PC.skip ?_
    refine thA_n ?_
    refine PC.seq ?_
    refine PC.block ?_
    refine PC.seq ?_
    obtain ⟨x19, h_20, hh1⟩ := bind_some hh1
    refine PC.region ?_
    refine PL.op rfl (Rd.ixM rfl rfl h_20) ?_
    refine PL.op rfl (Rd.elMR rfl h_20 rfl rfl) ?_
    refine PL.ef rfl (Ef.alloc rfl rfl) ?_
    refine PL.nm (.op 3 0) [some ⟨.mx [.t (.v (.slice none 0 0))], 58, 0⟩, some ⟨.mx [.os 2 0 v2.length], 58, 0⟩, some ⟨.tr (eL v2), 25, 1⟩, some ⟨.mx [.t (.v (.slice none 0 0))], 25, 0⟩] rfl rfl ?_
    refine PL.store rfl rfl rfl rfl rfl rfl rfl ?_
    refine PL.nO [some ⟨.mx [.t (.v (.slice none 0 0))], 58, 0⟩, some ⟨.mx [.os 2 0 v2.length], 58, 0⟩, some ⟨.tr (eL v2), 25, 1⟩, some ⟨.mx [sL x19.slots], 25, 0⟩] rfl ?_
    refine PL.nil ?_
    refine thA_n ?_
    obtain ⟨r21, h_22, hh1⟩ := bind_some hh1
    obtain ⟨xs23, h_24, hh1⟩ := bind_some hh1
    refine PC.any (id := 5) 5 (.seg [0, 1, 2, 3, 4] .done) [] rfl (by kernel_rfl) rfl ?_
    refine PT.seg ?_
    refine PR.op rfl (Rd.fieldO rfl rfl) ?_
    refine PR.op rfl (Rd.loadO rfl rfl rfl) ?_
    refine PR.op rfl (Rd.loadBox rfl rfl rfl) ?_
    refine PR.callM false [] (w_I_Page_clone N x19 r21 h_22) rfl Try.call63 rfl ⟨.aggL ⟨.t _, trivial⟩, trivial⟩ rfl trivial (fun h => by cases h) rfl ?_
    refine PR.nm (.agg [.os 4 0 r21.slots.length]) [some ⟨.mx [.t (.v (.slice none 0 0))], 58, 0⟩, some ⟨.mx [.os 2 0 v2.length], 58, 0⟩, some ⟨.tr (eL v2), 25, 1⟩, some ⟨.mx [sL x19.slots], 25, 0⟩, some ⟨.tr (eL r21.slots), 35, 2⟩] rfl rfl ?_
    refine PR.frz hs 4 5 [(16, .agg [sL r21.slots])] [some ⟨.mx [.t (.v (.slice none 0 0))], 58, 0⟩, some ⟨.mx [.os 2 0 v2.length], 58, 0⟩, some ⟨.tr (eL v2), 25, 1⟩, some ⟨.mx [sL x19.slots], 25, 0⟩, none] rfl rfl rfl ⟨(.aggL ⟨(.own rfl (by decide) rfl rfl), trivial⟩), trivial⟩ ⟨⟨rfl, .inl rfl⟩, ⟨rfl, .inl rfl⟩, ⟨rfl, .inl rfl⟩, ⟨rfl, .inl rfl⟩, trivial⟩ ?_
    refine PR.ef rfl rfl (Ef.litM (α := I_Page) [r21] [_] rfl rfl (by decide) rfl rfl rfl rfl) ?_
    refine PR.nm (.os 5 0 1) [some ⟨.mx [.t (.v (.slice none 0 0))], 58, 0⟩, some ⟨.mx [.os 2 0 v2.length], 58, 0⟩, some ⟨.tr (eL v2), 25, 1⟩, some ⟨.mx [sL x19.slots], 25, 0⟩, none, some ⟨.tr (eL [r21]), 25, 1⟩] rfl rfl ?_
    refine PR.nil ?_
    refine PT.done ?_
    refine PL.apM hs rfl rfl rfl rfl (SrcA.ownE rfl rfl rfl) rfl rfl rfl rfl h_24 ?_
    refine PL.nm (.os 6 0 xs23.length) [some ⟨.mx [.t (.v (.slice none 0 0))], 58, 0⟩, some ⟨.mx [.os 2 0 v2.length], 58, 0⟩, none, some ⟨.mx [sL x19.slots], 25, 0⟩, none, some ⟨.tr (eL [r21]), 25, 1⟩, some ⟨.tr (eL xs23), 25, 1⟩] rfl rfl ?_
    refine PL.op rfl (Rd.fieldO rfl rfl) ?_
    refine PL.store rfl rfl rfl rfl rfl rfl rfl ?_
    refine PL.nO [some ⟨.mx [.t (.v (.slice none 0 0))], 58, 0⟩, some ⟨.mx [.os 6 0 xs23.length], 58, 0⟩, none, some ⟨.mx [sL x19.slots], 25, 0⟩, none, some ⟨.tr (eL [r21]), 25, 1⟩, some ⟨.tr (eL xs23), 25, 1⟩] rfl ?_
    refine PL.nil ?_
    refine inA_n ?_
    refine thA_n ?_
    obtain ⟨n25, h_26, hh1⟩ := bind_some hh1
    refine PC.region ?_
    refine PL.op rfl (Rd.addM rfl rfl h_26) ?_
    refine PL.op rfl (Rd.moveT rfl) ?_
    refine PL.nil ?_
    obtain rfl := some_in hh1
    refine thA_n ?_
    exact ⟨(f15, (n25, xs23)), Nat.lt_succ_self _, kk1, [some 0, some 1, some 6], ⟨rfl, rfl, ⟨⟨_, rfl, rfl, rfl, .mx ⟨.t _, trivial⟩⟩, ⟨_, rfl, rfl, rfl, .mx ⟨.os rfl, trivial⟩⟩, ⟨_, rfl, rfl, rfl, .tr _⟩, trivial⟩, ⟨.op rfl, .op rfl, .t _, .t _, .t _, trivial⟩⟩⟩
  clear hh0
  rintro v12 hh0
  replace hh0 : m_I_Heap_clone_k1 N v12 = some r := hh0
  unfold m_I_Heap_clone_k1 at hh0
  refine thA_n ?_
  refine PC.seq ?_
  refine PC.region ?_
  refine PL.op rfl (Rd.loadBox rfl rfl rfl) ?_
  refine PL.store rfl rfl rfl rfl rfl rfl rfl ?_
  refine PL.nO [some ⟨.mx [.os 2 0 v12.length], 58, 0⟩, some ⟨.mx [.os 2 0 v12.length], 58, 0⟩, some ⟨.tr (eL v12), 25, 1⟩] rfl ?_
  refine PL.nil ?_
  refine thA_n ?_
  refine PC.ret ?_
  obtain rfl := some_in hh0
  exact FinA.mk (r := .agg [.os 0 0 v12.length]) (bl := [⟨.tr (eL v12), 25, 1⟩]) [some 2] (.inl rfl) rfl (rl := [.cell 2 58]) (.cellN rfl rfl rfl rfl .nil) rfl rfl rfl (.aggL ⟨.os rfl, trivial⟩) ⟨⟨_, rfl, rfl, rfl, .tr _⟩, trivial⟩ ⟨rfl, rfl⟩

def m_I_HeapInsert_k1 (N : Nat) (p_data : ByteArray) (r4 : (I_Heap)) : Option (I_Heap × I_Rid × Bool) :=
  (m_I_PutSlot N (I_Page.mk ([] : List I_Slot)) p_data).bind fun r20 =>
  cond r20.2.2
    (cond (decide ((r4.pages.length : Int) = (6 : Int)))
      (some ((I_Heap.mk ([] : List I_Page)), (I_Rid.mk (0 : Int) (0 : Int)), false))
      ((appM 24 r4.pages [r20.1]).bind fun xs24 =>
      (chk ((xs24.length : Int) - (1 : Int))).bind fun n26 =>
      some ((I_Heap.mk xs24), (I_Rid.mk n26 r20.2.1), true)))
    (some ((I_Heap.mk ([] : List I_Page)), (I_Rid.mk (0 : Int) (0 : Int)), false))
def m_I_HeapInsert_b1 (N : Nat) (p_data : ByteArray) (r4 : (I_Heap)) (i6 : Int) : Option (Int ⊕ (Unit ⊕ (I_Heap × I_Rid × Bool))) :=
  cond (decide (i6 < (r4.pages.length : Int)))
    ((ixI r4.pages i6).bind fun x29 =>
    (m_I_PutSlot N x29 p_data).bind fun r31 =>
    cond r31.2.2
      (some (.inr (.inr ((I_Heap.mk (r4.pages.set i6.toNat r31.1)), (I_Rid.mk i6 r31.2.1), true))))
      ((chk (i6 + (1 : Int))).bind fun n34 =>
      some (.inl n34)))
    (some (.inr (.inl ())))
def m_I_HeapInsert (N : Nat) (p_h : I_Heap) (p_data : ByteArray) : Option (I_Heap × I_Rid × Bool) :=
  (m_I_ValidHeap N p_h).bind fun r1 =>
  cond r1
    ((m_I_Heap_clone N p_h).bind fun r4 =>
    (loopM (β := Unit ⊕ (I_Heap × I_Rid × Bool)) (fun s : Int => m_I_HeapInsert_b1 N p_data r4 s) N (0 : Int)).bind fun o => match o with
    | .inl e =>
      m_I_HeapInsert_k1 N p_data r4 
    | .inr v =>
      some v)
    (some ((I_Heap.mk ([] : List I_Page)), (I_Rid.mk (0 : Int) (0 : Int)), false))
theorem w_I_HeapInsert (N : Nat) (p_h : I_Heap) (p_data : ByteArray) (r : I_Heap × I_Rid × Bool) (hh0 : m_I_HeapInsert N p_h p_data = some r) : FnX Try.prog 40 [] [.agg [sL p_h.pages], sA p_data] (RE (.tup [.agg [.os 0 0 r.1.pages.length], .agg [iA r.2.1.page, iA r.2.1.slot], bA r.2.2]) [⟨.tr (eL r.1.pages), 25, 1⟩]) := by
  unfold m_I_HeapInsert at hh0
  refine FnX.mk Try.func40 rfl rfl ?_
  intro s hs
  refine PC.seq ?_
  refine PC.region ?_
  refine PL.ef rfl (Ef.box rfl rfl rfl) ?_
  refine PL.nm (.op 0 0) [some ⟨.mx [sL p_h.pages], 58, 0⟩] rfl rfl ?_
  refine PL.ef rfl (Ef.alloc rfl rfl) ?_
  refine PL.nm (.op 1 0) [some ⟨.mx [sL p_h.pages], 58, 0⟩, some ⟨.mx [.t (.v (.slice none 0 0))], 58, 0⟩] rfl rfl ?_
  refine PL.ef rfl (Ef.alloc rfl rfl) ?_
  refine PL.nm (.op 2 0) [some ⟨.mx [sL p_h.pages], 58, 0⟩, some ⟨.mx [.t (.v (.slice none 0 0))], 58, 0⟩, some ⟨.mx [iA (0 : Int), iA (0 : Int)], 62, 0⟩] rfl rfl ?_
  refine PL.op rfl (Rd.asnT rfl) ?_
  refine PL.nil ?_
  refine thA_n ?_
  refine PC.seq ?_
  refine PC.seq ?_
  obtain ⟨r1, h_2, hh0⟩ := bind_some hh0
  refine PC.region ?_
  refine PL.op rfl (Rd.loadBox rfl rfl rfl) ?_
  refine PL.callM false [] (w_I_ValidHeap N p_h r1 h_2) rfl Try.call78 rfl ⟨.aggL ⟨.t _, trivial⟩, trivial⟩ rfl trivial (fun h => by cases h) ?_
  refine PL.op rfl (Rd.unnot rfl) ?_
  refine PL.nil ?_
  refine thA_n ?_
  rcases cond_some hh0 with ⟨h_3, hh0⟩ | ⟨h_3, hh0⟩
  rotate_left
  · refine PC.cond_true rfl (not_f h_3) ?_
    refine PC.seq ?_
    refine PC.region ?_
    refine PL.op rfl (Rd.build rfl rfl rfl rfl) ?_
    refine PL.op rfl (Rd.build rfl rfl rfl rfl) ?_
    refine PL.store rfl rfl rfl rfl rfl rfl rfl ?_
    refine PL.store rfl rfl rfl rfl rfl rfl rfl ?_
    refine PL.op rfl (Rd.asnT rfl) ?_
    refine PL.nil ?_
    refine thA_n ?_
    refine PC.ret ?_
    refine thA_r ?_
    obtain rfl := some_in hh0
    exact FinA.mk (r := .tup [.agg [.os 0 0 ((((I_Heap.mk ([] : List I_Page)), (I_Rid.mk (0 : Int) (0 : Int)), false).1.pages).length)], .agg [iA (((I_Heap.mk ([] : List I_Page)), (I_Rid.mk (0 : Int) (0 : Int)), false).2.1.page), iA (((I_Heap.mk ([] : List I_Page)), (I_Rid.mk (0 : Int) (0 : Int)), false).2.1.slot)], bA (((I_Heap.mk ([] : List I_Page)), (I_Rid.mk (0 : Int) (0 : Int)), false).2.2)]) (bl := [⟨.tr (eL (((I_Heap.mk ([] : List I_Page)), (I_Rid.mk (0 : Int) (0 : Int)), false).1.pages)), 25, 1⟩]) [none] (.inl rfl) rfl (rl := [.cell 4 58, .cell 5 62, .tmp 6]) (.cellN rfl rfl rfl rfl (.cellN rfl rfl rfl rfl (.tmp .nil))) rfl rfl rfl (.tupL ⟨.aggL ⟨.osn rfl, trivial⟩, .aggL ⟨.t _, .t _, trivial⟩, .t _, trivial⟩) ⟨ow_nil _, trivial⟩ ⟨rfl, rfl⟩
  refine PC.cond_false rfl (not_t h_3) ?_
  refine PC.skip ?_
  refine thA_n ?_
  refine PC.seq ?_
  obtain ⟨r4, h_5, hh0⟩ := bind_some hh0
  refine PC.region ?_
  refine PL.op rfl (Rd.loadBox rfl rfl rfl) ?_
  refine PL.callM false [] (w_I_Heap_clone N p_h r4 h_5) rfl Try.call79 rfl ⟨.aggL ⟨.t _, trivial⟩, trivial⟩ rfl trivial (fun h => by cases h) ?_
  refine PL.nm (.agg [.os 3 0 r4.pages.length]) [some ⟨.mx [sL p_h.pages], 58, 0⟩, some ⟨.mx [.t (.v (.slice none 0 0))], 58, 0⟩, some ⟨.mx [iA (0 : Int), iA (0 : Int)], 62, 0⟩, some ⟨.tr (eL r4.pages), 25, 1⟩] rfl rfl ?_
  refine PL.ef rfl (Ef.alloc rfl rfl) ?_
  refine PL.nm (.op 4 0) [some ⟨.mx [sL p_h.pages], 58, 0⟩, some ⟨.mx [.t (.v (.slice none 0 0))], 58, 0⟩, some ⟨.mx [iA (0 : Int), iA (0 : Int)], 62, 0⟩, some ⟨.tr (eL r4.pages), 25, 1⟩, some ⟨.mx [.t (.v (.slice none 0 0))], 58, 0⟩] rfl rfl ?_
  refine PL.store rfl rfl rfl rfl rfl rfl rfl ?_
  refine PL.nO [some ⟨.mx [sL p_h.pages], 58, 0⟩, some ⟨.mx [.t (.v (.slice none 0 0))], 58, 0⟩, some ⟨.mx [iA (0 : Int), iA (0 : Int)], 62, 0⟩, some ⟨.tr (eL r4.pages), 25, 1⟩, some ⟨.mx [.os 3 0 r4.pages.length], 58, 0⟩] rfl ?_
  refine PL.nil ?_
  refine thA_n ?_
  refine PC.seq ?_
  refine PC.seq ?_
  refine PC.region ?_
  refine PL.op rfl (Rd.fieldO rfl rfl) ?_
  refine PL.op rfl (Rd.loadO rfl rfl rfl) ?_
  refine PL.op rfl (Rd.lenO rfl rfl) ?_
  refine PL.op rfl (Rd.moveT rfl) ?_
  refine PL.nil ?_
  refine thA_n ?_
  obtain ⟨o15, h_16, hh0⟩ := bind_some hh0
  refine PC.cutE hs (fun x : Unit => [(1, sA p_data), (4, .op 0 0), (5, .op 1 0), (7, .op 2 0)]) (fun x => [⟨.mx [.t (.v (.slice none 0 0))], 58, 0⟩, ⟨.mx [iA (0 : Int), iA (0 : Int)], 62, 0⟩, ⟨.mx [.os 3 0 r4.pages.length], 58, 0⟩, ⟨.tr (eL r4.pages), 25, 1⟩]) (fun x => m_I_HeapInsert_k1 N p_data r4  = some r) ?_ ?_
  · refine PC.block ?_
    refine PC.loop hs (fun x : Nat × (Int) => [(1, sA p_data), (4, .op 0 0), (5, .op 1 0), (7, .op 2 0), (24, .os 3 0 r4.pages.length), (25, iA (r4.pages.length : Int)), (26, iA x.2)]) (fun x => [⟨.mx [.t (.v (.slice none 0 0))], 58, 0⟩, ⟨.mx [iA (0 : Int), iA (0 : Int)], 62, 0⟩, ⟨.mx [.os 3 0 r4.pages.length], 58, 0⟩, ⟨.tr (eL r4.pages), 25, 1⟩]) (fun x => loopM (β := Unit ⊕ (I_Heap × I_Rid × Bool)) (fun s : Int => m_I_HeapInsert_b1 N p_data r4 s) x.1 x.2 = some o15) (fun x => x.1) (N, (0 : Int)) [some 1, some 2, some 4, some 3] ⟨rfl, rfl, ⟨⟨_, rfl, rfl, rfl, .mx ⟨.t _, trivial⟩⟩, ⟨_, rfl, rfl, rfl, .mx ⟨.t _, .t _, trivial⟩⟩, ⟨_, rfl, rfl, rfl, .mx ⟨.os rfl, trivial⟩⟩, ⟨_, rfl, rfl, rfl, .tr _⟩, trivial⟩, ⟨.t _, .op rfl, .op rfl, .op rfl, .os rfl, .t _, .t _, trivial⟩⟩ h_16 ?_
    rintro ⟨f17_, i6⟩ h_19
    obtain ⟨f17, y18, rfl, hh1, kk1⟩ := loopM_some h_19
    replace hh1 : m_I_HeapInsert_b1 N p_data r4 i6 = some y18 := hh1
    unfold m_I_HeapInsert_b1 at hh1
    refine PC.seq ?_
    refine PC.region ?_
    refine PL.op rfl (Rd.lss rfl rfl) ?_
    refine PL.nil ?_
    refine thA_n ?_
    refine PC.seq ?_
    rcases cond_some hh1 with ⟨h_28, hh1⟩ | ⟨h_28, hh1⟩
    rotate_left
    · refine PC.cond_false rfl h_28 ?_
      refine PC.exit ?_
      refine thA_e ?_
      refine thA_e ?_
      refine inA_eq rfl ?_
      refine thA_n ?_
      obtain rfl := some_in hh1
      obtain rfl : (.inl () : Unit ⊕ (I_Heap × I_Rid × Bool)) = o15 := kk1
      exact ⟨(), hh0, [some 0, some 1, some 2, some 3], ⟨rfl, rfl, ⟨⟨_, rfl, rfl, rfl, .mx ⟨.t _, trivial⟩⟩, ⟨_, rfl, rfl, rfl, .mx ⟨.t _, .t _, trivial⟩⟩, ⟨_, rfl, rfl, rfl, .mx ⟨.os rfl, trivial⟩⟩, ⟨_, rfl, rfl, rfl, .tr _⟩, trivial⟩, ⟨.t _, .op rfl, .op rfl, .op rfl, trivial⟩⟩⟩
    refine PC.cond_true rfl h_28 ?_
    refine PC.skip ?_
    refine thA_n ?_
    refine PC.seq ?_
    refine PC.block ?_
    refine PC.seq ?_
    obtain ⟨x29, h_30, hh1⟩ := bind_some hh1
    refine PC.region ?_
    refine PL.op rfl (Rd.moveT rfl) ?_
    refine PL.op rfl (Rd.ixOM rfl rfl rfl (ixI_lt h_30)) ?_
    refine PL.op rfl (Rd.owMR rfl rfl h_30 rfl rfl) ?_
    refine PL.ef rfl (Ef.alloc rfl rfl) ?_
    refine PL.nm (.op 4 0) [some ⟨.mx [.t (.v (.slice none 0 0))], 58, 0⟩, some ⟨.mx [iA (0 : Int), iA (0 : Int)], 62, 0⟩, some ⟨.mx [.os 3 0 r4.pages.length], 58, 0⟩, some ⟨.tr (eL r4.pages), 25, 1⟩, some ⟨.mx [.t (.v (.slice none 0 0))], 25, 0⟩] rfl rfl ?_
    refine PL.op rfl (Rd.asnT rfl) ?_
    refine PL.store rfl rfl rfl rfl rfl rfl rfl ?_
    refine PL.nO [some ⟨.mx [.t (.v (.slice none 0 0))], 58, 0⟩, some ⟨.mx [iA (0 : Int), iA (0 : Int)], 62, 0⟩, some ⟨.mx [.os 3 0 r4.pages.length], 58, 0⟩, some ⟨.tr (eL r4.pages), 25, 1⟩, some ⟨.mx [sL x29.slots], 25, 0⟩] rfl ?_
    refine PL.nil ?_
    refine thA_n ?_
    refine PC.seq ?_
    obtain ⟨r31, h_32, hh1⟩ := bind_some hh1
    refine PC.region ?_
    refine PL.op rfl (Rd.loadBox rfl rfl rfl) ?_
    refine PL.op rfl (Rd.moveT rfl) ?_
    refine PL.callM false [] (w_I_PutSlot N x29 p_data r31 h_32) rfl Try.call22 rfl ⟨.aggL ⟨.t _, trivial⟩, .t _, trivial⟩ rfl trivial (fun h => by cases h) ?_
    refine PL.nm (.tup [.agg [.os 5 0 r31.1.slots.length], iA r31.2.1, bA r31.2.2]) [some ⟨.mx [.t (.v (.slice none 0 0))], 58, 0⟩, some ⟨.mx [iA (0 : Int), iA (0 : Int)], 62, 0⟩, some ⟨.mx [.os 3 0 r4.pages.length], 58, 0⟩, some ⟨.tr (eL r4.pages), 25, 1⟩, some ⟨.mx [sL x29.slots], 25, 0⟩, some ⟨.tr (eL r31.1.slots), 35, 2⟩] rfl rfl ?_
    refine PL.op rfl (Rd.moveU rfl) ?_
    refine PL.op rfl (Rd.extract rfl rfl) ?_
    refine PL.op rfl (Rd.extract rfl rfl) ?_
    refine PL.op rfl (Rd.extract rfl rfl) ?_
    refine PL.ef rfl (Ef.alloc rfl rfl) ?_
    refine PL.nm (.op 6 0) [some ⟨.mx [.t (.v (.slice none 0 0))], 58, 0⟩, some ⟨.mx [iA (0 : Int), iA (0 : Int)], 62, 0⟩, some ⟨.mx [.os 3 0 r4.pages.length], 58, 0⟩, some ⟨.tr (eL r4.pages), 25, 1⟩, some ⟨.mx [sL x29.slots], 25, 0⟩, some ⟨.tr (eL r31.1.slots), 35, 2⟩, some ⟨.mx [.t (.v (.slice none 0 0))], 25, 0⟩] rfl rfl ?_
    refine PL.store rfl rfl rfl rfl rfl rfl rfl ?_
    refine PL.nO [some ⟨.mx [.t (.v (.slice none 0 0))], 58, 0⟩, some ⟨.mx [iA (0 : Int), iA (0 : Int)], 62, 0⟩, some ⟨.mx [.os 3 0 r4.pages.length], 58, 0⟩, some ⟨.tr (eL r4.pages), 25, 1⟩, some ⟨.mx [sL x29.slots], 25, 0⟩, some ⟨.tr (eL r31.1.slots), 35, 2⟩, some ⟨.mx [.os 5 0 r31.1.slots.length], 25, 0⟩] rfl ?_
    refine PL.op rfl (Rd.asnT rfl) ?_
    refine PL.op rfl (Rd.asnT rfl) ?_
    refine PL.nil ?_
    refine thA_n ?_
    refine PC.seq ?_
    refine PC.region ?_
    refine PL.op rfl (Rd.moveT rfl) ?_
    refine PL.nil ?_
    refine thA_n ?_
    rcases cond_some hh1 with ⟨h_33, hh1⟩ | ⟨h_33, hh1⟩
    rotate_left
    · refine PC.cond_false rfl h_33 ?_
      refine PC.skip ?_
      refine inA_n ?_
      refine thA_n ?_
      obtain ⟨n34, h_35, hh1⟩ := bind_some hh1
      refine PC.region ?_
      refine PL.op rfl (Rd.addM rfl rfl h_35) ?_
      refine PL.op rfl (Rd.moveT rfl) ?_
      refine PL.nil ?_
      obtain rfl := some_in hh1
      refine thA_n ?_
      exact ⟨(f17, n34), Nat.lt_succ_self _, kk1, [some 0, some 1, some 2, some 3], ⟨rfl, rfl, ⟨⟨_, rfl, rfl, rfl, .mx ⟨.t _, trivial⟩⟩, ⟨_, rfl, rfl, rfl, .mx ⟨.t _, .t _, trivial⟩⟩, ⟨_, rfl, rfl, rfl, .mx ⟨.os rfl, trivial⟩⟩, ⟨_, rfl, rfl, rfl, .tr _⟩, trivial⟩, ⟨.t _, .op rfl, .op rfl, .op rfl, .os rfl, .t _, .t _, trivial⟩⟩⟩
    refine PC.cond_true rfl h_33 ?_
    refine PC.seq ?_
    refine PC.region ?_
    refine PL.op rfl (Rd.fieldO rfl rfl) ?_
    refine PL.op rfl (Rd.loadO rfl rfl rfl) ?_
    refine PL.op rfl (Rd.moveT rfl) ?_
    refine PL.op rfl (Rd.loadBox rfl rfl rfl) ?_
    refine PL.op rfl (Rd.ixOM rfl rfl rfl (ixI_lt h_30)) ?_
    refine PL.frz hs 5 7 [(34, .tup [.agg [sL r31.1.slots], iA r31.2.1, bA r31.2.2]), (31, .tup [.agg [sL r31.1.slots], iA r31.2.1, bA r31.2.2]), (35, .agg [sL r31.1.slots]), (42, .agg [sL r31.1.slots])] [some ⟨.mx [.t (.v (.slice none 0 0))], 58, 0⟩, some ⟨.mx [iA (0 : Int), iA (0 : Int)], 62, 0⟩, some ⟨.mx [.os 3 0 r4.pages.length], 58, 0⟩, some ⟨.tr (eL r4.pages), 25, 1⟩, some ⟨.mx [sL x29.slots], 25, 0⟩, none, some ⟨.mx [sL r31.1.slots], 25, 0⟩] rfl rfl ⟨(.tupL ⟨(.aggL ⟨(.own rfl (by decide) rfl rfl), trivial⟩), (.t _), (.t _), trivial⟩), (.tupL ⟨(.aggL ⟨(.own rfl (by decide) rfl rfl), trivial⟩), (.t _), (.t _), trivial⟩), (.aggL ⟨(.own rfl (by decide) rfl rfl), trivial⟩), (.aggL ⟨(.own rfl (by decide) rfl rfl), trivial⟩), trivial⟩ ⟨⟨rfl, .inl rfl⟩, ⟨rfl, .inl rfl⟩, ⟨rfl, .inl rfl⟩, ⟨rfl, .inl rfl⟩, ⟨rfl, .inl rfl⟩, ⟨rfl, .inr ⟨_, rfl, rfl, rfl, .mx ⟨(.own rfl (by decide) rfl rfl), trivial⟩⟩⟩, trivial⟩ ?_
    refine PL.stRM r31.1 rfl rfl rfl rfl rfl h_30 rfl ?_
    refine PL.nO [some ⟨.mx [.t (.v (.slice none 0 0))], 58, 0⟩, some ⟨.mx [iA (0 : Int), iA (0 : Int)], 62, 0⟩, some ⟨.mx [.os 3 0 r4.pages.length], 58, 0⟩, some ⟨.tr (eL (r4.pages.set i6.toNat r31.1)), 25, 1⟩, some ⟨.mx [sL x29.slots], 25, 0⟩, none, some ⟨.mx [sL r31.1.slots], 25, 0⟩] rfl ?_
    refine PL.nil ?_
    refine thA_n ?_
    refine PC.seq ?_
    refine PC.region ?_
    refine PL.op rfl (Rd.loadBox rfl rfl rfl) ?_
    refine PL.op rfl (Rd.moveT rfl) ?_
    refine PL.op rfl (Rd.moveT rfl) ?_
    refine PL.op rfl (Rd.build rfl rfl rfl rfl) ?_
    refine PL.store rfl rfl rfl rfl rfl rfl rfl ?_
    refine PL.nO [some ⟨.mx [.os 3 0 r4.pages.length], 58, 0⟩, some ⟨.mx [iA (0 : Int), iA (0 : Int)], 62, 0⟩, some ⟨.mx [.os 3 0 r4.pages.length], 58, 0⟩, some ⟨.tr (eL (r4.pages.set i6.toNat r31.1)), 25, 1⟩, some ⟨.mx [sL x29.slots], 25, 0⟩, none, some ⟨.mx [sL r31.1.slots], 25, 0⟩] rfl ?_
    refine PL.store rfl rfl rfl rfl rfl rfl rfl ?_
    refine PL.nO [some ⟨.mx [.os 3 0 r4.pages.length], 58, 0⟩, some ⟨.mx [iA i6, iA r31.2.1], 62, 0⟩, some ⟨.mx [.os 3 0 r4.pages.length], 58, 0⟩, some ⟨.tr (eL (r4.pages.set i6.toNat r31.1)), 25, 1⟩, some ⟨.mx [sL x29.slots], 25, 0⟩, none, some ⟨.mx [sL r31.1.slots], 25, 0⟩] rfl ?_
    refine PL.op rfl (Rd.asnT rfl) ?_
    refine PL.nil ?_
    refine thA_n ?_
    refine PC.ret ?_
    refine inA_r ?_
    refine thA_r ?_
    refine thA_r ?_
    refine inA_r ?_
    refine thA_r ?_
    obtain rfl := some_in hh1
    obtain rfl : (.inr ((I_Heap.mk (r4.pages.set i6.toNat r31.1)), (I_Rid.mk i6 r31.2.1), true) : Unit ⊕ (I_Heap × I_Rid × Bool)) = o15 := kk1
    refine thA_r ?_
    obtain rfl := some_in hh0
    exact FinA.mk (r := .tup [.agg [.os 0 0 ((((I_Heap.mk (r4.pages.set i6.toNat r31.1)), (I_Rid.mk i6 r31.2.1), true).1.pages).length)], .agg [iA (((I_Heap.mk (r4.pages.set i6.toNat r31.1)), (I_Rid.mk i6 r31.2.1), true).2.1.page), iA (((I_Heap.mk (r4.pages.set i6.toNat r31.1)), (I_Rid.mk i6 r31.2.1), true).2.1.slot)], bA (((I_Heap.mk (r4.pages.set i6.toNat r31.1)), (I_Rid.mk i6 r31.2.1), true).2.2)]) (bl := [⟨.tr (eL (((I_Heap.mk (r4.pages.set i6.toNat r31.1)), (I_Rid.mk i6 r31.2.1), true).1.pages)), 25, 1⟩]) [some 3] (.inl rfl) rfl (rl := [.cell 4 58, .cell 5 62, .tmp 6]) (.cellN rfl rfl rfl rfl (.cellN rfl rfl rfl rfl (.tmp .nil))) rfl rfl rfl (.tupL ⟨.aggL ⟨.osE rfl (by simp only [List.length_set]), trivial⟩, .aggL ⟨.t _, .t _, trivial⟩, .t _, trivial⟩) ⟨⟨_, rfl, rfl, rfl, .tr _⟩, trivial⟩ ⟨rfl, rfl⟩
  clear hh0
  rintro ⟨⟩ hh0
  replace hh0 : m_I_HeapInsert_k1 N p_data r4  = some r := hh0
  unfold m_I_HeapInsert_k1 at hh0
  refine thA_n ?_
  refine PC.seq ?_
  obtain ⟨r20, h_21, hh0⟩ := bind_some hh0
  refine PC.region ?_
  refine PL.op rfl (Rd.build rfl rfl rfl rfl) ?_
  refine PL.op rfl (Rd.moveT rfl) ?_
  refine PL.callM false [] (w_I_PutSlot N (I_Page.mk ([] : List I_Slot)) p_data r20 h_21) rfl Try.call22 rfl ⟨.aggL ⟨Sb.nilE, trivial⟩, .t _, trivial⟩ rfl trivial (fun h => by cases h) ?_
  refine PL.nm (.tup [.agg [.os 4 0 r20.1.slots.length], iA r20.2.1, bA r20.2.2]) [some ⟨.mx [.t (.v (.slice none 0 0))], 58, 0⟩, some ⟨.mx [iA (0 : Int), iA (0 : Int)], 62, 0⟩, some ⟨.mx [.os 3 0 r4.pages.length], 58, 0⟩, some ⟨.tr (eL r4.pages), 25, 1⟩, some ⟨.tr (eL r20.1.slots), 35, 2⟩] rfl rfl ?_
  refine PL.op rfl (Rd.moveU rfl) ?_
  refine PL.op rfl (Rd.extract rfl rfl) ?_
  refine PL.op rfl (Rd.extract rfl rfl) ?_
  refine PL.op rfl (Rd.extract rfl rfl) ?_
  refine PL.ef rfl (Ef.alloc rfl rfl) ?_
  refine PL.nm (.op 5 0) [some ⟨.mx [.t (.v (.slice none 0 0))], 58, 0⟩, some ⟨.mx [iA (0 : Int), iA (0 : Int)], 62, 0⟩, some ⟨.mx [.os 3 0 r4.pages.length], 58, 0⟩, some ⟨.tr (eL r4.pages), 25, 1⟩, some ⟨.tr (eL r20.1.slots), 35, 2⟩, some ⟨.mx [.t (.v (.slice none 0 0))], 25, 0⟩] rfl rfl ?_
  refine PL.store rfl rfl rfl rfl rfl rfl rfl ?_
  refine PL.nO [some ⟨.mx [.t (.v (.slice none 0 0))], 58, 0⟩, some ⟨.mx [iA (0 : Int), iA (0 : Int)], 62, 0⟩, some ⟨.mx [.os 3 0 r4.pages.length], 58, 0⟩, some ⟨.tr (eL r4.pages), 25, 1⟩, some ⟨.tr (eL r20.1.slots), 35, 2⟩, some ⟨.mx [.os 4 0 r20.1.slots.length], 25, 0⟩] rfl ?_
  refine PL.op rfl (Rd.asnT rfl) ?_
  refine PL.op rfl (Rd.asnT rfl) ?_
  refine PL.nil ?_
  refine thA_n ?_
  refine PC.seq ?_
  refine PC.seq ?_
  rcases cond_some hh0 with ⟨h_22, hh0⟩ | ⟨h_22, hh0⟩
  rotate_left
  · refine PC.region ?_
    refine PL.op rfl (Rd.moveT rfl) ?_
    refine PL.op rfl (Rd.unnot rfl) ?_
    refine PL.op rfl (Rd.moveT rfl) ?_
    refine PL.guard_off rfl rfl (not_f h_22) ?_
    refine PL.guard_off rfl rfl (not_f h_22) ?_
    refine PL.guard_off rfl rfl (not_f h_22) ?_
    refine PL.guard_off rfl rfl (not_f h_22) ?_
    refine PL.op rfl (Rd.pick_t rfl (not_f h_22)) ?_
    refine PL.nil ?_
    refine thA_n ?_
    refine PC.cond_true rfl rfl ?_
    refine PC.seq ?_
    refine PC.region ?_
    refine PL.op rfl (Rd.build rfl rfl rfl rfl) ?_
    refine PL.op rfl (Rd.build rfl rfl rfl rfl) ?_
    refine PL.store rfl rfl rfl rfl rfl rfl rfl ?_
    refine PL.store rfl rfl rfl rfl rfl rfl rfl ?_
    refine PL.op rfl (Rd.asnT rfl) ?_
    refine PL.nil ?_
    refine thA_n ?_
    refine PC.ret ?_
    refine thA_r ?_
    obtain rfl := some_in hh0
    exact FinA.mk (r := .tup [.agg [.os 0 0 ((((I_Heap.mk ([] : List I_Page)), (I_Rid.mk (0 : Int) (0 : Int)), false).1.pages).length)], .agg [iA (((I_Heap.mk ([] : List I_Page)), (I_Rid.mk (0 : Int) (0 : Int)), false).2.1.page), iA (((I_Heap.mk ([] : List I_Page)), (I_Rid.mk (0 : Int) (0 : Int)), false).2.1.slot)], bA (((I_Heap.mk ([] : List I_Page)), (I_Rid.mk (0 : Int) (0 : Int)), false).2.2)]) (bl := [⟨.tr (eL (((I_Heap.mk ([] : List I_Page)), (I_Rid.mk (0 : Int) (0 : Int)), false).1.pages)), 25, 1⟩]) [none] (.inl rfl) rfl (rl := [.cell 4 58, .cell 5 62, .tmp 6]) (.cellN rfl rfl rfl rfl (.cellN rfl rfl rfl rfl (.tmp .nil))) rfl rfl rfl (.tupL ⟨.aggL ⟨.osn rfl, trivial⟩, .aggL ⟨.t _, .t _, trivial⟩, .t _, trivial⟩) ⟨ow_nil _, trivial⟩ ⟨rfl, rfl⟩
  refine PC.region ?_
  refine PL.op rfl (Rd.moveT rfl) ?_
  refine PL.op rfl (Rd.unnot rfl) ?_
  refine PL.op rfl (Rd.moveT rfl) ?_
  refine PL.guard_on rfl (not_t h_22) ?_
  refine PL.op rfl (Rd.fieldO rfl rfl) ?_
  refine PL.guard_on rfl (not_t h_22) ?_
  refine PL.op rfl (Rd.loadO rfl rfl rfl) ?_
  refine PL.guard_on rfl (not_t h_22) ?_
  refine PL.op rfl (Rd.lenO rfl rfl) ?_
  refine PL.guard_on rfl (not_t h_22) ?_
  refine PL.op rfl (Rd.eql rfl rfl) ?_
  refine PL.op rfl (Rd.pick_f rfl (not_t h_22)) ?_
  refine PL.nil ?_
  refine thA_n ?_
  rcases cond_some hh0 with ⟨h_23, hh0⟩ | ⟨h_23, hh0⟩
  · refine PC.cond_true rfl h_23 ?_
    refine PC.seq ?_
    refine PC.region ?_
    refine PL.op rfl (Rd.build rfl rfl rfl rfl) ?_
    refine PL.op rfl (Rd.build rfl rfl rfl rfl) ?_
    refine PL.store rfl rfl rfl rfl rfl rfl rfl ?_
    refine PL.store rfl rfl rfl rfl rfl rfl rfl ?_
    refine PL.op rfl (Rd.asnT rfl) ?_
    refine PL.nil ?_
    refine thA_n ?_
    refine PC.ret ?_
    refine thA_r ?_
    obtain rfl := some_in hh0
    exact FinA.mk (r := .tup [.agg [.os 0 0 ((((I_Heap.mk ([] : List I_Page)), (I_Rid.mk (0 : Int) (0 : Int)), false).1.pages).length)], .agg [iA (((I_Heap.mk ([] : List I_Page)), (I_Rid.mk (0 : Int) (0 : Int)), false).2.1.page), iA (((I_Heap.mk ([] : List I_Page)), (I_Rid.mk (0 : Int) (0 : Int)), false).2.1.slot)], bA (((I_Heap.mk ([] : List I_Page)), (I_Rid.mk (0 : Int) (0 : Int)), false).2.2)]) (bl := [⟨.tr (eL (((I_Heap.mk ([] : List I_Page)), (I_Rid.mk (0 : Int) (0 : Int)), false).1.pages)), 25, 1⟩]) [none] (.inl rfl) rfl (rl := [.cell 4 58, .cell 5 62, .tmp 6]) (.cellN rfl rfl rfl rfl (.cellN rfl rfl rfl rfl (.tmp .nil))) rfl rfl rfl (.tupL ⟨.aggL ⟨.osn rfl, trivial⟩, .aggL ⟨.t _, .t _, trivial⟩, .t _, trivial⟩) ⟨ow_nil _, trivial⟩ ⟨rfl, rfl⟩
  refine PC.cond_false rfl h_23 ?_
  refine PC.skip ?_
  refine thA_n ?_
  refine PC.seq ?_
  obtain ⟨xs24, h_25, hh0⟩ := bind_some hh0
  refine PC.region ?_
  refine PL.op rfl (Rd.fieldO rfl rfl) ?_
  refine PL.op rfl (Rd.loadO rfl rfl rfl) ?_
  refine PL.op rfl (Rd.loadBox rfl rfl rfl) ?_
  refine PL.frz hs 4 6 [(52, .tup [.agg [sL r20.1.slots], iA r20.2.1, bA r20.2.2]), (49, .tup [.agg [sL r20.1.slots], iA r20.2.1, bA r20.2.2]), (53, .agg [sL r20.1.slots]), (68, .agg [sL r20.1.slots])] [some ⟨.mx [.t (.v (.slice none 0 0))], 58, 0⟩, some ⟨.mx [iA (0 : Int), iA (0 : Int)], 62, 0⟩, some ⟨.mx [.os 3 0 r4.pages.length], 58, 0⟩, some ⟨.tr (eL r4.pages), 25, 1⟩, none, some ⟨.mx [sL r20.1.slots], 25, 0⟩] rfl rfl ⟨(.tupL ⟨(.aggL ⟨(.own rfl (by decide) rfl rfl), trivial⟩), (.t _), (.t _), trivial⟩), (.tupL ⟨(.aggL ⟨(.own rfl (by decide) rfl rfl), trivial⟩), (.t _), (.t _), trivial⟩), (.aggL ⟨(.own rfl (by decide) rfl rfl), trivial⟩), (.aggL ⟨(.own rfl (by decide) rfl rfl), trivial⟩), trivial⟩ ⟨⟨rfl, .inl rfl⟩, ⟨rfl, .inl rfl⟩, ⟨rfl, .inl rfl⟩, ⟨rfl, .inl rfl⟩, ⟨rfl, .inr ⟨_, rfl, rfl, rfl, .mx ⟨(.own rfl (by decide) rfl rfl), trivial⟩⟩⟩, trivial⟩ ?_
  refine PL.ef rfl (Ef.litM (α := I_Page) [r20.1] [_] rfl rfl (by decide) rfl rfl rfl rfl) ?_
  refine PL.nm (.os 6 0 1) [some ⟨.mx [.t (.v (.slice none 0 0))], 58, 0⟩, some ⟨.mx [iA (0 : Int), iA (0 : Int)], 62, 0⟩, some ⟨.mx [.os 3 0 r4.pages.length], 58, 0⟩, some ⟨.tr (eL r4.pages), 25, 1⟩, none, some ⟨.mx [sL r20.1.slots], 25, 0⟩, some ⟨.tr (eL [r20.1]), 25, 1⟩] rfl rfl ?_
  refine PL.apM hs rfl rfl rfl rfl (SrcA.ownE rfl rfl rfl) rfl rfl rfl rfl h_25 ?_
  refine PL.nm (.os 7 0 xs24.length) [some ⟨.mx [.t (.v (.slice none 0 0))], 58, 0⟩, some ⟨.mx [iA (0 : Int), iA (0 : Int)], 62, 0⟩, some ⟨.mx [.os 3 0 r4.pages.length], 58, 0⟩, none, none, some ⟨.mx [sL r20.1.slots], 25, 0⟩, some ⟨.tr (eL [r20.1]), 25, 1⟩, some ⟨.tr (eL xs24), 25, 1⟩] rfl rfl ?_
  refine PL.op rfl (Rd.fieldO rfl rfl) ?_
  refine PL.store rfl rfl rfl rfl rfl rfl rfl ?_
  refine PL.nO [some ⟨.mx [.t (.v (.slice none 0 0))], 58, 0⟩, some ⟨.mx [iA (0 : Int), iA (0 : Int)], 62, 0⟩, some ⟨.mx [.os 7 0 xs24.length], 58, 0⟩, none, none, some ⟨.mx [sL r20.1.slots], 25, 0⟩, some ⟨.tr (eL [r20.1]), 25, 1⟩, some ⟨.tr (eL xs24), 25, 1⟩] rfl ?_
  refine PL.nil ?_
  refine thA_n ?_
  refine PC.seq ?_
  obtain ⟨n26, h_27, hh0⟩ := bind_some hh0
  refine PC.any (id := 16) 10 (.seg [0, 1, 2, 3, 4, 5, 6, 7, 8, 9] .done) [0, 1] rfl (by kernel_rfl) rfl ?_
  refine PT.seg ?_
  refine PR.op rfl (Rd.loadBox rfl rfl rfl) ?_
  refine PR.op rfl (Rd.fieldO rfl rfl) ?_
  refine PR.op rfl (Rd.loadO rfl rfl rfl) ?_
  refine PR.op rfl (Rd.lenO rfl rfl) ?_
  refine PR.op rfl (Rd.subM rfl rfl h_27) ?_
  refine PR.op rfl (Rd.moveT rfl) ?_
  refine PR.op rfl (Rd.build rfl rfl rfl rfl) ?_
  refine PR.store rfl rfl rfl rfl rfl rfl rfl rfl ?_
  refine PR.nO [some ⟨.mx [.os 7 0 xs24.length], 58, 0⟩, some ⟨.mx [iA (0 : Int), iA (0 : Int)], 62, 0⟩, some ⟨.mx [.os 7 0 xs24.length], 58, 0⟩, none, none, some ⟨.mx [sL r20.1.slots], 25, 0⟩, some ⟨.tr (eL [r20.1]), 25, 1⟩, some ⟨.tr (eL xs24), 25, 1⟩] rfl ?_
  refine PR.store rfl rfl rfl rfl rfl rfl rfl rfl ?_
  refine PR.nO [some ⟨.mx [.os 7 0 xs24.length], 58, 0⟩, some ⟨.mx [iA n26, iA r20.2.1], 62, 0⟩, some ⟨.mx [.os 7 0 xs24.length], 58, 0⟩, none, none, some ⟨.mx [sL r20.1.slots], 25, 0⟩, some ⟨.tr (eL [r20.1]), 25, 1⟩, some ⟨.tr (eL xs24), 25, 1⟩] rfl ?_
  refine PR.op rfl (Rd.asnT rfl) ?_
  refine PR.nil ?_
  refine PT.done ?_
  refine PL.nil ?_
  refine thA_n ?_
  refine PC.ret ?_
  obtain rfl := some_in hh0
  exact FinA.mk (r := .tup [.agg [.os 0 0 ((((I_Heap.mk xs24), (I_Rid.mk n26 r20.2.1), true).1.pages).length)], .agg [iA (((I_Heap.mk xs24), (I_Rid.mk n26 r20.2.1), true).2.1.page), iA (((I_Heap.mk xs24), (I_Rid.mk n26 r20.2.1), true).2.1.slot)], bA (((I_Heap.mk xs24), (I_Rid.mk n26 r20.2.1), true).2.2)]) (bl := [⟨.tr (eL (((I_Heap.mk xs24), (I_Rid.mk n26 r20.2.1), true).1.pages)), 25, 1⟩]) [some 7] (.inl rfl) rfl (rl := [.cell 4 58, .cell 5 62, .tmp 6]) (.cellN rfl rfl rfl rfl (.cellN rfl rfl rfl rfl (.tmp .nil))) rfl rfl rfl (.tupL ⟨.aggL ⟨.os rfl, trivial⟩, .aggL ⟨.t _, .t _, trivial⟩, .t _, trivial⟩) ⟨⟨_, rfl, rfl, rfl, .tr _⟩, trivial⟩ ⟨rfl, rfl⟩

def m_I_Heap_has (N : Nat) (p_h : I_Heap) (p_page : Int) : Option (Bool) :=
  cond (decide ((0 : Int) ≤ p_page))
    (some (decide (p_page < (p_h.pages.length : Int))))
    (some false)
theorem w_I_Heap_has (N : Nat) (p_h : I_Heap) (p_page : Int) (r : Bool) (hh0 : m_I_Heap_has N p_h p_page = some r) : FnX Try.prog 83 [] [.agg [sL p_h.pages], iA p_page] (RE (bA r) []) := by
  unfold m_I_Heap_has at hh0
  refine FnX.mk Try.func83 rfl rfl ?_
  intro s hs
  refine PC.seq ?_
  refine PC.region ?_
  refine PL.ef rfl (Ef.box rfl rfl rfl) ?_
  refine PL.nm (.op 0 0) [some ⟨.mx [sL p_h.pages], 58, 0⟩] rfl rfl ?_
  refine PL.op rfl (Rd.asnT rfl) ?_
  refine PL.nil ?_
  refine thA_n ?_
  refine PC.seq ?_
  rcases cond_some hh0 with ⟨h_1, hh0⟩ | ⟨h_1, hh0⟩
  rotate_left
  · refine PC.region ?_
    refine PL.op rfl (Rd.moveT rfl) ?_
    refine PL.op rfl (Rd.geq rfl rfl) ?_
    refine PL.op rfl (Rd.moveT rfl) ?_
    refine PL.guard_off rfl rfl h_1 ?_
    refine PL.guard_off rfl rfl h_1 ?_
    refine PL.guard_off rfl rfl h_1 ?_
    refine PL.guard_off rfl rfl h_1 ?_
    refine PL.guard_off rfl rfl h_1 ?_
    refine PL.op rfl (Rd.pick_f rfl h_1) ?_
    refine PL.op rfl (Rd.asnT rfl) ?_
    refine PL.nil ?_
    refine thA_n ?_
    refine PC.ret ?_
    obtain rfl := some_in hh0
    exact FinA.mk (r := bA false) (bl := []) [] (.inl rfl) rfl (rl := [.tmp 4]) (.tmp .nil) rfl rfl rfl (.t _) trivial ⟨rfl, rfl⟩
  refine PC.region ?_
  refine PL.op rfl (Rd.moveT rfl) ?_
  refine PL.op rfl (Rd.geq rfl rfl) ?_
  refine PL.op rfl (Rd.moveT rfl) ?_
  refine PL.guard_on rfl h_1 ?_
  refine PL.op rfl (Rd.moveT rfl) ?_
  refine PL.guard_on rfl h_1 ?_
  refine PL.op rfl (Rd.fieldO rfl rfl) ?_
  refine PL.guard_on rfl h_1 ?_
  refine PL.op rfl (Rd.loadO rfl rfl rfl) ?_
  refine PL.guard_on rfl h_1 ?_
  refine PL.op rfl (Rd.lenT rfl) ?_
  refine PL.guard_on rfl h_1 ?_
  refine PL.op rfl (Rd.lss rfl rfl) ?_
  refine PL.op rfl (Rd.pick_t rfl h_1) ?_
  refine PL.op rfl (Rd.asnT rfl) ?_
  refine PL.nil ?_
  refine thA_n ?_
  refine PC.ret ?_
  obtain rfl := some_in hh0
  exact FinA.mk (r := bA (decide (p_page < (p_h.pages.length : Int)))) (bl := []) [] (.inl rfl) rfl (rl := [.tmp 4]) (.tmp .nil) rfl rfl rfl (.t _) trivial ⟨rfl, rfl⟩

def m_I_HeapDelete (N : Nat) (p_h : I_Heap) (p_r : I_Rid) : Option (I_Heap × Bool) :=
  (m_I_ValidHeap N p_h).bind fun r1 =>
  cond r1
    ((m_I_Heap_has N p_h p_r.page).bind fun r4 =>
    cond r4
      ((ixI p_h.pages p_r.page).bind fun x7 =>
      (m_I_ClearSlot N x7 p_r.slot).bind fun r9 =>
      cond r9.2
        ((m_I_Heap_clone N p_h).bind fun r12 =>
        (ixI r12.pages p_r.page).bind fun x14 =>
        some ((I_Heap.mk (r12.pages.set p_r.page.toNat r9.1)), true))
        (some ((I_Heap.mk ([] : List I_Page)), false)))
      (some ((I_Heap.mk ([] : List I_Page)), false)))
    (some ((I_Heap.mk ([] : List I_Page)), false))
theorem w_I_HeapDelete (N : Nat) (p_h : I_Heap) (p_r : I_Rid) (r : I_Heap × Bool) (hh0 : m_I_HeapDelete N p_h p_r = some r) : FnX Try.prog 46 [] [.agg [sL p_h.pages], .agg [iA p_r.page, iA p_r.slot]] (RE (.tup [.agg [.os 0 0 r.1.pages.length], bA r.2]) [⟨.tr (eL r.1.pages), 25, 1⟩]) := by
  unfold m_I_HeapDelete at hh0
  refine FnX.mk Try.func46 rfl rfl ?_
  intro s hs
  refine PC.seq ?_
  refine PC.region ?_
  refine PL.ef rfl (Ef.box rfl rfl rfl) ?_
  refine PL.nm (.op 0 0) [some ⟨.mx [sL p_h.pages], 58, 0⟩] rfl rfl ?_
  refine PL.ef rfl (Ef.box rfl rfl rfl) ?_
  refine PL.nm (.op 1 0) [some ⟨.mx [sL p_h.pages], 58, 0⟩, some ⟨.mx [iA p_r.page, iA p_r.slot], 62, 0⟩] rfl rfl ?_
  refine PL.ef rfl (Ef.alloc rfl rfl) ?_
  refine PL.nm (.op 2 0) [some ⟨.mx [sL p_h.pages], 58, 0⟩, some ⟨.mx [iA p_r.page, iA p_r.slot], 62, 0⟩, some ⟨.mx [.t (.v (.slice none 0 0))], 58, 0⟩] rfl rfl ?_
  refine PL.op rfl (Rd.asnT rfl) ?_
  refine PL.nil ?_
  refine thA_n ?_
  refine PC.seq ?_
  refine PC.seq ?_
  obtain ⟨r1, h_2, hh0⟩ := bind_some hh0
  rcases cond_some hh0 with ⟨h_3, hh0⟩ | ⟨h_3, hh0⟩
  rotate_left
  · refine PC.region ?_
    refine PL.op rfl (Rd.loadBox rfl rfl rfl) ?_
    refine PL.callM false [] (w_I_ValidHeap N p_h r1 h_2) rfl Try.call78 rfl ⟨.aggL ⟨.t _, trivial⟩, trivial⟩ rfl trivial (fun h => by cases h) ?_
    refine PL.op rfl (Rd.unnot rfl) ?_
    refine PL.op rfl (Rd.moveT rfl) ?_
    refine PL.guard_off rfl rfl (not_f h_3) ?_
    refine PL.guard_off rfl rfl (not_f h_3) ?_
    refine PL.guard_off rfl rfl (not_f h_3) ?_
    refine PL.guard_off rfl rfl (not_f h_3) ?_
    refine PL.guard_off rfl rfl (not_f h_3) ?_
    refine PL.op rfl (Rd.pick_t rfl (not_f h_3)) ?_
    refine PL.nil ?_
    refine thA_n ?_
    refine PC.cond_true rfl rfl ?_
    refine PC.seq ?_
    refine PC.region ?_
    refine PL.op rfl (Rd.build rfl rfl rfl rfl) ?_
    refine PL.store rfl rfl rfl rfl rfl rfl rfl ?_
    refine PL.op rfl (Rd.asnT rfl) ?_
    refine PL.nil ?_
    refine thA_n ?_
    refine PC.ret ?_
    refine thA_r ?_
    obtain rfl := some_in hh0
    exact FinA.mk (r := .tup [.agg [.os 0 0 ((((I_Heap.mk ([] : List I_Page)), false).1.pages).length)], bA (((I_Heap.mk ([] : List I_Page)), false).2)]) (bl := [⟨.tr (eL (((I_Heap.mk ([] : List I_Page)), false).1.pages)), 25, 1⟩]) [none] (.inl rfl) rfl (rl := [.cell 4 58, .tmp 5]) (.cellN rfl rfl rfl rfl (.tmp .nil)) rfl rfl rfl (.tupL ⟨.aggL ⟨.osn rfl, trivial⟩, .t _, trivial⟩) ⟨ow_nil _, trivial⟩ ⟨rfl, rfl⟩
  obtain ⟨r4, h_5, hh0⟩ := bind_some hh0
  refine PC.region ?_
  refine PL.op rfl (Rd.loadBox rfl rfl rfl) ?_
  refine PL.callM false [] (w_I_ValidHeap N p_h r1 h_2) rfl Try.call78 rfl ⟨.aggL ⟨.t _, trivial⟩, trivial⟩ rfl trivial (fun h => by cases h) ?_
  refine PL.op rfl (Rd.unnot rfl) ?_
  refine PL.op rfl (Rd.moveT rfl) ?_
  refine PL.guard_on rfl (not_t h_3) ?_
  refine PL.op rfl (Rd.loadBox rfl rfl rfl) ?_
  refine PL.guard_on rfl (not_t h_3) ?_
  refine PL.op rfl (Rd.fieldO rfl rfl) ?_
  refine PL.guard_on rfl (not_t h_3) ?_
  refine PL.op rfl (Rd.loadO rfl rfl rfl) ?_
  refine PL.guard_on rfl (not_t h_3) ?_
  refine PL.callM false [] (w_I_Heap_has N p_h p_r.page r4 h_5) rfl Try.call83 rfl ⟨.aggL ⟨.t _, trivial⟩, .t _, trivial⟩ rfl trivial (fun h => by cases h) ?_
  refine PL.guard_on rfl (not_t h_3) ?_
  refine PL.op rfl (Rd.unnot rfl) ?_
  refine PL.op rfl (Rd.pick_f rfl (not_t h_3)) ?_
  refine PL.nil ?_
  refine thA_n ?_
  rcases cond_some hh0 with ⟨h_6, hh0⟩ | ⟨h_6, hh0⟩
  rotate_left
  · refine PC.cond_true rfl (not_f h_6) ?_
    refine PC.seq ?_
    refine PC.region ?_
    refine PL.op rfl (Rd.build rfl rfl rfl rfl) ?_
    refine PL.store rfl rfl rfl rfl rfl rfl rfl ?_
    refine PL.op rfl (Rd.asnT rfl) ?_
    refine PL.nil ?_
    refine thA_n ?_
    refine PC.ret ?_
    refine thA_r ?_
    obtain rfl := some_in hh0
    exact FinA.mk (r := .tup [.agg [.os 0 0 ((((I_Heap.mk ([] : List I_Page)), false).1.pages).length)], bA (((I_Heap.mk ([] : List I_Page)), false).2)]) (bl := [⟨.tr (eL (((I_Heap.mk ([] : List I_Page)), false).1.pages)), 25, 1⟩]) [none] (.inl rfl) rfl (rl := [.cell 4 58, .tmp 5]) (.cellN rfl rfl rfl rfl (.tmp .nil)) rfl rfl rfl (.tupL ⟨.aggL ⟨.osn rfl, trivial⟩, .t _, trivial⟩) ⟨ow_nil _, trivial⟩ ⟨rfl, rfl⟩
  refine PC.cond_false rfl (not_t h_6) ?_
  refine PC.skip ?_
  refine thA_n ?_
  obtain ⟨x7, h_8, hh0⟩ := bind_some hh0
  obtain ⟨r9, h_10, hh0⟩ := bind_some hh0
  refine PC.cut hs (fun _ : Unit => [(2, .op 0 0), (3, .op 1 0), (4, .op 2 0), (6, .op 3 0), (7, bA r9.2)]) (fun _ => [⟨.mx [sL p_h.pages], 58, 0⟩, ⟨.mx [iA p_r.page, iA p_r.slot], 62, 0⟩, ⟨.mx [.t (.v (.slice none 0 0))], 58, 0⟩, ⟨.mx [.os 4 0 r9.1.slots.length], 25, 0⟩, ⟨.tr (eL r9.1.slots), 35, 2⟩]) (fun _ => True) ?_ ?_
  · refine PC.any (id := 3) 15 (.seg [0, 1, 2, 3, 4, 5, 6, 7] (.fork (.seg [8, 9, 10, 11, 12, 13, 14] .done) (.seg [12, 8, 9, 10, 11, 13, 14] .done))) [] rfl (by kernel_rfl) rfl ?_
    refine PT.seg ?_
    refine PR.op rfl (Rd.fieldO rfl rfl) ?_
    refine PR.op rfl (Rd.loadO rfl rfl rfl) ?_
    refine PR.op rfl (Rd.fieldO rfl rfl) ?_
    refine PR.op rfl (Rd.loadO rfl rfl rfl) ?_
    refine PR.op rfl (Rd.ixM rfl rfl h_8) ?_
    refine PR.op rfl (Rd.elMR rfl h_8 rfl rfl) ?_
    refine PR.op rfl (Rd.fieldO rfl rfl) ?_
    refine PR.op rfl (Rd.loadO rfl rfl rfl) ?_
    refine PR.nil ?_
    refine PT.fork ?_ ?_
    · refine PT.seg ?_
      refine PR.callM false [] (w_I_ClearSlot N x7 p_r.slot r9 h_10) rfl Try.call32 rfl ⟨.aggL ⟨.t _, trivial⟩, .t _, trivial⟩ rfl trivial (fun h => by cases h) rfl ?_
      refine PR.nm (.tup [.agg [.os 3 0 r9.1.slots.length], bA r9.2]) [some ⟨.mx [sL p_h.pages], 58, 0⟩, some ⟨.mx [iA p_r.page, iA p_r.slot], 62, 0⟩, some ⟨.mx [.t (.v (.slice none 0 0))], 58, 0⟩, some ⟨.tr (eL r9.1.slots), 35, 2⟩] rfl rfl ?_
      refine PR.op rfl (Rd.moveU rfl) ?_
      refine PR.op rfl (Rd.extract rfl rfl) ?_
      refine PR.op rfl (Rd.extract rfl rfl) ?_
      refine PR.efX rfl rfl (Ef.alloc rfl rfl) ?_
      refine PR.nm (.op 4 0) [some ⟨.mx [sL p_h.pages], 58, 0⟩, some ⟨.mx [iA p_r.page, iA p_r.slot], 62, 0⟩, some ⟨.mx [.t (.v (.slice none 0 0))], 58, 0⟩, some ⟨.tr (eL r9.1.slots), 35, 2⟩, some ⟨.mx [.t (.v (.slice none 0 0))], 25, 0⟩] rfl rfl ?_
      refine PR.store rfl rfl rfl rfl rfl rfl rfl rfl ?_
      refine PR.nO [some ⟨.mx [sL p_h.pages], 58, 0⟩, some ⟨.mx [iA p_r.page, iA p_r.slot], 62, 0⟩, some ⟨.mx [.t (.v (.slice none 0 0))], 58, 0⟩, some ⟨.tr (eL r9.1.slots), 35, 2⟩, some ⟨.mx [.os 3 0 r9.1.slots.length], 25, 0⟩] rfl ?_
      refine PR.op rfl (Rd.asnT rfl) ?_
      refine PR.nil ?_
      refine PT.done ?_
      refine PL.nil ?_
      refine thA_n ?_
      exact ⟨(), trivial, [some 0, some 1, some 2, some 4, some 3], ⟨rfl, rfl, ⟨⟨_, rfl, rfl, rfl, .mx ⟨.t _, trivial⟩⟩, ⟨_, rfl, rfl, rfl, .mx ⟨.t _, .t _, trivial⟩⟩, ⟨_, rfl, rfl, rfl, .mx ⟨.t _, trivial⟩⟩, ⟨_, rfl, rfl, rfl, .mx ⟨.os rfl, trivial⟩⟩, ⟨_, rfl, rfl, rfl, .tr _⟩, trivial⟩, ⟨.op rfl, .op rfl, .op rfl, .op rfl, .t _, trivial⟩⟩⟩
    refine PT.seg ?_
    refine PR.efX rfl rfl (Ef.alloc rfl rfl) ?_
    refine PR.nm (.op 3 0) [some ⟨.mx [sL p_h.pages], 58, 0⟩, some ⟨.mx [iA p_r.page, iA p_r.slot], 62, 0⟩, some ⟨.mx [.t (.v (.slice none 0 0))], 58, 0⟩, some ⟨.mx [.t (.v (.slice none 0 0))], 25, 0⟩] rfl rfl ?_
    refine PR.callM false [] (w_I_ClearSlot N x7 p_r.slot r9 h_10) rfl Try.call32 rfl ⟨.aggL ⟨.t _, trivial⟩, .t _, trivial⟩ rfl trivial (fun h => by cases h) rfl ?_
    refine PR.nm (.tup [.agg [.os 4 0 r9.1.slots.length], bA r9.2]) [some ⟨.mx [sL p_h.pages], 58, 0⟩, some ⟨.mx [iA p_r.page, iA p_r.slot], 62, 0⟩, some ⟨.mx [.t (.v (.slice none 0 0))], 58, 0⟩, some ⟨.mx [.t (.v (.slice none 0 0))], 25, 0⟩, some ⟨.tr (eL r9.1.slots), 35, 2⟩] rfl rfl ?_
    refine PR.op rfl (Rd.moveU rfl) ?_
    refine PR.op rfl (Rd.extract rfl rfl) ?_
    refine PR.op rfl (Rd.extract rfl rfl) ?_
    refine PR.store rfl rfl rfl rfl rfl rfl rfl rfl ?_
    refine PR.nO [some ⟨.mx [sL p_h.pages], 58, 0⟩, some ⟨.mx [iA p_r.page, iA p_r.slot], 62, 0⟩, some ⟨.mx [.t (.v (.slice none 0 0))], 58, 0⟩, some ⟨.mx [.os 4 0 r9.1.slots.length], 25, 0⟩, some ⟨.tr (eL r9.1.slots), 35, 2⟩] rfl ?_
    refine PR.op rfl (Rd.asnT rfl) ?_
    refine PR.nil ?_
    refine PT.done ?_
    refine PL.nil ?_
    refine thA_n ?_
    exact ⟨(), trivial, [some 0, some 1, some 2, some 3, some 4], ⟨rfl, rfl, ⟨⟨_, rfl, rfl, rfl, .mx ⟨.t _, trivial⟩⟩, ⟨_, rfl, rfl, rfl, .mx ⟨.t _, .t _, trivial⟩⟩, ⟨_, rfl, rfl, rfl, .mx ⟨.t _, trivial⟩⟩, ⟨_, rfl, rfl, rfl, .mx ⟨.os rfl, trivial⟩⟩, ⟨_, rfl, rfl, rfl, .tr _⟩, trivial⟩, ⟨.op rfl, .op rfl, .op rfl, .op rfl, .t _, trivial⟩⟩⟩
  rintro ⟨⟩ -
  refine PC.seq ?_
  refine PC.seq ?_
  refine PC.region ?_
  refine PL.op rfl (Rd.moveT rfl) ?_
  refine PL.op rfl (Rd.unnot rfl) ?_
  refine PL.nil ?_
  refine thA_n ?_
  rcases cond_some hh0 with ⟨h_11, hh0⟩ | ⟨h_11, hh0⟩
  rotate_left
  · refine PC.cond_true rfl (not_f h_11) ?_
    refine PC.seq ?_
    refine PC.region ?_
    refine PL.op rfl (Rd.build rfl rfl rfl rfl) ?_
    refine PL.store rfl rfl rfl rfl rfl rfl rfl ?_
    refine PL.op rfl (Rd.asnT rfl) ?_
    refine PL.nil ?_
    refine thA_n ?_
    refine PC.ret ?_
    refine thA_r ?_
    obtain rfl := some_in hh0
    exact FinA.mk (r := .tup [.agg [.os 0 0 ((((I_Heap.mk ([] : List I_Page)), false).1.pages).length)], bA (((I_Heap.mk ([] : List I_Page)), false).2)]) (bl := [⟨.tr (eL (((I_Heap.mk ([] : List I_Page)), false).1.pages)), 25, 1⟩]) [none] (.inl rfl) rfl (rl := [.cell 4 58, .tmp 5]) (.cellN rfl rfl rfl rfl (.tmp .nil)) rfl rfl rfl (.tupL ⟨.aggL ⟨.osn rfl, trivial⟩, .t _, trivial⟩) ⟨ow_nil _, trivial⟩ ⟨rfl, rfl⟩
  refine PC.cond_false rfl (not_t h_11) ?_
  refine PC.skip ?_
  refine thA_n ?_
  refine PC.seq ?_
  obtain ⟨r12, h_13, hh0⟩ := bind_some hh0
  refine PC.region ?_
  refine PL.op rfl (Rd.loadBox rfl rfl rfl) ?_
  refine PL.callM false [] (w_I_Heap_clone N p_h r12 h_13) rfl Try.call79 rfl ⟨.aggL ⟨.t _, trivial⟩, trivial⟩ rfl trivial (fun h => by cases h) ?_
  refine PL.nm (.agg [.os 5 0 r12.pages.length]) [some ⟨.mx [sL p_h.pages], 58, 0⟩, some ⟨.mx [iA p_r.page, iA p_r.slot], 62, 0⟩, some ⟨.mx [.t (.v (.slice none 0 0))], 58, 0⟩, some ⟨.mx [.os 4 0 r9.1.slots.length], 25, 0⟩, some ⟨.tr (eL r9.1.slots), 35, 2⟩, some ⟨.tr (eL r12.pages), 25, 1⟩] rfl rfl ?_
  refine PL.ef rfl (Ef.alloc rfl rfl) ?_
  refine PL.nm (.op 6 0) [some ⟨.mx [sL p_h.pages], 58, 0⟩, some ⟨.mx [iA p_r.page, iA p_r.slot], 62, 0⟩, some ⟨.mx [.t (.v (.slice none 0 0))], 58, 0⟩, some ⟨.mx [.os 4 0 r9.1.slots.length], 25, 0⟩, some ⟨.tr (eL r9.1.slots), 35, 2⟩, some ⟨.tr (eL r12.pages), 25, 1⟩, some ⟨.mx [.t (.v (.slice none 0 0))], 58, 0⟩] rfl rfl ?_
  refine PL.store rfl rfl rfl rfl rfl rfl rfl ?_
  refine PL.nO [some ⟨.mx [sL p_h.pages], 58, 0⟩, some ⟨.mx [iA p_r.page, iA p_r.slot], 62, 0⟩, some ⟨.mx [.t (.v (.slice none 0 0))], 58, 0⟩, some ⟨.mx [.os 4 0 r9.1.slots.length], 25, 0⟩, some ⟨.tr (eL r9.1.slots), 35, 2⟩, some ⟨.tr (eL r12.pages), 25, 1⟩, some ⟨.mx [.os 5 0 r12.pages.length], 58, 0⟩] rfl ?_
  refine PL.nil ?_
  refine thA_n ?_
  refine PC.seq ?_
  obtain ⟨x14, h_15, hh0⟩ := bind_some hh0
  refine PC.region ?_
  refine PL.op rfl (Rd.fieldO rfl rfl) ?_
  refine PL.op rfl (Rd.loadO rfl rfl rfl) ?_
  refine PL.op rfl (Rd.fieldO rfl rfl) ?_
  refine PL.op rfl (Rd.loadO rfl rfl rfl) ?_
  refine PL.op rfl (Rd.loadBox rfl rfl rfl) ?_
  refine PL.op rfl (Rd.ixOM rfl rfl rfl (ixI_lt h_15)) ?_
  refine PL.frz hs 4 7 [(41, .agg [sL r9.1.slots])] [some ⟨.mx [sL p_h.pages], 58, 0⟩, some ⟨.mx [iA p_r.page, iA p_r.slot], 62, 0⟩, some ⟨.mx [.t (.v (.slice none 0 0))], 58, 0⟩, some ⟨.mx [sL r9.1.slots], 25, 0⟩, none, some ⟨.tr (eL r12.pages), 25, 1⟩, some ⟨.mx [.os 5 0 r12.pages.length], 58, 0⟩] rfl rfl ⟨(.aggL ⟨(.own rfl (by decide) rfl rfl), trivial⟩), trivial⟩ ⟨⟨rfl, .inl rfl⟩, ⟨rfl, .inl rfl⟩, ⟨rfl, .inl rfl⟩, ⟨rfl, .inr ⟨_, rfl, rfl, rfl, .mx ⟨(.own rfl (by decide) rfl rfl), trivial⟩⟩⟩, ⟨rfl, .inl rfl⟩, ⟨rfl, .inl rfl⟩, trivial⟩ ?_
  refine PL.stRM r9.1 rfl rfl rfl rfl rfl h_15 rfl ?_
  refine PL.nO [some ⟨.mx [sL p_h.pages], 58, 0⟩, some ⟨.mx [iA p_r.page, iA p_r.slot], 62, 0⟩, some ⟨.mx [.t (.v (.slice none 0 0))], 58, 0⟩, some ⟨.mx [sL r9.1.slots], 25, 0⟩, none, some ⟨.tr (eL (r12.pages.set p_r.page.toNat r9.1)), 25, 1⟩, some ⟨.mx [.os 5 0 r12.pages.length], 58, 0⟩] rfl ?_
  refine PL.nil ?_
  refine thA_n ?_
  refine PC.seq ?_
  refine PC.region ?_
  refine PL.op rfl (Rd.loadBox rfl rfl rfl) ?_
  refine PL.store rfl rfl rfl rfl rfl rfl rfl ?_
  refine PL.nO [some ⟨.mx [sL p_h.pages], 58, 0⟩, some ⟨.mx [iA p_r.page, iA p_r.slot], 62, 0⟩, some ⟨.mx [.os 5 0 r12.pages.length], 58, 0⟩, some ⟨.mx [sL r9.1.slots], 25, 0⟩, none, some ⟨.tr (eL (r12.pages.set p_r.page.toNat r9.1)), 25, 1⟩, some ⟨.mx [.os 5 0 r12.pages.length], 58, 0⟩] rfl ?_
  refine PL.op rfl (Rd.asnT rfl) ?_
  refine PL.nil ?_
  refine thA_n ?_
  refine PC.ret ?_
  obtain rfl := some_in hh0
  exact FinA.mk (r := .tup [.agg [.os 0 0 ((((I_Heap.mk (r12.pages.set p_r.page.toNat r9.1)), true).1.pages).length)], bA (((I_Heap.mk (r12.pages.set p_r.page.toNat r9.1)), true).2)]) (bl := [⟨.tr (eL (((I_Heap.mk (r12.pages.set p_r.page.toNat r9.1)), true).1.pages)), 25, 1⟩]) [some 5] (.inl rfl) rfl (rl := [.cell 4 58, .tmp 5]) (.cellN rfl rfl rfl rfl (.tmp .nil)) rfl rfl rfl (.tupL ⟨.aggL ⟨.osE rfl (by simp only [List.length_set]), trivial⟩, .t _, trivial⟩) ⟨⟨_, rfl, rfl, rfl, .tr _⟩, trivial⟩ ⟨rfl, rfl⟩

def m_I_HeapUpdate (N : Nat) (p_h : I_Heap) (p_r : I_Rid) (p_data : ByteArray) : Option (I_Heap × I_Rid × Bool) :=
  (m_I_ValidHeap N p_h).bind fun r1 =>
  cond r1
    ((m_I_Heap_has N p_h p_r.page).bind fun r4 =>
    cond r4
      ((ixI p_h.pages p_r.page).bind fun x7 =>
      (m_I_SetSlot N x7 p_r.slot p_data).bind fun r9 =>
      cond r9.2
        ((m_I_Heap_clone N p_h).bind fun r12 =>
        (ixI r12.pages p_r.page).bind fun x14 =>
        some ((I_Heap.mk (r12.pages.set p_r.page.toNat r9.1)), p_r, true))
        ((m_I_HeapDelete N p_h p_r).bind fun r16 =>
        cond r16.2
          ((m_I_HeapInsert N r16.1 p_data).bind fun r19 =>
          some (r19.1, r19.2.1, r19.2.2))
          (some ((I_Heap.mk ([] : List I_Page)), (I_Rid.mk (0 : Int) (0 : Int)), false))))
      (some ((I_Heap.mk ([] : List I_Page)), (I_Rid.mk (0 : Int) (0 : Int)), false)))
    (some ((I_Heap.mk ([] : List I_Page)), (I_Rid.mk (0 : Int) (0 : Int)), false))
theorem w_I_HeapUpdate (N : Nat) (p_h : I_Heap) (p_r : I_Rid) (p_data : ByteArray) (r : I_Heap × I_Rid × Bool) (hh0 : m_I_HeapUpdate N p_h p_r p_data = some r) : FnX Try.prog 56 [] [.agg [sL p_h.pages], .agg [iA p_r.page, iA p_r.slot], sA p_data] (RE (.tup [.agg [.os 0 0 r.1.pages.length], .agg [iA r.2.1.page, iA r.2.1.slot], bA r.2.2]) [⟨.tr (eL r.1.pages), 25, 1⟩]) := by
  unfold m_I_HeapUpdate at hh0
  refine FnX.mk Try.func56 rfl rfl ?_
  intro s hs
  refine PC.seq ?_
  refine PC.region ?_
  refine PL.ef rfl (Ef.box rfl rfl rfl) ?_
  refine PL.nm (.op 0 0) [some ⟨.mx [sL p_h.pages], 58, 0⟩] rfl rfl ?_
  refine PL.ef rfl (Ef.box rfl rfl rfl) ?_
  refine PL.nm (.op 1 0) [some ⟨.mx [sL p_h.pages], 58, 0⟩, some ⟨.mx [iA p_r.page, iA p_r.slot], 62, 0⟩] rfl rfl ?_
  refine PL.ef rfl (Ef.alloc rfl rfl) ?_
  refine PL.nm (.op 2 0) [some ⟨.mx [sL p_h.pages], 58, 0⟩, some ⟨.mx [iA p_r.page, iA p_r.slot], 62, 0⟩, some ⟨.mx [.t (.v (.slice none 0 0))], 58, 0⟩] rfl rfl ?_
  refine PL.ef rfl (Ef.alloc rfl rfl) ?_
  refine PL.nm (.op 3 0) [some ⟨.mx [sL p_h.pages], 58, 0⟩, some ⟨.mx [iA p_r.page, iA p_r.slot], 62, 0⟩, some ⟨.mx [.t (.v (.slice none 0 0))], 58, 0⟩, some ⟨.mx [iA (0 : Int), iA (0 : Int)], 62, 0⟩] rfl rfl ?_
  refine PL.op rfl (Rd.asnT rfl) ?_
  refine PL.nil ?_
  refine thA_n ?_
  refine PC.seq ?_
  refine PC.seq ?_
  obtain ⟨r1, h_2, hh0⟩ := bind_some hh0
  rcases cond_some hh0 with ⟨h_3, hh0⟩ | ⟨h_3, hh0⟩
  rotate_left
  · refine PC.region ?_
    refine PL.op rfl (Rd.loadBox rfl rfl rfl) ?_
    refine PL.callM false [] (w_I_ValidHeap N p_h r1 h_2) rfl Try.call78 rfl ⟨.aggL ⟨.t _, trivial⟩, trivial⟩ rfl trivial (fun h => by cases h) ?_
    refine PL.op rfl (Rd.unnot rfl) ?_
    refine PL.op rfl (Rd.moveT rfl) ?_
    refine PL.guard_off rfl rfl (not_f h_3) ?_
    refine PL.guard_off rfl rfl (not_f h_3) ?_
    refine PL.guard_off rfl rfl (not_f h_3) ?_
    refine PL.guard_off rfl rfl (not_f h_3) ?_
    refine PL.guard_off rfl rfl (not_f h_3) ?_
    refine PL.op rfl (Rd.pick_t rfl (not_f h_3)) ?_
    refine PL.nil ?_
    refine thA_n ?_
    refine PC.cond_true rfl rfl ?_
    refine PC.seq ?_
    refine PC.region ?_
    refine PL.op rfl (Rd.build rfl rfl rfl rfl) ?_
    refine PL.op rfl (Rd.build rfl rfl rfl rfl) ?_
    refine PL.store rfl rfl rfl rfl rfl rfl rfl ?_
    refine PL.store rfl rfl rfl rfl rfl rfl rfl ?_
    refine PL.op rfl (Rd.asnT rfl) ?_
    refine PL.nil ?_
    refine thA_n ?_
    refine PC.ret ?_
    refine thA_r ?_
    obtain rfl := some_in hh0
    exact FinA.mk (r := .tup [.agg [.os 0 0 ((((I_Heap.mk ([] : List I_Page)), (I_Rid.mk (0 : Int) (0 : Int)), false).1.pages).length)], .agg [iA (((I_Heap.mk ([] : List I_Page)), (I_Rid.mk (0 : Int) (0 : Int)), false).2.1.page), iA (((I_Heap.mk ([] : List I_Page)), (I_Rid.mk (0 : Int) (0 : Int)), false).2.1.slot)], bA (((I_Heap.mk ([] : List I_Page)), (I_Rid.mk (0 : Int) (0 : Int)), false).2.2)]) (bl := [⟨.tr (eL (((I_Heap.mk ([] : List I_Page)), (I_Rid.mk (0 : Int) (0 : Int)), false).1.pages)), 25, 1⟩]) [none] (.inl rfl) rfl (rl := [.cell 6 58, .cell 7 62, .tmp 8]) (.cellN rfl rfl rfl rfl (.cellN rfl rfl rfl rfl (.tmp .nil))) rfl rfl rfl (.tupL ⟨.aggL ⟨.osn rfl, trivial⟩, .aggL ⟨.t _, .t _, trivial⟩, .t _, trivial⟩) ⟨ow_nil _, trivial⟩ ⟨rfl, rfl⟩
  obtain ⟨r4, h_5, hh0⟩ := bind_some hh0
  refine PC.region ?_
  refine PL.op rfl (Rd.loadBox rfl rfl rfl) ?_
  refine PL.callM false [] (w_I_ValidHeap N p_h r1 h_2) rfl Try.call78 rfl ⟨.aggL ⟨.t _, trivial⟩, trivial⟩ rfl trivial (fun h => by cases h) ?_
  refine PL.op rfl (Rd.unnot rfl) ?_
  refine PL.op rfl (Rd.moveT rfl) ?_
  refine PL.guard_on rfl (not_t h_3) ?_
  refine PL.op rfl (Rd.loadBox rfl rfl rfl) ?_
  refine PL.guard_on rfl (not_t h_3) ?_
  refine PL.op rfl (Rd.fieldO rfl rfl) ?_
  refine PL.guard_on rfl (not_t h_3) ?_
  refine PL.op rfl (Rd.loadO rfl rfl rfl) ?_
  refine PL.guard_on rfl (not_t h_3) ?_
  refine PL.callM false [] (w_I_Heap_has N p_h p_r.page r4 h_5) rfl Try.call83 rfl ⟨.aggL ⟨.t _, trivial⟩, .t _, trivial⟩ rfl trivial (fun h => by cases h) ?_
  refine PL.guard_on rfl (not_t h_3) ?_
  refine PL.op rfl (Rd.unnot rfl) ?_
  refine PL.op rfl (Rd.pick_f rfl (not_t h_3)) ?_
  refine PL.nil ?_
  refine thA_n ?_
  rcases cond_some hh0 with ⟨h_6, hh0⟩ | ⟨h_6, hh0⟩
  rotate_left
  · refine PC.cond_true rfl (not_f h_6) ?_
    refine PC.seq ?_
    refine PC.region ?_
    refine PL.op rfl (Rd.build rfl rfl rfl rfl) ?_
    refine PL.op rfl (Rd.build rfl rfl rfl rfl) ?_
    refine PL.store rfl rfl rfl rfl rfl rfl rfl ?_
    refine PL.store rfl rfl rfl rfl rfl rfl rfl ?_
    refine PL.op rfl (Rd.asnT rfl) ?_
    refine PL.nil ?_
    refine thA_n ?_
    refine PC.ret ?_
    refine thA_r ?_
    obtain rfl := some_in hh0
    exact FinA.mk (r := .tup [.agg [.os 0 0 ((((I_Heap.mk ([] : List I_Page)), (I_Rid.mk (0 : Int) (0 : Int)), false).1.pages).length)], .agg [iA (((I_Heap.mk ([] : List I_Page)), (I_Rid.mk (0 : Int) (0 : Int)), false).2.1.page), iA (((I_Heap.mk ([] : List I_Page)), (I_Rid.mk (0 : Int) (0 : Int)), false).2.1.slot)], bA (((I_Heap.mk ([] : List I_Page)), (I_Rid.mk (0 : Int) (0 : Int)), false).2.2)]) (bl := [⟨.tr (eL (((I_Heap.mk ([] : List I_Page)), (I_Rid.mk (0 : Int) (0 : Int)), false).1.pages)), 25, 1⟩]) [none] (.inl rfl) rfl (rl := [.cell 6 58, .cell 7 62, .tmp 8]) (.cellN rfl rfl rfl rfl (.cellN rfl rfl rfl rfl (.tmp .nil))) rfl rfl rfl (.tupL ⟨.aggL ⟨.osn rfl, trivial⟩, .aggL ⟨.t _, .t _, trivial⟩, .t _, trivial⟩) ⟨ow_nil _, trivial⟩ ⟨rfl, rfl⟩
  refine PC.cond_false rfl (not_t h_6) ?_
  refine PC.skip ?_
  refine thA_n ?_
  refine PC.seq ?_
  obtain ⟨x7, h_8, hh0⟩ := bind_some hh0
  obtain ⟨r9, h_10, hh0⟩ := bind_some hh0
  refine PC.cut hs (fun _ : Unit => [(2, sA p_data), (3, .op 0 0), (4, .op 1 0), (6, .op 2 0), (7, .op 3 0), (9, .op 4 0), (10, bA r9.2)]) (fun _ => [⟨.mx [sL p_h.pages], 58, 0⟩, ⟨.mx [iA p_r.page, iA p_r.slot], 62, 0⟩, ⟨.mx [.t (.v (.slice none 0 0))], 58, 0⟩, ⟨.mx [iA (0 : Int), iA (0 : Int)], 62, 0⟩, ⟨.mx [.os 5 0 r9.1.slots.length], 25, 0⟩, ⟨.tr (eL r9.1.slots), 35, 2⟩]) (fun _ => True) ?_ ?_
  · refine PC.any (id := 3) 16 (.seg [0, 1, 2, 3, 4, 5, 6, 7, 8] (.fork (.seg [9, 10, 11, 12, 13, 14, 15] .done) (.seg [13, 9, 10, 11, 12, 14, 15] .done))) [] rfl (by kernel_rfl) rfl ?_
    refine PT.seg ?_
    refine PR.op rfl (Rd.fieldO rfl rfl) ?_
    refine PR.op rfl (Rd.loadO rfl rfl rfl) ?_
    refine PR.op rfl (Rd.fieldO rfl rfl) ?_
    refine PR.op rfl (Rd.loadO rfl rfl rfl) ?_
    refine PR.op rfl (Rd.ixM rfl rfl h_8) ?_
    refine PR.op rfl (Rd.elMR rfl h_8 rfl rfl) ?_
    refine PR.op rfl (Rd.fieldO rfl rfl) ?_
    refine PR.op rfl (Rd.loadO rfl rfl rfl) ?_
    refine PR.op rfl (Rd.moveT rfl) ?_
    refine PR.nil ?_
    refine PT.fork ?_ ?_
    · refine PT.seg ?_
      refine PR.callM false [] (w_I_SetSlot N x7 p_r.slot p_data r9 h_10) rfl Try.call29 rfl ⟨.aggL ⟨.t _, trivial⟩, .t _, .t _, trivial⟩ rfl trivial (fun h => by cases h) rfl ?_
      refine PR.nm (.tup [.agg [.os 4 0 r9.1.slots.length], bA r9.2]) [some ⟨.mx [sL p_h.pages], 58, 0⟩, some ⟨.mx [iA p_r.page, iA p_r.slot], 62, 0⟩, some ⟨.mx [.t (.v (.slice none 0 0))], 58, 0⟩, some ⟨.mx [iA (0 : Int), iA (0 : Int)], 62, 0⟩, some ⟨.tr (eL r9.1.slots), 35, 2⟩] rfl rfl ?_
      refine PR.op rfl (Rd.moveU rfl) ?_
      refine PR.op rfl (Rd.extract rfl rfl) ?_
      refine PR.op rfl (Rd.extract rfl rfl) ?_
      refine PR.efX rfl rfl (Ef.alloc rfl rfl) ?_
      refine PR.nm (.op 5 0) [some ⟨.mx [sL p_h.pages], 58, 0⟩, some ⟨.mx [iA p_r.page, iA p_r.slot], 62, 0⟩, some ⟨.mx [.t (.v (.slice none 0 0))], 58, 0⟩, some ⟨.mx [iA (0 : Int), iA (0 : Int)], 62, 0⟩, some ⟨.tr (eL r9.1.slots), 35, 2⟩, some ⟨.mx [.t (.v (.slice none 0 0))], 25, 0⟩] rfl rfl ?_
      refine PR.store rfl rfl rfl rfl rfl rfl rfl rfl ?_
      refine PR.nO [some ⟨.mx [sL p_h.pages], 58, 0⟩, some ⟨.mx [iA p_r.page, iA p_r.slot], 62, 0⟩, some ⟨.mx [.t (.v (.slice none 0 0))], 58, 0⟩, some ⟨.mx [iA (0 : Int), iA (0 : Int)], 62, 0⟩, some ⟨.tr (eL r9.1.slots), 35, 2⟩, some ⟨.mx [.os 4 0 r9.1.slots.length], 25, 0⟩] rfl ?_
      refine PR.op rfl (Rd.asnT rfl) ?_
      refine PR.nil ?_
      refine PT.done ?_
      refine PL.nil ?_
      refine thA_n ?_
      exact ⟨(), trivial, [some 0, some 1, some 2, some 3, some 5, some 4], ⟨rfl, rfl, ⟨⟨_, rfl, rfl, rfl, .mx ⟨.t _, trivial⟩⟩, ⟨_, rfl, rfl, rfl, .mx ⟨.t _, .t _, trivial⟩⟩, ⟨_, rfl, rfl, rfl, .mx ⟨.t _, trivial⟩⟩, ⟨_, rfl, rfl, rfl, .mx ⟨.t _, .t _, trivial⟩⟩, ⟨_, rfl, rfl, rfl, .mx ⟨.os rfl, trivial⟩⟩, ⟨_, rfl, rfl, rfl, .tr _⟩, trivial⟩, ⟨.t _, .op rfl, .op rfl, .op rfl, .op rfl, .op rfl, .t _, trivial⟩⟩⟩
    refine PT.seg ?_
    refine PR.efX rfl rfl (Ef.alloc rfl rfl) ?_
    refine PR.nm (.op 4 0) [some ⟨.mx [sL p_h.pages], 58, 0⟩, some ⟨.mx [iA p_r.page, iA p_r.slot], 62, 0⟩, some ⟨.mx [.t (.v (.slice none 0 0))], 58, 0⟩, some ⟨.mx [iA (0 : Int), iA (0 : Int)], 62, 0⟩, some ⟨.mx [.t (.v (.slice none 0 0))], 25, 0⟩] rfl rfl ?_
    refine PR.callM false [] (w_I_SetSlot N x7 p_r.slot p_data r9 h_10) rfl Try.call29 rfl ⟨.aggL ⟨.t _, trivial⟩, .t _, .t _, trivial⟩ rfl trivial (fun h => by cases h) rfl ?_
    refine PR.nm (.tup [.agg [.os 5 0 r9.1.slots.length], bA r9.2]) [some ⟨.mx [sL p_h.pages], 58, 0⟩, some ⟨.mx [iA p_r.page, iA p_r.slot], 62, 0⟩, some ⟨.mx [.t (.v (.slice none 0 0))], 58, 0⟩, some ⟨.mx [iA (0 : Int), iA (0 : Int)], 62, 0⟩, some ⟨.mx [.t (.v (.slice none 0 0))], 25, 0⟩, some ⟨.tr (eL r9.1.slots), 35, 2⟩] rfl rfl ?_
    refine PR.op rfl (Rd.moveU rfl) ?_
    refine PR.op rfl (Rd.extract rfl rfl) ?_
    refine PR.op rfl (Rd.extract rfl rfl) ?_
    refine PR.store rfl rfl rfl rfl rfl rfl rfl rfl ?_
    refine PR.nO [some ⟨.mx [sL p_h.pages], 58, 0⟩, some ⟨.mx [iA p_r.page, iA p_r.slot], 62, 0⟩, some ⟨.mx [.t (.v (.slice none 0 0))], 58, 0⟩, some ⟨.mx [iA (0 : Int), iA (0 : Int)], 62, 0⟩, some ⟨.mx [.os 5 0 r9.1.slots.length], 25, 0⟩, some ⟨.tr (eL r9.1.slots), 35, 2⟩] rfl ?_
    refine PR.op rfl (Rd.asnT rfl) ?_
    refine PR.nil ?_
    refine PT.done ?_
    refine PL.nil ?_
    refine thA_n ?_
    exact ⟨(), trivial, [some 0, some 1, some 2, some 3, some 4, some 5], ⟨rfl, rfl, ⟨⟨_, rfl, rfl, rfl, .mx ⟨.t _, trivial⟩⟩, ⟨_, rfl, rfl, rfl, .mx ⟨.t _, .t _, trivial⟩⟩, ⟨_, rfl, rfl, rfl, .mx ⟨.t _, trivial⟩⟩, ⟨_, rfl, rfl, rfl, .mx ⟨.t _, .t _, trivial⟩⟩, ⟨_, rfl, rfl, rfl, .mx ⟨.os rfl, trivial⟩⟩, ⟨_, rfl, rfl, rfl, .tr _⟩, trivial⟩, ⟨.t _, .op rfl, .op rfl, .op rfl, .op rfl, .op rfl, .t _, trivial⟩⟩⟩
  rintro ⟨⟩ -
  refine PC.seq ?_
  refine PC.region ?_
  refine PL.op rfl (Rd.moveT rfl) ?_
  refine PL.nil ?_
  refine thA_n ?_
  rcases cond_some hh0 with ⟨h_11, hh0⟩ | ⟨h_11, hh0⟩
  · refine PC.cond_true rfl h_11 ?_
    refine PC.seq ?_
    obtain ⟨r12, h_13, hh0⟩ := bind_some hh0
    refine PC.region ?_
    refine PL.op rfl (Rd.loadBox rfl rfl rfl) ?_
    refine PL.callM false [] (w_I_Heap_clone N p_h r12 h_13) rfl Try.call79 rfl ⟨.aggL ⟨.t _, trivial⟩, trivial⟩ rfl trivial (fun h => by cases h) ?_
    refine PL.nm (.agg [.os 6 0 r12.pages.length]) [some ⟨.mx [sL p_h.pages], 58, 0⟩, some ⟨.mx [iA p_r.page, iA p_r.slot], 62, 0⟩, some ⟨.mx [.t (.v (.slice none 0 0))], 58, 0⟩, some ⟨.mx [iA (0 : Int), iA (0 : Int)], 62, 0⟩, some ⟨.mx [.os 5 0 r9.1.slots.length], 25, 0⟩, some ⟨.tr (eL r9.1.slots), 35, 2⟩, some ⟨.tr (eL r12.pages), 25, 1⟩] rfl rfl ?_
    refine PL.ef rfl (Ef.alloc rfl rfl) ?_
    refine PL.nm (.op 7 0) [some ⟨.mx [sL p_h.pages], 58, 0⟩, some ⟨.mx [iA p_r.page, iA p_r.slot], 62, 0⟩, some ⟨.mx [.t (.v (.slice none 0 0))], 58, 0⟩, some ⟨.mx [iA (0 : Int), iA (0 : Int)], 62, 0⟩, some ⟨.mx [.os 5 0 r9.1.slots.length], 25, 0⟩, some ⟨.tr (eL r9.1.slots), 35, 2⟩, some ⟨.tr (eL r12.pages), 25, 1⟩, some ⟨.mx [.t (.v (.slice none 0 0))], 58, 0⟩] rfl rfl ?_
    refine PL.store rfl rfl rfl rfl rfl rfl rfl ?_
    refine PL.nO [some ⟨.mx [sL p_h.pages], 58, 0⟩, some ⟨.mx [iA p_r.page, iA p_r.slot], 62, 0⟩, some ⟨.mx [.t (.v (.slice none 0 0))], 58, 0⟩, some ⟨.mx [iA (0 : Int), iA (0 : Int)], 62, 0⟩, some ⟨.mx [.os 5 0 r9.1.slots.length], 25, 0⟩, some ⟨.tr (eL r9.1.slots), 35, 2⟩, some ⟨.tr (eL r12.pages), 25, 1⟩, some ⟨.mx [.os 6 0 r12.pages.length], 58, 0⟩] rfl ?_
    refine PL.nil ?_
    refine thA_n ?_
    refine PC.seq ?_
    obtain ⟨x14, h_15, hh0⟩ := bind_some hh0
    refine PC.region ?_
    refine PL.op rfl (Rd.fieldO rfl rfl) ?_
    refine PL.op rfl (Rd.loadO rfl rfl rfl) ?_
    refine PL.op rfl (Rd.fieldO rfl rfl) ?_
    refine PL.op rfl (Rd.loadO rfl rfl rfl) ?_
    refine PL.op rfl (Rd.loadBox rfl rfl rfl) ?_
    refine PL.op rfl (Rd.ixOM rfl rfl rfl (ixI_lt h_15)) ?_
    refine PL.frz hs 5 8 [(46, .agg [sL r9.1.slots])] [some ⟨.mx [sL p_h.pages], 58, 0⟩, some ⟨.mx [iA p_r.page, iA p_r.slot], 62, 0⟩, some ⟨.mx [.t (.v (.slice none 0 0))], 58, 0⟩, some ⟨.mx [iA (0 : Int), iA (0 : Int)], 62, 0⟩, some ⟨.mx [sL r9.1.slots], 25, 0⟩, none, some ⟨.tr (eL r12.pages), 25, 1⟩, some ⟨.mx [.os 6 0 r12.pages.length], 58, 0⟩] rfl rfl ⟨(.aggL ⟨(.own rfl (by decide) rfl rfl), trivial⟩), trivial⟩ ⟨⟨rfl, .inl rfl⟩, ⟨rfl, .inl rfl⟩, ⟨rfl, .inl rfl⟩, ⟨rfl, .inl rfl⟩, ⟨rfl, .inr ⟨_, rfl, rfl, rfl, .mx ⟨(.own rfl (by decide) rfl rfl), trivial⟩⟩⟩, ⟨rfl, .inl rfl⟩, ⟨rfl, .inl rfl⟩, trivial⟩ ?_
    refine PL.stRM r9.1 rfl rfl rfl rfl rfl h_15 rfl ?_
    refine PL.nO [some ⟨.mx [sL p_h.pages], 58, 0⟩, some ⟨.mx [iA p_r.page, iA p_r.slot], 62, 0⟩, some ⟨.mx [.t (.v (.slice none 0 0))], 58, 0⟩, some ⟨.mx [iA (0 : Int), iA (0 : Int)], 62, 0⟩, some ⟨.mx [sL r9.1.slots], 25, 0⟩, none, some ⟨.tr (eL (r12.pages.set p_r.page.toNat r9.1)), 25, 1⟩, some ⟨.mx [.os 6 0 r12.pages.length], 58, 0⟩] rfl ?_
    refine PL.nil ?_
    refine thA_n ?_
    refine PC.seq ?_
    refine PC.any (id := 7) 5 (.seg [0, 1, 2, 3, 4] .done) [2, 3] rfl (by kernel_rfl) rfl ?_
    refine PT.seg ?_
    refine PR.op rfl (Rd.loadBox rfl rfl rfl) ?_
    refine PR.op rfl (Rd.loadBox rfl rfl rfl) ?_
    refine PR.store rfl rfl rfl rfl rfl rfl rfl rfl ?_
    refine PR.nO [some ⟨.mx [sL p_h.pages], 58, 0⟩, some ⟨.mx [iA p_r.page, iA p_r.slot], 62, 0⟩, some ⟨.mx [.os 6 0 r12.pages.length], 58, 0⟩, some ⟨.mx [iA (0 : Int), iA (0 : Int)], 62, 0⟩, some ⟨.mx [sL r9.1.slots], 25, 0⟩, none, some ⟨.tr (eL (r12.pages.set p_r.page.toNat r9.1)), 25, 1⟩, some ⟨.mx [.os 6 0 r12.pages.length], 58, 0⟩] rfl ?_
    refine PR.store rfl rfl rfl rfl rfl rfl rfl rfl ?_
    refine PR.nO [some ⟨.mx [sL p_h.pages], 58, 0⟩, some ⟨.mx [iA p_r.page, iA p_r.slot], 62, 0⟩, some ⟨.mx [.os 6 0 r12.pages.length], 58, 0⟩, some ⟨.mx [iA p_r.page, iA p_r.slot], 62, 0⟩, some ⟨.mx [sL r9.1.slots], 25, 0⟩, none, some ⟨.tr (eL (r12.pages.set p_r.page.toNat r9.1)), 25, 1⟩, some ⟨.mx [.os 6 0 r12.pages.length], 58, 0⟩] rfl ?_
    refine PR.op rfl (Rd.asnT rfl) ?_
    refine PR.nil ?_
    refine PT.done ?_
    refine PL.nil ?_
    refine thA_n ?_
    refine PC.ret ?_
    refine thA_r ?_
    obtain rfl := some_in hh0
    exact FinA.mk (r := .tup [.agg [.os 0 0 ((((I_Heap.mk (r12.pages.set p_r.page.toNat r9.1)), p_r, true).1.pages).length)], .agg [iA (((I_Heap.mk (r12.pages.set p_r.page.toNat r9.1)), p_r, true).2.1.page), iA (((I_Heap.mk (r12.pages.set p_r.page.toNat r9.1)), p_r, true).2.1.slot)], bA (((I_Heap.mk (r12.pages.set p_r.page.toNat r9.1)), p_r, true).2.2)]) (bl := [⟨.tr (eL (((I_Heap.mk (r12.pages.set p_r.page.toNat r9.1)), p_r, true).1.pages)), 25, 1⟩]) [some 6] (.inl rfl) rfl (rl := [.cell 6 58, .cell 7 62, .tmp 8]) (.cellN rfl rfl rfl rfl (.cellN rfl rfl rfl rfl (.tmp .nil))) rfl rfl rfl (.tupL ⟨.aggL ⟨.osE rfl (by simp only [List.length_set]), trivial⟩, .aggL ⟨.t _, .t _, trivial⟩, .t _, trivial⟩) ⟨⟨_, rfl, rfl, rfl, .tr _⟩, trivial⟩ ⟨rfl, rfl⟩
  refine PC.cond_false rfl h_11 ?_
  refine PC.skip ?_
  refine thA_n ?_
  refine PC.seq ?_
  obtain ⟨r16, h_17, hh0⟩ := bind_some hh0
  refine PC.region ?_
  refine PL.op rfl (Rd.loadBox rfl rfl rfl) ?_
  refine PL.op rfl (Rd.loadBox rfl rfl rfl) ?_
  refine PL.callM false [] (w_I_HeapDelete N p_h p_r r16 h_17) rfl Try.call46 rfl ⟨.aggL ⟨.t _, trivial⟩, .aggL ⟨.t _, .t _, trivial⟩, trivial⟩ rfl trivial (fun h => by cases h) ?_
  refine PL.nm (.tup [.agg [.os 6 0 r16.1.pages.length], bA r16.2]) [some ⟨.mx [sL p_h.pages], 58, 0⟩, some ⟨.mx [iA p_r.page, iA p_r.slot], 62, 0⟩, some ⟨.mx [.t (.v (.slice none 0 0))], 58, 0⟩, some ⟨.mx [iA (0 : Int), iA (0 : Int)], 62, 0⟩, some ⟨.mx [.os 5 0 r9.1.slots.length], 25, 0⟩, some ⟨.tr (eL r9.1.slots), 35, 2⟩, some ⟨.tr (eL r16.1.pages), 25, 1⟩] rfl rfl ?_
  refine PL.op rfl (Rd.moveU rfl) ?_
  refine PL.op rfl (Rd.extract rfl rfl) ?_
  refine PL.op rfl (Rd.extract rfl rfl) ?_
  refine PL.ef rfl (Ef.alloc rfl rfl) ?_
  refine PL.nm (.op 7 0) [some ⟨.mx [sL p_h.pages], 58, 0⟩, some ⟨.mx [iA p_r.page, iA p_r.slot], 62, 0⟩, some ⟨.mx [.t (.v (.slice none 0 0))], 58, 0⟩, some ⟨.mx [iA (0 : Int), iA (0 : Int)], 62, 0⟩, some ⟨.mx [.os 5 0 r9.1.slots.length], 25, 0⟩, some ⟨.tr (eL r9.1.slots), 35, 2⟩, some ⟨.tr (eL r16.1.pages), 25, 1⟩, some ⟨.mx [.t (.v (.slice none 0 0))], 58, 0⟩] rfl rfl ?_
  refine PL.store rfl rfl rfl rfl rfl rfl rfl ?_
  refine PL.nO [some ⟨.mx [sL p_h.pages], 58, 0⟩, some ⟨.mx [iA p_r.page, iA p_r.slot], 62, 0⟩, some ⟨.mx [.t (.v (.slice none 0 0))], 58, 0⟩, some ⟨.mx [iA (0 : Int), iA (0 : Int)], 62, 0⟩, some ⟨.mx [.os 5 0 r9.1.slots.length], 25, 0⟩, some ⟨.tr (eL r9.1.slots), 35, 2⟩, some ⟨.tr (eL r16.1.pages), 25, 1⟩, some ⟨.mx [.os 6 0 r16.1.pages.length], 58, 0⟩] rfl ?_
  refine PL.op rfl (Rd.asnT rfl) ?_
  refine PL.nil ?_
  refine thA_n ?_
  refine PC.seq ?_
  refine PC.seq ?_
  refine PC.region ?_
  refine PL.op rfl (Rd.moveT rfl) ?_
  refine PL.op rfl (Rd.unnot rfl) ?_
  refine PL.nil ?_
  refine thA_n ?_
  rcases cond_some hh0 with ⟨h_18, hh0⟩ | ⟨h_18, hh0⟩
  rotate_left
  · refine PC.cond_true rfl (not_f h_18) ?_
    refine PC.seq ?_
    refine PC.region ?_
    refine PL.op rfl (Rd.build rfl rfl rfl rfl) ?_
    refine PL.op rfl (Rd.build rfl rfl rfl rfl) ?_
    refine PL.store rfl rfl rfl rfl rfl rfl rfl ?_
    refine PL.store rfl rfl rfl rfl rfl rfl rfl ?_
    refine PL.op rfl (Rd.asnT rfl) ?_
    refine PL.nil ?_
    refine thA_n ?_
    refine PC.ret ?_
    refine thA_r ?_
    obtain rfl := some_in hh0
    exact FinA.mk (r := .tup [.agg [.os 0 0 ((((I_Heap.mk ([] : List I_Page)), (I_Rid.mk (0 : Int) (0 : Int)), false).1.pages).length)], .agg [iA (((I_Heap.mk ([] : List I_Page)), (I_Rid.mk (0 : Int) (0 : Int)), false).2.1.page), iA (((I_Heap.mk ([] : List I_Page)), (I_Rid.mk (0 : Int) (0 : Int)), false).2.1.slot)], bA (((I_Heap.mk ([] : List I_Page)), (I_Rid.mk (0 : Int) (0 : Int)), false).2.2)]) (bl := [⟨.tr (eL (((I_Heap.mk ([] : List I_Page)), (I_Rid.mk (0 : Int) (0 : Int)), false).1.pages)), 25, 1⟩]) [none] (.inl rfl) rfl (rl := [.cell 6 58, .cell 7 62, .tmp 8]) (.cellN rfl rfl rfl rfl (.cellN rfl rfl rfl rfl (.tmp .nil))) rfl rfl rfl (.tupL ⟨.aggL ⟨.osn rfl, trivial⟩, .aggL ⟨.t _, .t _, trivial⟩, .t _, trivial⟩) ⟨ow_nil _, trivial⟩ ⟨rfl, rfl⟩
  refine PC.cond_false rfl (not_t h_18) ?_
  refine PC.skip ?_
  refine thA_n ?_
  refine PC.seq ?_
  obtain ⟨r19, h_20, hh0⟩ := bind_some hh0
  refine PC.region ?_
  refine PL.op rfl (Rd.loadBox rfl rfl rfl) ?_
  refine PL.op rfl (Rd.moveT rfl) ?_
  refine PL.frz hs 6 8 [(53, .tup [.agg [sL r16.1.pages], bA r16.2]), (50, .tup [.agg [sL r16.1.pages], bA r16.2]), (54, .agg [sL r16.1.pages]), (60, .agg [sL r16.1.pages])] [some ⟨.mx [sL p_h.pages], 58, 0⟩, some ⟨.mx [iA p_r.page, iA p_r.slot], 62, 0⟩, some ⟨.mx [.t (.v (.slice none 0 0))], 58, 0⟩, some ⟨.mx [iA (0 : Int), iA (0 : Int)], 62, 0⟩, some ⟨.mx [.os 5 0 r9.1.slots.length], 25, 0⟩, some ⟨.tr (eL r9.1.slots), 35, 2⟩, none, some ⟨.mx [sL r16.1.pages], 58, 0⟩] rfl rfl ⟨(.tupL ⟨(.aggL ⟨(.own rfl (by decide) rfl rfl), trivial⟩), (.t _), trivial⟩), (.tupL ⟨(.aggL ⟨(.own rfl (by decide) rfl rfl), trivial⟩), (.t _), trivial⟩), (.aggL ⟨(.own rfl (by decide) rfl rfl), trivial⟩), (.aggL ⟨(.own rfl (by decide) rfl rfl), trivial⟩), trivial⟩ ⟨⟨rfl, .inl rfl⟩, ⟨rfl, .inl rfl⟩, ⟨rfl, .inl rfl⟩, ⟨rfl, .inl rfl⟩, ⟨rfl, .inl rfl⟩, ⟨rfl, .inl rfl⟩, ⟨rfl, .inr ⟨_, rfl, rfl, rfl, .mx ⟨(.own rfl (by decide) rfl rfl), trivial⟩⟩⟩, trivial⟩ ?_
  refine PL.callM false [] (w_I_HeapInsert N r16.1 p_data r19 h_20) rfl Try.call40 rfl ⟨.aggL ⟨.t _, trivial⟩, .t _, trivial⟩ rfl trivial (fun h => by cases h) ?_
  refine PL.nm (.tup [.agg [.os 8 0 r19.1.pages.length], .agg [iA r19.2.1.page, iA r19.2.1.slot], bA r19.2.2]) [some ⟨.mx [sL p_h.pages], 58, 0⟩, some ⟨.mx [iA p_r.page, iA p_r.slot], 62, 0⟩, some ⟨.mx [.t (.v (.slice none 0 0))], 58, 0⟩, some ⟨.mx [iA (0 : Int), iA (0 : Int)], 62, 0⟩, some ⟨.mx [.os 5 0 r9.1.slots.length], 25, 0⟩, some ⟨.tr (eL r9.1.slots), 35, 2⟩, none, some ⟨.mx [sL r16.1.pages], 58, 0⟩, some ⟨.tr (eL r19.1.pages), 25, 1⟩] rfl rfl ?_
  refine PL.op rfl (Rd.extract rfl rfl) ?_
  refine PL.op rfl (Rd.extract rfl rfl) ?_
  refine PL.op rfl (Rd.extract rfl rfl) ?_
  refine PL.store rfl rfl rfl rfl rfl rfl rfl ?_
  refine PL.nO [some ⟨.mx [sL p_h.pages], 58, 0⟩, some ⟨.mx [iA p_r.page, iA p_r.slot], 62, 0⟩, some ⟨.mx [.os 8 0 r19.1.pages.length], 58, 0⟩, some ⟨.mx [iA (0 : Int), iA (0 : Int)], 62, 0⟩, some ⟨.mx [.os 5 0 r9.1.slots.length], 25, 0⟩, some ⟨.tr (eL r9.1.slots), 35, 2⟩, none, some ⟨.mx [sL r16.1.pages], 58, 0⟩, some ⟨.tr (eL r19.1.pages), 25, 1⟩] rfl ?_
  refine PL.store rfl rfl rfl rfl rfl rfl rfl ?_
  refine PL.nO [some ⟨.mx [sL p_h.pages], 58, 0⟩, some ⟨.mx [iA p_r.page, iA p_r.slot], 62, 0⟩, some ⟨.mx [.os 8 0 r19.1.pages.length], 58, 0⟩, some ⟨.mx [iA r19.2.1.page, iA r19.2.1.slot], 62, 0⟩, some ⟨.mx [.os 5 0 r9.1.slots.length], 25, 0⟩, some ⟨.tr (eL r9.1.slots), 35, 2⟩, none, some ⟨.mx [sL r16.1.pages], 58, 0⟩, some ⟨.tr (eL r19.1.pages), 25, 1⟩] rfl ?_
  refine PL.op rfl (Rd.asnT rfl) ?_
  refine PL.nil ?_
  refine thA_n ?_
  refine PC.ret ?_
  obtain rfl := some_in hh0
  exact FinA.mk (r := .tup [.agg [.os 0 0 (((r19.1, r19.2.1, r19.2.2).1.pages).length)], .agg [iA ((r19.1, r19.2.1, r19.2.2).2.1.page), iA ((r19.1, r19.2.1, r19.2.2).2.1.slot)], bA ((r19.1, r19.2.1, r19.2.2).2.2)]) (bl := [⟨.tr (eL ((r19.1, r19.2.1, r19.2.2).1.pages)), 25, 1⟩]) [some 8] (.inl rfl) rfl (rl := [.cell 6 58, .cell 7 62, .tmp 8]) (.cellN rfl rfl rfl rfl (.cellN rfl rfl rfl rfl (.tmp .nil))) rfl rfl rfl (.tupL ⟨.aggL ⟨.os rfl, trivial⟩, .aggL ⟨.t _, .t _, trivial⟩, .t _, trivial⟩) ⟨⟨_, rfl, rfl, rfl, .tr _⟩, trivial⟩ ⟨rfl, rfl⟩

def m_I_HeapScan_k2 (N : Nat) (v39 : (List I_Rid)) : Option ((List I_Rid)) :=
  some v39
def m_I_HeapScan_k3 (N : Nat) (i4 : Int) (v60 : (List I_Rid)) : Option ((Int × (List I_Rid)) ⊕ (List I_Rid)) :=
  (chk (i4 + (1 : Int))).bind fun n66 =>
  some (.inl (n66, v60))
def m_I_HeapScan_b3 (N : Nat) (i4 : Int) (x46 : I_Page) (i48 : Int) (v49 : (List I_Rid)) : Option ((Int × (List I_Rid)) ⊕ (List I_Rid)) :=
  cond (decide (i48 < (x46.slots.length : Int)))
    ((ixI x46.slots i48).bind fun x69 =>
    cond x69.live
      ((appM 16 v49 [(I_Rid.mk i4 i48)]).bind fun xs72 =>
      (chk (i48 + (1 : Int))).bind fun n74 =>
      some (.inl (n74, xs72)))
      ((chk (i48 + (1 : Int))).bind fun n76 =>
      some (.inl (n76, v49))))
    (some (.inr v49))
def m_I_HeapScan_b2 (N : Nat) (p_h : I_Heap) (i4 : Int) (v5 : (List I_Rid)) : Option ((Int × (List I_Rid)) ⊕ (List I_Rid)) :=
  cond (decide (i4 < (p_h.pages.length : Int)))
    ((ixI p_h.pages i4).bind fun x46 =>
    (loopM (β := (List I_Rid)) (fun s : Int × (List I_Rid) => m_I_HeapScan_b3 N i4 x46 s.1 s.2) N ((0 : Int), v5)).bind fun e =>
    m_I_HeapScan_k3 N i4 e)
    (some (.inr v5))
def m_I_HeapScan (N : Nat) (p_h : I_Heap) : Option ((List I_Rid)) :=
  (m_I_ValidHeap N p_h).bind fun r1 =>
  cond r1
    ((loopM (β := (List I_Rid)) (fun s : Int × (List I_Rid) => m_I_HeapScan_b2 N p_h s.1 s.2) N ((0 : Int), ([] : List I_Rid))).bind fun e =>
    m_I_HeapScan_k2 N e)
    (some ([] : List I_Rid))
theorem w_I_HeapScan (N : Nat) (p_h : I_Heap) (r : (List I_Rid)) (hh0 : m_I_HeapScan N p_h = some r) : FnX Try.prog 43 [] [.agg [sL p_h.pages]] (RE (.os 0 0 r.length) [⟨.tr (eL r), 62, 2⟩]) := by
  unfold m_I_HeapScan at hh0
  refine FnX.mk Try.func43 rfl rfl ?_
  intro s hs
  refine PC.seq ?_
  refine PC.region ?_
  refine PL.ef rfl (Ef.box rfl rfl rfl) ?_
  refine PL.nm (.op 0 0) [some ⟨.mx [sL p_h.pages], 58, 0⟩] rfl rfl ?_
  refine PL.op rfl (Rd.asnT rfl) ?_
  refine PL.nil ?_
  refine thA_n ?_
  refine PC.seq ?_
  refine PC.seq ?_
  obtain ⟨r1, h_2, hh0⟩ := bind_some hh0
  refine PC.region ?_
  refine PL.op rfl (Rd.loadBox rfl rfl rfl) ?_
  refine PL.callM false [] (w_I_ValidHeap N p_h r1 h_2) rfl Try.call78 rfl ⟨.aggL ⟨.t _, trivial⟩, trivial⟩ rfl trivial (fun h => by cases h) ?_
  refine PL.op rfl (Rd.unnot rfl) ?_
  refine PL.nil ?_
  refine thA_n ?_
  rcases cond_some hh0 with ⟨h_3, hh0⟩ | ⟨h_3, hh0⟩
  rotate_left
  · refine PC.cond_true rfl (not_f h_3) ?_
    refine PC.seq ?_
    refine PC.region ?_
    refine PL.op rfl (Rd.asnT rfl) ?_
    refine PL.nil ?_
    refine thA_n ?_
    refine PC.ret ?_
    refine thA_r ?_
    obtain rfl := some_in hh0
    exact FinA.mk (r := .os 0 0 0) (bl := [⟨.tr (eL ([] : List I_Rid)), 62, 2⟩]) [none] (.inl rfl) rfl (rl := [.tmp 2]) (.tmp .nil) rfl rfl rfl (.osn rfl) ⟨ow_nil _, trivial⟩ ⟨rfl, rfl⟩
  refine PC.cond_false rfl (not_t h_3) ?_
  refine PC.skip ?_
  refine thA_n ?_
  refine PC.seq ?_
  refine PC.region ?_
  refine PL.op rfl (Rd.asnT rfl) ?_
  refine PL.nil ?_
  refine thA_n ?_
  refine PC.seq ?_
  refine PC.seq ?_
  refine PC.region ?_
  refine PL.op rfl (Rd.fieldO rfl rfl) ?_
  refine PL.op rfl (Rd.loadO rfl rfl rfl) ?_
  refine PL.op rfl (Rd.lenT rfl) ?_
  refine PL.op rfl (Rd.moveT rfl) ?_
  refine PL.nil ?_
  refine thA_n ?_
  obtain ⟨o40, h_41, hh0⟩ := bind_some hh0
  refine PC.cutE hs (fun x : (List I_Rid) => [(3, .os 0 0 x.length)]) (fun x => [⟨.tr (eL x), 62, 2⟩]) (fun x => m_I_HeapScan_k2 N x = some r) ?_ ?_
  · refine PC.block ?_
    refine PC.loop hs (fun x : Nat × (Int × (List I_Rid)) => [(3, .os 0 0 x.2.2.length), (12, sL p_h.pages), (13, iA (p_h.pages.length : Int)), (14, iA x.2.1)]) (fun x => [⟨.tr (eL x.2.2), 62, 2⟩]) (fun x => loopM (β := (List I_Rid)) (fun s : Int × (List I_Rid) => m_I_HeapScan_b2 N p_h s.1 s.2) x.1 x.2 = some o40) (fun x => x.1) (N, ((0 : Int), ([] : List I_Rid))) [none] ⟨rfl, rfl, ⟨ow_nil _, trivial⟩, ⟨.osn rfl, .t _, .t _, .t _, trivial⟩⟩ h_41 ?_
    rintro ⟨f42_, i4, v5⟩ h_44
    obtain ⟨f42, y43, rfl, hh1, kk1⟩ := loopM_some h_44
    replace hh1 : m_I_HeapScan_b2 N p_h i4 v5 = some y43 := hh1
    unfold m_I_HeapScan_b2 at hh1
    refine PC.seq ?_
    refine PC.region ?_
    refine PL.op rfl (Rd.lss rfl rfl) ?_
    refine PL.nil ?_
    refine thA_n ?_
    refine PC.seq ?_
    rcases cond_some hh1 with ⟨h_45, hh1⟩ | ⟨h_45, hh1⟩
    rotate_left
    · refine PC.cond_false rfl h_45 ?_
      refine PC.exit ?_
      refine thA_e ?_
      refine thA_e ?_
      refine inA_eq rfl ?_
      refine thA_n ?_
      obtain rfl := some_in hh1
      obtain rfl : (v5 : (List I_Rid)) = o40 := kk1
      exact ⟨v5, hh0, [some 0], ⟨rfl, rfl, ⟨⟨_, rfl, rfl, rfl, .tr _⟩, trivial⟩, ⟨.os rfl, trivial⟩⟩⟩
    refine PC.cond_true rfl h_45 ?_
    refine PC.skip ?_
    refine thA_n ?_
    refine PC.seq ?_
    refine PC.block ?_
    refine PC.seq ?_
    obtain ⟨x46, h_47, hh1⟩ := bind_some hh1
    refine PC.region ?_
    refine PL.op rfl (Rd.moveT rfl) ?_
    refine PL.op rfl (Rd.ixM rfl rfl h_47) ?_
    refine PL.op rfl (Rd.elMR rfl h_47 rfl rfl) ?_
    refine PL.ef rfl (Ef.alloc rfl rfl) ?_
    refine PL.nm (.op 1 0) [some ⟨.tr (eL v5), 62, 2⟩, some ⟨.mx [.t (.v (.slice none 0 0))], 25, 0⟩] rfl rfl ?_
    refine PL.op rfl (Rd.asnT rfl) ?_
    refine PL.store rfl rfl rfl rfl rfl rfl rfl ?_
    refine PL.nO [some ⟨.tr (eL v5), 62, 2⟩, some ⟨.mx [sL x46.slots], 25, 0⟩] rfl ?_
    refine PL.nil ?_
    refine thA_n ?_
    refine PC.seq ?_
    refine PC.region ?_
    refine PL.op rfl (Rd.fieldO rfl rfl) ?_
    refine PL.op rfl (Rd.loadO rfl rfl rfl) ?_
    refine PL.op rfl (Rd.lenT rfl) ?_
    refine PL.op rfl (Rd.moveT rfl) ?_
    refine PL.nil ?_
    refine thA_n ?_
    obtain ⟨o61, h_62, hh1⟩ := bind_some hh1
    refine PC.cutE hs (fun x : (List I_Rid) => [(3, .os 0 0 x.length), (12, sL p_h.pages), (13, iA (p_h.pages.length : Int)), (14, iA i4)]) (fun x => [⟨.tr (eL x), 62, 2⟩]) (fun x => m_I_HeapScan_k3 N i4 x = some y43) ?_ ?_
    · refine PC.block ?_
      refine PC.loop hs (fun x : Nat × (Int × (List I_Rid)) => [(3, .os 0 0 x.2.2.length), (4, iA i4), (12, sL p_h.pages), (13, iA (p_h.pages.length : Int)), (14, iA i4), (20, sL x46.slots), (21, iA (x46.slots.length : Int)), (22, iA x.2.1)]) (fun x => [⟨.tr (eL x.2.2), 62, 2⟩]) (fun x => loopM (β := (List I_Rid)) (fun s : Int × (List I_Rid) => m_I_HeapScan_b3 N i4 x46 s.1 s.2) x.1 x.2 = some o61) (fun x => x.1) (N, ((0 : Int), v5)) [some 0] ⟨rfl, rfl, ⟨⟨_, rfl, rfl, rfl, .tr _⟩, trivial⟩, ⟨.os rfl, .t _, .t _, .t _, .t _, .t _, .t _, .t _, trivial⟩⟩ h_62 ?_
      rintro ⟨f63_, i48, v49⟩ h_65
      obtain ⟨f63, y64, rfl, hh2, kk2⟩ := loopM_some h_65
      replace hh2 : m_I_HeapScan_b3 N i4 x46 i48 v49 = some y64 := hh2
      unfold m_I_HeapScan_b3 at hh2
      refine PC.seq ?_
      refine PC.region ?_
      refine PL.op rfl (Rd.lss rfl rfl) ?_
      refine PL.nil ?_
      refine thA_n ?_
      refine PC.seq ?_
      rcases cond_some hh2 with ⟨h_68, hh2⟩ | ⟨h_68, hh2⟩
      rotate_left
      · refine PC.cond_false rfl h_68 ?_
        refine PC.exit ?_
        refine thA_e ?_
        refine thA_e ?_
        refine inA_eq rfl ?_
        refine thA_n ?_
        obtain rfl := some_in hh2
        obtain rfl : (v49 : (List I_Rid)) = o61 := kk2
        exact ⟨v49, hh1, [some 0], ⟨rfl, rfl, ⟨⟨_, rfl, rfl, rfl, .tr _⟩, trivial⟩, ⟨.os rfl, .t _, .t _, .t _, trivial⟩⟩⟩
      refine PC.cond_true rfl h_68 ?_
      refine PC.skip ?_
      refine thA_n ?_
      refine PC.seq ?_
      refine PC.block ?_
      refine PC.seq ?_
      obtain ⟨x69, h_70, hh2⟩ := bind_some hh2
      refine PC.region ?_
      refine PL.op rfl (Rd.moveT rfl) ?_
      refine PL.op rfl (Rd.ixM rfl rfl h_70) ?_
      refine PL.op rfl (Rd.elMR rfl h_70 rfl rfl) ?_
      refine PL.ef rfl (Ef.alloc rfl rfl) ?_
      refine PL.nm (.op 1 0) [some ⟨.tr (eL v49), 62, 2⟩, some ⟨.mx [bA false, sA ByteArray.empty], 35, 0⟩] rfl rfl ?_
      refine PL.op rfl (Rd.asnT rfl) ?_
      refine PL.store rfl rfl rfl rfl rfl rfl rfl ?_
      refine PL.nO [some ⟨.tr (eL v49), 62, 2⟩, some ⟨.mx [bA x69.live, sA x69.data], 35, 0⟩] rfl ?_
      refine PL.nil ?_
      refine thA_n ?_
      refine PC.seq ?_
      refine PC.region ?_
      refine PL.op rfl (Rd.fieldO rfl rfl) ?_
      refine PL.op rfl (Rd.loadO rfl rfl rfl) ?_
      refine PL.nil ?_
      refine thA_n ?_
      rcases cond_some hh2 with ⟨h_71, hh2⟩ | ⟨h_71, hh2⟩
      rotate_left
      · refine PC.cond_false rfl h_71 ?_
        refine PC.skip ?_
        refine inA_n ?_
        refine thA_n ?_
        obtain ⟨n76, h_77, hh2⟩ := bind_some hh2
        refine PC.region ?_
        refine PL.op rfl (Rd.addM rfl rfl h_77) ?_
        refine PL.op rfl (Rd.moveT rfl) ?_
        refine PL.nil ?_
        obtain rfl := some_in hh2
        refine thA_n ?_
        exact ⟨(f63, (n76, v49)), Nat.lt_succ_self _, kk2, [some 0], ⟨rfl, rfl, ⟨⟨_, rfl, rfl, rfl, .tr _⟩, trivial⟩, ⟨.os rfl, .t _, .t _, .t _, .t _, .t _, .t _, .t _, trivial⟩⟩⟩
      refine PC.cond_true rfl h_71 ?_
      obtain ⟨xs72, h_73, hh2⟩ := bind_some hh2
      refine PC.region ?_
      refine PL.op rfl (Rd.moveO rfl) ?_
      refine PL.op rfl (Rd.moveT rfl) ?_
      refine PL.op rfl (Rd.moveT rfl) ?_
      refine PL.op rfl (Rd.build rfl rfl rfl rfl) ?_
      refine PL.ef rfl (Ef.litM (α := I_Rid) [(I_Rid.mk i4 i48)] [_] rfl rfl (by decide) rfl rfl rfl rfl) ?_
      refine PL.nm (.os 2 0 1) [some ⟨.tr (eL v49), 62, 2⟩, some ⟨.mx [bA x69.live, sA x69.data], 35, 0⟩, some ⟨.tr (eL [(I_Rid.mk i4 i48)]), 62, 2⟩] rfl rfl ?_
      refine PL.apM hs rfl rfl rfl rfl (SrcA.ownE rfl rfl rfl) rfl rfl rfl rfl h_73 ?_
      refine PL.nm (.os 3 0 xs72.length) [none, some ⟨.mx [bA x69.live, sA x69.data], 35, 0⟩, some ⟨.tr (eL [(I_Rid.mk i4 i48)]), 62, 2⟩, some ⟨.tr (eL xs72), 62, 2⟩] rfl rfl ?_
      refine PL.op rfl (Rd.asnO rfl) ?_
      refine PL.nil ?_
      refine inA_n ?_
      refine thA_n ?_
      obtain ⟨n74, h_75, hh2⟩ := bind_some hh2
      refine PC.region ?_
      refine PL.op rfl (Rd.addM rfl rfl h_75) ?_
      refine PL.op rfl (Rd.moveT rfl) ?_
      refine PL.nil ?_
      obtain rfl := some_in hh2
      refine thA_n ?_
      exact ⟨(f63, (n74, xs72)), Nat.lt_succ_self _, kk2, [some 3], ⟨rfl, rfl, ⟨⟨_, rfl, rfl, rfl, .tr _⟩, trivial⟩, ⟨.os rfl, .t _, .t _, .t _, .t _, .t _, .t _, .t _, trivial⟩⟩⟩
    clear hh1
    rintro v60 hh1
    replace hh1 : m_I_HeapScan_k3 N i4 v60 = some y43 := hh1
    unfold m_I_HeapScan_k3 at hh1
    refine inA_n ?_
    refine thA_n ?_
    obtain ⟨n66, h_67, hh1⟩ := bind_some hh1
    refine PC.region ?_
    refine PL.op rfl (Rd.addM rfl rfl h_67) ?_
    refine PL.op rfl (Rd.moveT rfl) ?_
    refine PL.nil ?_
    obtain rfl := some_in hh1
    refine thA_n ?_
    exact ⟨(f42, (n66, v60)), Nat.lt_succ_self _, kk1, [some 0], ⟨rfl, rfl, ⟨⟨_, rfl, rfl, rfl, .tr _⟩, trivial⟩, ⟨.os rfl, .t _, .t _, .t _, trivial⟩⟩⟩
  clear hh0
  rintro v39 hh0
  replace hh0 : m_I_HeapScan_k2 N v39 = some r := hh0
  unfold m_I_HeapScan_k2 at hh0
  refine thA_n ?_
  refine PC.seq ?_
  refine PC.region ?_
  refine PL.op rfl (Rd.moveO rfl) ?_
  refine PL.op rfl (Rd.asnO rfl) ?_
  refine PL.nil ?_
  refine thA_n ?_
  refine PC.ret ?_
  obtain rfl := some_in hh0
  exact FinA.mk (r := .os 0 0 v39.length) (bl := [⟨.tr (eL v39), 62, 2⟩]) [some 0] (.inl rfl) rfl (rl := [.tmp 2]) (.tmp .nil) rfl rfl rfl (.os rfl) ⟨⟨_, rfl, rfl, rfl, .tr _⟩, trivial⟩ ⟨rfl, rfl⟩

def m_I_HeapGet (N : Nat) (p_h : I_Heap) (p_r : I_Rid) : Option (ByteArray × Bool) :=
  (m_I_ValidHeap N p_h).bind fun r1 =>
  cond r1
    ((m_I_Heap_has N p_h p_r.page).bind fun r4 =>
    cond r4
      ((ixI p_h.pages p_r.page).bind fun x7 =>
      (m_I_GetSlot N x7 p_r.slot).bind fun r9 =>
      some (r9.1, r9.2))
      (some (ByteArray.empty, false)))
    (some (ByteArray.empty, false))
theorem w_I_HeapGet (N : Nat) (p_h : I_Heap) (p_r : I_Rid) (r : ByteArray × Bool) (hh0 : m_I_HeapGet N p_h p_r = some r) : FnX Try.prog 44 [] [.agg [sL p_h.pages], .agg [iA p_r.page, iA p_r.slot]] (RE (.tup [sA r.1, bA r.2]) []) := by
  unfold m_I_HeapGet at hh0
  refine FnX.mk Try.func44 rfl rfl ?_
  intro s hs
  refine PC.seq ?_
  refine PC.region ?_
  refine PL.ef rfl (Ef.box rfl rfl rfl) ?_
  refine PL.nm (.op 0 0) [some ⟨.mx [sL p_h.pages], 58, 0⟩] rfl rfl ?_
  refine PL.ef rfl (Ef.box rfl rfl rfl) ?_
  refine PL.nm (.op 1 0) [some ⟨.mx [sL p_h.pages], 58, 0⟩, some ⟨.mx [iA p_r.page, iA p_r.slot], 62, 0⟩] rfl rfl ?_
  refine PL.op rfl (Rd.asnT rfl) ?_
  refine PL.op rfl (Rd.asnT rfl) ?_
  refine PL.nil ?_
  refine thA_n ?_
  refine PC.seq ?_
  refine PC.seq ?_
  obtain ⟨r1, h_2, hh0⟩ := bind_some hh0
  rcases cond_some hh0 with ⟨h_3, hh0⟩ | ⟨h_3, hh0⟩
  rotate_left
  · refine PC.region ?_
    refine PL.op rfl (Rd.loadBox rfl rfl rfl) ?_
    refine PL.callM false [] (w_I_ValidHeap N p_h r1 h_2) rfl Try.call78 rfl ⟨.aggL ⟨.t _, trivial⟩, trivial⟩ rfl trivial (fun h => by cases h) ?_
    refine PL.op rfl (Rd.unnot rfl) ?_
    refine PL.op rfl (Rd.moveT rfl) ?_
    refine PL.guard_off rfl rfl (not_f h_3) ?_
    refine PL.guard_off rfl rfl (not_f h_3) ?_
    refine PL.guard_off rfl rfl (not_f h_3) ?_
    refine PL.guard_off rfl rfl (not_f h_3) ?_
    refine PL.guard_off rfl rfl (not_f h_3) ?_
    refine PL.op rfl (Rd.pick_t rfl (not_f h_3)) ?_
    refine PL.nil ?_
    refine thA_n ?_
    refine PC.cond_true rfl rfl ?_
    refine PC.seq ?_
    refine PC.region ?_
    refine PL.op rfl (Rd.asnT rfl) ?_
    refine PL.op rfl (Rd.asnT rfl) ?_
    refine PL.nil ?_
    refine thA_n ?_
    refine PC.ret ?_
    refine thA_r ?_
    obtain rfl := some_in hh0
    exact FinA.mk (r := .tup [sA ((ByteArray.empty, false).1), bA ((ByteArray.empty, false).2)]) (bl := []) [] (.inl rfl) rfl (rl := [.tmp 4, .tmp 5]) (.tmp (.tmp .nil)) rfl rfl rfl (.tupL ⟨.t _, .t _, trivial⟩) trivial ⟨rfl, rfl⟩
  obtain ⟨r4, h_5, hh0⟩ := bind_some hh0
  refine PC.region ?_
  refine PL.op rfl (Rd.loadBox rfl rfl rfl) ?_
  refine PL.callM false [] (w_I_ValidHeap N p_h r1 h_2) rfl Try.call78 rfl ⟨.aggL ⟨.t _, trivial⟩, trivial⟩ rfl trivial (fun h => by cases h) ?_
  refine PL.op rfl (Rd.unnot rfl) ?_
  refine PL.op rfl (Rd.moveT rfl) ?_
  refine PL.guard_on rfl (not_t h_3) ?_
  refine PL.op rfl (Rd.loadBox rfl rfl rfl) ?_
  refine PL.guard_on rfl (not_t h_3) ?_
  refine PL.op rfl (Rd.fieldO rfl rfl) ?_
  refine PL.guard_on rfl (not_t h_3) ?_
  refine PL.op rfl (Rd.loadO rfl rfl rfl) ?_
  refine PL.guard_on rfl (not_t h_3) ?_
  refine PL.callM false [] (w_I_Heap_has N p_h p_r.page r4 h_5) rfl Try.call83 rfl ⟨.aggL ⟨.t _, trivial⟩, .t _, trivial⟩ rfl trivial (fun h => by cases h) ?_
  refine PL.guard_on rfl (not_t h_3) ?_
  refine PL.op rfl (Rd.unnot rfl) ?_
  refine PL.op rfl (Rd.pick_f rfl (not_t h_3)) ?_
  refine PL.nil ?_
  refine thA_n ?_
  rcases cond_some hh0 with ⟨h_6, hh0⟩ | ⟨h_6, hh0⟩
  rotate_left
  · refine PC.cond_true rfl (not_f h_6) ?_
    refine PC.seq ?_
    refine PC.region ?_
    refine PL.op rfl (Rd.asnT rfl) ?_
    refine PL.op rfl (Rd.asnT rfl) ?_
    refine PL.nil ?_
    refine thA_n ?_
    refine PC.ret ?_
    refine thA_r ?_
    obtain rfl := some_in hh0
    exact FinA.mk (r := .tup [sA ((ByteArray.empty, false).1), bA ((ByteArray.empty, false).2)]) (bl := []) [] (.inl rfl) rfl (rl := [.tmp 4, .tmp 5]) (.tmp (.tmp .nil)) rfl rfl rfl (.tupL ⟨.t _, .t _, trivial⟩) trivial ⟨rfl, rfl⟩
  refine PC.cond_false rfl (not_t h_6) ?_
  refine PC.skip ?_
  refine thA_n ?_
  refine PC.seq ?_
  obtain ⟨x7, h_8, hh0⟩ := bind_some hh0
  obtain ⟨r9, h_10, hh0⟩ := bind_some hh0
  refine PC.any (id := 3) 13 (.seg [0, 1, 2, 3, 4, 5, 6, 7, 8, 9, 10, 11, 12] .done) [] rfl (by kernel_rfl) rfl ?_
  refine PT.seg ?_
  refine PR.op rfl (Rd.fieldO rfl rfl) ?_
  refine PR.op rfl (Rd.loadO rfl rfl rfl) ?_
  refine PR.op rfl (Rd.fieldO rfl rfl) ?_
  refine PR.op rfl (Rd.loadO rfl rfl rfl) ?_
  refine PR.op rfl (Rd.ixM rfl rfl h_8) ?_
  refine PR.op rfl (Rd.elMR rfl h_8 rfl rfl) ?_
  refine PR.op rfl (Rd.fieldO rfl rfl) ?_
  refine PR.op rfl (Rd.loadO rfl rfl rfl) ?_
  refine PR.callM false [] (w_I_GetSlot N x7 p_r.slot r9 h_10) rfl Try.call26 rfl ⟨.aggL ⟨.t _, trivial⟩, .t _, trivial⟩ rfl trivial (fun h => by cases h) rfl ?_
  refine PR.op rfl (Rd.extract rfl rfl) ?_
  refine PR.op rfl (Rd.extract rfl rfl) ?_
  refine PR.op rfl (Rd.asnT rfl) ?_
  refine PR.op rfl (Rd.asnT rfl) ?_
  refine PR.nil ?_
  refine PT.done ?_
  refine PL.nil ?_
  refine thA_n ?_
  refine PC.ret ?_
  obtain rfl := some_in hh0
  exact FinA.mk (r := .tup [sA ((r9.1, r9.2).1), bA ((r9.1, r9.2).2)]) (bl := []) [] (.inl rfl) rfl (rl := [.tmp 4, .tmp 5]) (.tmp (.tmp .nil)) rfl rfl rfl (.tupL ⟨.t _, .t _, trivial⟩) trivial ⟨rfl, rfl⟩

def m_S_validHeap_k1 (N : Nat) (p_h : I_Heap) : Option (Bool) :=
  some (decide ((p_h.pages.length : Int) ≤ (6 : Int)))
def m_S_validHeap_b1 (N : Nat) (p_h : I_Heap) (i1 : Int) : Option (Int ⊕ (Unit ⊕ Bool)) :=
  cond (decide (i1 < (p_h.pages.length : Int)))
    ((ixI p_h.pages i1).bind fun x16 =>
    (m_S_validPage N x16).bind fun r18 =>
    cond r18
      ((chk (i1 + (1 : Int))).bind fun n21 =>
      some (.inl n21))
      (some (.inr (.inr false))))
    (some (.inr (.inl ())))
def m_S_validHeap (N : Nat) (p_h : I_Heap) : Option (Bool) :=
  (loopM (β := Unit ⊕ Bool) (fun s : Int => m_S_validHeap_b1 N p_h s) N (0 : Int)).bind fun o => match o with
  | .inl e =>
    m_S_validHeap_k1 N p_h 
  | .inr v =>
    some v
theorem w_S_validHeap (N : Nat) (p_h : I_Heap) (r : Bool) (hh0 : m_S_validHeap N p_h = some r) : FnX Try.prog 80 [] [.agg [sL p_h.pages]] (RE (bA r) []) := by
  unfold m_S_validHeap at hh0
  refine FnX.mk Try.func80 rfl rfl ?_
  intro s hs
  refine PC.seq ?_
  refine PC.region ?_
  refine PL.ef rfl (Ef.box rfl rfl rfl) ?_
  refine PL.nm (.op 0 0) [some ⟨.mx [sL p_h.pages], 58, 0⟩] rfl rfl ?_
  refine PL.op rfl (Rd.asnT rfl) ?_
  refine PL.nil ?_
  refine thA_n ?_
  refine PC.seq ?_
  refine PC.seq ?_
  refine PC.region ?_
  refine PL.op rfl (Rd.asnT rfl) ?_
  refine PL.nil ?_
  refine thA_n ?_
  obtain ⟨o10, h_11, hh0⟩ := bind_some hh0
  refine PC.cutE hs (fun x : Unit => [(1, .op 0 0)]) (fun x => [⟨.mx [sL p_h.pages], 58, 0⟩]) (fun x => m_S_validHeap_k1 N p_h  = some r) ?_ ?_
  · refine PC.block ?_
    refine PC.loop hs (fun x : Nat × (Int) => [(1, .op 0 0), (3, iA x.2)]) (fun x => [⟨.mx [sL p_h.pages], 58, 0⟩]) (fun x => loopM (β := Unit ⊕ Bool) (fun s : Int => m_S_validHeap_b1 N p_h s) x.1 x.2 = some o10) (fun x => x.1) (N, (0 : Int)) [some 0] ⟨rfl, rfl, ⟨⟨_, rfl, rfl, rfl, .mx ⟨.t _, trivial⟩⟩, trivial⟩, ⟨.op rfl, .t _, trivial⟩⟩ h_11 ?_
    rintro ⟨f12_, i1⟩ h_14
    obtain ⟨f12, y13, rfl, hh1, kk1⟩ := loopM_some h_14
    replace hh1 : m_S_validHeap_b1 N p_h i1 = some y13 := hh1
    unfold m_S_validHeap_b1 at hh1
    refine PC.seq ?_
    refine PC.seq ?_
    refine PC.region ?_
    refine PL.op rfl (Rd.moveT rfl) ?_
    refine PL.op rfl (Rd.fieldO rfl rfl) ?_
    refine PL.op rfl (Rd.loadO rfl rfl rfl) ?_
    refine PL.op rfl (Rd.lenT rfl) ?_
    refine PL.op rfl (Rd.lss rfl rfl) ?_
    refine PL.nil ?_
    refine thA_n ?_
    rcases cond_some hh1 with ⟨h_15, hh1⟩ | ⟨h_15, hh1⟩
    rotate_left
    · refine PC.cond_false rfl h_15 ?_
      refine PC.exit ?_
      refine thA_e ?_
      refine thA_e ?_
      refine inA_eq rfl ?_
      refine thA_n ?_
      obtain rfl := some_in hh1
      obtain rfl : (.inl () : Unit ⊕ Bool) = o10 := kk1
      exact ⟨(), hh0, [some 0], ⟨rfl, rfl, ⟨⟨_, rfl, rfl, rfl, .mx ⟨.t _, trivial⟩⟩, trivial⟩, ⟨.op rfl, trivial⟩⟩⟩
    refine PC.cond_true rfl h_15 ?_
    refine PC.skip ?_
    refine thA_n ?_
    refine PC.seq ?_
    refine PC.block ?_
    refine PC.seq ?_
    obtain ⟨x16, h_17, hh1⟩ := bind_some hh1
    obtain ⟨r18, h_19, hh1⟩ := bind_some hh1
    refine PC.region ?_
    refine PL.op rfl (Rd.fieldO rfl rfl) ?_
    refine PL.op rfl (Rd.loadO rfl rfl rfl) ?_
    refine PL.op rfl (Rd.moveT rfl) ?_
    refine PL.op rfl (Rd.ixM rfl rfl h_17) ?_
    refine PL.op rfl (Rd.elMR rfl h_17 rfl rfl) ?_
    refine PL.callM false [] (w_S_validPage N x16 r18 h_19) rfl Try.call61 rfl ⟨.aggL ⟨.t _, trivial⟩, trivial⟩ rfl trivial (fun h => by cases h) ?_
    refine PL.op rfl (Rd.unnot rfl) ?_
    refine PL.nil ?_
    refine thA_n ?_
    rcases cond_some hh1 with ⟨h_20, hh1⟩ | ⟨h_20, hh1⟩
    · refine PC.cond_false rfl (not_t h_20) ?_
      refine PC.skip ?_
      refine inA_n ?_
      refine thA_n ?_
      obtain ⟨n21, h_22, hh1⟩ := bind_some hh1
      refine PC.region ?_
      refine PL.op rfl (Rd.moveT rfl) ?_
      refine PL.op rfl (Rd.addM rfl rfl h_22) ?_
      refine PL.op rfl (Rd.asnT rfl) ?_
      refine PL.nil ?_
      obtain rfl := some_in hh1
      refine thA_n ?_
      exact ⟨(f12, n21), Nat.lt_succ_self _, kk1, [some 0], ⟨rfl, rfl, ⟨⟨_, rfl, rfl, rfl, .mx ⟨.t _, trivial⟩⟩, trivial⟩, ⟨.op rfl, .t _, trivial⟩⟩⟩
    refine PC.cond_true rfl (not_f h_20) ?_
    refine PC.seq ?_
    refine PC.region ?_
    refine PL.op rfl (Rd.asnT rfl) ?_
    refine PL.nil ?_
    refine thA_n ?_
    refine PC.ret ?_
    refine inA_r ?_
    refine thA_r ?_
    refine thA_r ?_
    refine inA_r ?_
    refine thA_r ?_
    obtain rfl := some_in hh1
    obtain rfl : (.inr false : Unit ⊕ Bool) = o10 := kk1
    refine thA_r ?_
    obtain rfl := some_in hh0
    exact FinA.mk (r := bA false) (bl := []) [] (.inl rfl) rfl (rl := [.tmp 2]) (.tmp .nil) rfl rfl rfl (.t _) trivial ⟨rfl, rfl⟩
  clear hh0
  rintro ⟨⟩ hh0
  replace hh0 : m_S_validHeap_k1 N p_h  = some r := hh0
  unfold m_S_validHeap_k1 at hh0
  refine thA_n ?_
  refine PC.seq ?_
  refine PC.region ?_
  refine PL.op rfl (Rd.fieldO rfl rfl) ?_
  refine PL.op rfl (Rd.loadO rfl rfl rfl) ?_
  refine PL.op rfl (Rd.lenT rfl) ?_
  refine PL.op rfl (Rd.leq rfl rfl) ?_
  refine PL.op rfl (Rd.asnT rfl) ?_
  refine PL.nil ?_
  refine thA_n ?_
  refine PC.ret ?_
  obtain rfl := some_in hh0
  exact FinA.mk (r := bA (decide ((p_h.pages.length : Int) ≤ (6 : Int)))) (bl := []) [] (.inl rfl) rfl (rl := [.tmp 2]) (.tmp .nil) rfl rfl rfl (.t _) trivial ⟨rfl, rfl⟩

def m_S_copyHeap_k1 (N : Nat) (v12 : (List I_Page)) : Option (I_Heap) :=
  some (I_Heap.mk v12)
def m_S_copyHeap_b1 (N : Nat) (p_h : I_Heap) (i1 : Int) (v2 : (List I_Page)) : Option ((Int × (List I_Page)) ⊕ (List I_Page)) :=
  cond (decide (i1 < (p_h.pages.length : Int)))
    ((ixI p_h.pages i1).bind fun x19 =>
    (appM 24 ([] : List I_Slot) x19.slots).bind fun xs21 =>
    (appM 24 v2 [(I_Page.mk xs21)]).bind fun xs23 =>
    (chk (i1 + (1 : Int))).bind fun n25 =>
    some (.inl (n25, xs23)))
    (some (.inr v2))
def m_S_copyHeap (N : Nat) (p_h : I_Heap) : Option (I_Heap) :=
  (loopM (β := (List I_Page)) (fun s : Int × (List I_Page) => m_S_copyHeap_b1 N p_h s.1 s.2) N ((0 : Int), ([] : List I_Page))).bind fun e =>
  m_S_copyHeap_k1 N e
theorem w_S_copyHeap (N : Nat) (p_h : I_Heap) (r : I_Heap) (hh0 : m_S_copyHeap N p_h = some r) : FnX Try.prog 86 [] [.agg [sL p_h.pages]] (RE (.agg [.os 0 0 r.pages.length]) [⟨.tr (eL r.pages), 25, 1⟩]) := by
  unfold m_S_copyHeap at hh0
  refine FnX.mk Try.func86 rfl rfl ?_
  intro s hs
  refine PC.seq ?_
  refine PC.region ?_
  refine PL.ef rfl (Ef.box rfl rfl rfl) ?_
  refine PL.nm (.op 0 0) [some ⟨.mx [sL p_h.pages], 58, 0⟩] rfl rfl ?_
  refine PL.ef rfl (Ef.alloc rfl rfl) ?_
  refine PL.nm (.op 1 0) [some ⟨.mx [sL p_h.pages], 58, 0⟩, some ⟨.mx [.t (.v (.slice none 0 0))], 58, 0⟩] rfl rfl ?_
  refine PL.nil ?_
  refine thA_n ?_
  refine PC.seq ?_
  refine PC.region ?_
  refine PL.ef rfl (Ef.lit0M I_Page) ?_
  refine PL.nm (.os 2 0 0) [some ⟨.mx [sL p_h.pages], 58, 0⟩, some ⟨.mx [.t (.v (.slice none 0 0))], 58, 0⟩, some ⟨.tr (eL ([] : List I_Page)), 25, 1⟩] rfl rfl ?_
  refine PL.op rfl (Rd.asnO rfl) ?_
  refine PL.nil ?_
  refine thA_n ?_
  refine PC.seq ?_
  refine PC.seq ?_
  refine PC.region ?_
  refine PL.op rfl (Rd.asnT rfl) ?_
  refine PL.nil ?_
  refine thA_n ?_
  obtain ⟨o13, h_14, hh0⟩ := bind_some hh0
  refine PC.cutE hs (fun x : (List I_Page) => [(2, .op 0 0), (3, .os 1 0 x.length)]) (fun x => [⟨.mx [.t (.v (.slice none 0 0))], 58, 0⟩, ⟨.tr (eL x), 25, 1⟩]) (fun x => m_S_copyHeap_k1 N x = some r) ?_ ?_
  · refine PC.block ?_
    refine PC.loop hs (fun x : Nat × (Int × (List I_Page)) => [(1, .op 0 0), (2, .op 1 0), (3, .os 2 0 x.2.2.length), (4, iA x.2.1)]) (fun x => [⟨.mx [sL p_h.pages], 58, 0⟩, ⟨.mx [.t (.v (.slice none 0 0))], 58, 0⟩, ⟨.tr (eL x.2.2), 25, 1⟩]) (fun x => loopM (β := (List I_Page)) (fun s : Int × (List I_Page) => m_S_copyHeap_b1 N p_h s.1 s.2) x.1 x.2 = some o13) (fun x => x.1) (N, ((0 : Int), ([] : List I_Page))) [some 0, some 1, some 2] ⟨rfl, rfl, ⟨⟨_, rfl, rfl, rfl, .mx ⟨.t _, trivial⟩⟩, ⟨_, rfl, rfl, rfl, .mx ⟨.t _, trivial⟩⟩, ⟨_, rfl, rfl, rfl, .tr _⟩, trivial⟩, ⟨.op rfl, .op rfl, .os rfl, .t _, trivial⟩⟩ h_14 ?_
    rintro ⟨f15_, i1, v2⟩ h_17
    obtain ⟨f15, y16, rfl, hh1, kk1⟩ := loopM_some h_17
    replace hh1 : m_S_copyHeap_b1 N p_h i1 v2 = some y16 := hh1
    unfold m_S_copyHeap_b1 at hh1
    refine PC.seq ?_
    refine PC.seq ?_
    refine PC.region ?_
    refine PL.op rfl (Rd.moveT rfl) ?_
    refine PL.op rfl (Rd.fieldO rfl rfl) ?_
    refine PL.op rfl (Rd.loadO rfl rfl rfl) ?_
    refine PL.op rfl (Rd.lenT rfl) ?_
    refine PL.op rfl (Rd.lss rfl rfl) ?_
    refine PL.nil ?_
    refine thA_n ?_
    rcases cond_some hh1 with ⟨h_18, hh1⟩ | ⟨h_18, hh1⟩
    rotate_left
    · refine PC.cond_false rfl h_18 ?_
      refine PC.exit ?_
      refine thA_e ?_
      refine thA_e ?_
      refine inA_eq rfl ?_
      refine thA_n ?_
      obtain rfl := some_in hh1
      obtain rfl : (v2 : (List I_Page)) = o13 := kk1
      exact ⟨v2, hh0, [some 1, some 2], ⟨rfl, rfl, ⟨⟨_, rfl, rfl, rfl, .mx ⟨.t _, trivial⟩⟩, ⟨_, rfl, rfl, rfl, .tr _⟩, trivial⟩, ⟨.op rfl, .os rfl, trivial⟩⟩⟩
    refine PC.cond_true rfl h_18 ?_
    refine PC.skip ?_
    refine thA_n ?_
    refine PC.seq ?_
    refine PC.block ?_
    obtain ⟨x19, h_20, hh1⟩ := bind_some hh1
    obtain ⟨xs21, h_22, hh1⟩ := bind_some hh1
    obtain ⟨xs23, h_24, hh1⟩ := bind_some hh1
    refine PC.region ?_
    refine PL.op rfl (Rd.moveO rfl) ?_
    refine PL.ef rfl (Ef.lit0M I_Slot) ?_
    refine PL.nm (.os 3 0 0) [some ⟨.mx [sL p_h.pages], 58, 0⟩, some ⟨.mx [.t (.v (.slice none 0 0))], 58, 0⟩, some ⟨.tr (eL v2), 25, 1⟩, some ⟨.tr (eL ([] : List I_Slot)), 35, 2⟩] rfl rfl ?_
    refine PL.op rfl (Rd.fieldO rfl rfl) ?_
    refine PL.op rfl (Rd.loadO rfl rfl rfl) ?_
    refine PL.op rfl (Rd.moveT rfl) ?_
    refine PL.op rfl (Rd.ixM rfl rfl h_20) ?_
    refine PL.op rfl (Rd.fieldT rfl) ?_
    refine PL.op rfl (Rd.elMF (f := 0) rfl h_20 rfl rfl) ?_
    refine PL.apM hs rfl rfl rfl rfl (SrcA.eL rfl) rfl rfl rfl rfl h_22 ?_
    refine PL.nm (.os 4 0 xs21.length) [some ⟨.mx [sL p_h.pages], 58, 0⟩, some ⟨.mx [.t (.v (.slice none 0 0))], 58, 0⟩, some ⟨.tr (eL v2), 25, 1⟩, none, some ⟨.tr (eL xs21), 35, 2⟩] rfl rfl ?_
    refine PL.op rfl (Rd.build rfl rfl rfl rfl) ?_
    refine PL.frz hs 4 5 [(21, sL xs21), (22, .agg [sL xs21])] [some ⟨.mx [sL p_h.pages], 58, 0⟩, some ⟨.mx [.t (.v (.slice none 0 0))], 58, 0⟩, some ⟨.tr (eL v2), 25, 1⟩, none, none] rfl rfl ⟨(.own rfl (by decide) rfl rfl), (.aggL ⟨(.own rfl (by decide) rfl rfl), trivial⟩), trivial⟩ ⟨⟨rfl, .inl rfl⟩, ⟨rfl, .inl rfl⟩, ⟨rfl, .inl rfl⟩, trivial⟩ ?_
    refine PL.ef rfl (Ef.litM (α := I_Page) [(I_Page.mk xs21)] [_] rfl rfl (by decide) rfl rfl rfl rfl) ?_
    refine PL.nm (.os 5 0 1) [some ⟨.mx [sL p_h.pages], 58, 0⟩, some ⟨.mx [.t (.v (.slice none 0 0))], 58, 0⟩, some ⟨.tr (eL v2), 25, 1⟩, none, none, some ⟨.tr (eL [(I_Page.mk xs21)]), 25, 1⟩] rfl rfl ?_
    refine PL.apM hs rfl rfl rfl rfl (SrcA.ownE rfl rfl rfl) rfl rfl rfl rfl h_24 ?_
    refine PL.nm (.os 6 0 xs23.length) [some ⟨.mx [sL p_h.pages], 58, 0⟩, some ⟨.mx [.t (.v (.slice none 0 0))], 58, 0⟩, none, none, none, some ⟨.tr (eL [(I_Page.mk xs21)]), 25, 1⟩, some ⟨.tr (eL xs23), 25, 1⟩] rfl rfl ?_
    refine PL.op rfl (Rd.asnO rfl) ?_
    refine PL.nil ?_
    refine inA_n ?_
    refine thA_n ?_
    obtain ⟨n25, h_26, hh1⟩ := bind_some hh1
    refine PC.region ?_
    refine PL.op rfl (Rd.moveT rfl) ?_
    refine PL.op rfl (Rd.addM rfl rfl h_26) ?_
    refine PL.op rfl (Rd.asnT rfl) ?_
    refine PL.nil ?_
    obtain rfl := some_in hh1
    refine thA_n ?_
    exact ⟨(f15, (n25, xs23)), Nat.lt_succ_self _, kk1, [some 0, some 1, some 6], ⟨rfl, rfl, ⟨⟨_, rfl, rfl, rfl, .mx ⟨.t _, trivial⟩⟩, ⟨_, rfl, rfl, rfl, .mx ⟨.t _, trivial⟩⟩, ⟨_, rfl, rfl, rfl, .tr _⟩, trivial⟩, ⟨.op rfl, .op rfl, .os rfl, .t _, trivial⟩⟩⟩
  clear hh0
  rintro v12 hh0
  replace hh0 : m_S_copyHeap_k1 N v12 = some r := hh0
  unfold m_S_copyHeap_k1 at hh0
  refine thA_n ?_
  refine PC.seq ?_
  refine PC.region ?_
  refine PL.op rfl (Rd.moveO rfl) ?_
  refine PL.op rfl (Rd.build rfl rfl rfl rfl) ?_
  refine PL.store rfl rfl rfl rfl rfl rfl rfl ?_
  refine PL.nO [some ⟨.mx [.os 1 0 v12.length], 58, 0⟩, some ⟨.tr (eL v12), 25, 1⟩] rfl ?_
  refine PL.nil ?_
  refine thA_n ?_
  refine PC.ret ?_
  obtain rfl := some_in hh0
  exact FinA.mk (r := .agg [.os 0 0 v12.length]) (bl := [⟨.tr (eL v12), 25, 1⟩]) [some 1] (.inl rfl) rfl (rl := [.cell 2 58]) (.cellN rfl rfl rfl rfl .nil) rfl rfl rfl (.aggL ⟨.os rfl, trivial⟩) ⟨⟨_, rfl, rfl, rfl, .tr _⟩, trivial⟩ ⟨rfl, rfl⟩

def m_S_insert_k1 (N : Nat) (p_h : I_Heap) (p_data : ByteArray) (r1 : (I_Heap)) : Option (I_Heap × I_Rid × Bool) :=
  (m_S_PutSlot N (I_Page.mk ([] : List I_Slot)) p_data).bind fun r19 =>
  cond r19.2.2
    (cond (decide ((p_h.pages.length : Int) = (6 : Int)))
      (some ((I_Heap.mk ([] : List I_Page)), (I_Rid.mk (0 : Int) (0 : Int)), false))
      ((appM 24 r1.pages [r19.1]).bind fun xs23 =>
      some ((I_Heap.mk xs23), (I_Rid.mk (p_h.pages.length : Int) r19.2.1), true)))
    (some ((I_Heap.mk ([] : List I_Page)), (I_Rid.mk (0 : Int) (0 : Int)), false))
def m_S_insert_b1 (N : Nat) (p_h : I_Heap) (p_data : ByteArray) (r1 : (I_Heap)) (at3 : Int) : Option (Int ⊕ (Unit ⊕ (I_Heap × I_Rid × Bool))) :=
  cond (decide (at3 < (p_h.pages.length : Int)))
    ((ixI p_h.pages at3).bind fun x26 =>
    (m_S_PutSlot N x26 p_data).bind fun r28 =>
    cond r28.2.2
      ((ixI r1.pages at3).bind fun x31 =>
      some (.inr (.inr ((I_Heap.mk (r1.pages.set at3.toNat r28.1)), (I_Rid.mk at3 r28.2.1), true))))
      ((chk (at3 + (1 : Int))).bind fun n33 =>
      some (.inl n33)))
    (some (.inr (.inl ())))
def m_S_insert (N : Nat) (p_h : I_Heap) (p_data : ByteArray) : Option (I_Heap × I_Rid × Bool) :=
  (m_S_copyHeap N p_h).bind fun r1 =>
  (loopM (β := Unit ⊕ (I_Heap × I_Rid × Bool)) (fun s : Int => m_S_insert_b1 N p_h p_data r1 s) N (0 : Int)).bind fun o => match o with
  | .inl e =>
    m_S_insert_k1 N p_h p_data r1 
  | .inr v =>
    some v
theorem w_S_insert (N : Nat) (p_h : I_Heap) (p_data : ByteArray) (r : I_Heap × I_Rid × Bool) (hh0 : m_S_insert N p_h p_data = some r) : FnX Try.prog 81 [] [.agg [sL p_h.pages], sA p_data] (RE (.tup [.agg [.os 0 0 r.1.pages.length], .agg [iA r.2.1.page, iA r.2.1.slot], bA r.2.2]) [⟨.tr (eL r.1.pages), 25, 1⟩]) := by
  unfold m_S_insert at hh0
  refine FnX.mk Try.func81 rfl rfl ?_
  intro s hs
  refine PC.seq ?_
  refine PC.region ?_
  refine PL.ef rfl (Ef.box rfl rfl rfl) ?_
  refine PL.nm (.op 0 0) [some ⟨.mx [sL p_h.pages], 58, 0⟩] rfl rfl ?_
  refine PL.ef rfl (Ef.alloc rfl rfl) ?_
  refine PL.nm (.op 1 0) [some ⟨.mx [sL p_h.pages], 58, 0⟩, some ⟨.mx [.t (.v (.slice none 0 0))], 58, 0⟩] rfl rfl ?_
  refine PL.ef rfl (Ef.alloc rfl rfl) ?_
  refine PL.nm (.op 2 0) [some ⟨.mx [sL p_h.pages], 58, 0⟩, some ⟨.mx [.t (.v (.slice none 0 0))], 58, 0⟩, some ⟨.mx [iA (0 : Int), iA (0 : Int)], 62, 0⟩] rfl rfl ?_
  refine PL.op rfl (Rd.asnT rfl) ?_
  refine PL.nil ?_
  refine thA_n ?_
  refine PC.seq ?_
  obtain ⟨r1, h_2, hh0⟩ := bind_some hh0
  refine PC.region ?_
  refine PL.op rfl (Rd.loadBox rfl rfl rfl) ?_
  refine PL.callM false [] (w_S_copyHeap N p_h r1 h_2) rfl Try.call86 rfl ⟨.aggL ⟨.t _, trivial⟩, trivial⟩ rfl trivial (fun h => by cases h) ?_
  refine PL.nm (.agg [.os 3 0 r1.pages.length]) [some ⟨.mx [sL p_h.pages], 58, 0⟩, some ⟨.mx [.t (.v (.slice none 0 0))], 58, 0⟩, some ⟨.mx [iA (0 : Int), iA (0 : Int)], 62, 0⟩, some ⟨.tr (eL r1.pages), 25, 1⟩] rfl rfl ?_
  refine PL.ef rfl (Ef.alloc rfl rfl) ?_
  refine PL.nm (.op 4 0) [some ⟨.mx [sL p_h.pages], 58, 0⟩, some ⟨.mx [.t (.v (.slice none 0 0))], 58, 0⟩, some ⟨.mx [iA (0 : Int), iA (0 : Int)], 62, 0⟩, some ⟨.tr (eL r1.pages), 25, 1⟩, some ⟨.mx [.t (.v (.slice none 0 0))], 58, 0⟩] rfl rfl ?_
  refine PL.store rfl rfl rfl rfl rfl rfl rfl ?_
  refine PL.nO [some ⟨.mx [sL p_h.pages], 58, 0⟩, some ⟨.mx [.t (.v (.slice none 0 0))], 58, 0⟩, some ⟨.mx [iA (0 : Int), iA (0 : Int)], 62, 0⟩, some ⟨.tr (eL r1.pages), 25, 1⟩, some ⟨.mx [.os 3 0 r1.pages.length], 58, 0⟩] rfl ?_
  refine PL.nil ?_
  refine thA_n ?_
  refine PC.seq ?_
  refine PC.seq ?_
  refine PC.region ?_
  refine PL.op rfl (Rd.asnT rfl) ?_
  refine PL.nil ?_
  refine thA_n ?_
  obtain ⟨o14, h_15, hh0⟩ := bind_some hh0
  refine PC.cutE hs (fun x : Unit => [(1, sA p_data), (2, .op 0 0), (4, .op 1 0), (5, .op 2 0), (7, .op 3 0)]) (fun x => [⟨.mx [sL p_h.pages], 58, 0⟩, ⟨.mx [.t (.v (.slice none 0 0))], 58, 0⟩, ⟨.mx [iA (0 : Int), iA (0 : Int)], 62, 0⟩, ⟨.mx [.os 4 0 r1.pages.length], 58, 0⟩, ⟨.tr (eL r1.pages), 25, 1⟩]) (fun x => m_S_insert_k1 N p_h p_data r1  = some r) ?_ ?_
  · refine PC.block ?_
    refine PC.loop hs (fun x : Nat × (Int) => [(1, sA p_data), (2, .op 0 0), (4, .op 1 0), (5, .op 2 0), (7, .op 3 0), (8, iA x.2)]) (fun x => [⟨.mx [sL p_h.pages], 58, 0⟩, ⟨.mx [.t (.v (.slice none 0 0))], 58, 0⟩, ⟨.mx [iA (0 : Int), iA (0 : Int)], 62, 0⟩, ⟨.mx [.os 4 0 r1.pages.length], 58, 0⟩, ⟨.tr (eL r1.pages), 25, 1⟩]) (fun x => loopM (β := Unit ⊕ (I_Heap × I_Rid × Bool)) (fun s : Int => m_S_insert_b1 N p_h p_data r1 s) x.1 x.2 = some o14) (fun x => x.1) (N, (0 : Int)) [some 0, some 1, some 2, some 4, some 3] ⟨rfl, rfl, ⟨⟨_, rfl, rfl, rfl, .mx ⟨.t _, trivial⟩⟩, ⟨_, rfl, rfl, rfl, .mx ⟨.t _, trivial⟩⟩, ⟨_, rfl, rfl, rfl, .mx ⟨.t _, .t _, trivial⟩⟩, ⟨_, rfl, rfl, rfl, .mx ⟨.os rfl, trivial⟩⟩, ⟨_, rfl, rfl, rfl, .tr _⟩, trivial⟩, ⟨.t _, .op rfl, .op rfl, .op rfl, .op rfl, .t _, trivial⟩⟩ h_15 ?_
    rintro ⟨f16_, at3⟩ h_18
    obtain ⟨f16, y17, rfl, hh1, kk1⟩ := loopM_some h_18
    replace hh1 : m_S_insert_b1 N p_h p_data r1 at3 = some y17 := hh1
    unfold m_S_insert_b1 at hh1
    refine PC.seq ?_
    refine PC.seq ?_
    refine PC.region ?_
    refine PL.op rfl (Rd.moveT rfl) ?_
    refine PL.op rfl (Rd.fieldO rfl rfl) ?_
    refine PL.op rfl (Rd.loadO rfl rfl rfl) ?_
    refine PL.op rfl (Rd.lenT rfl) ?_
    refine PL.op rfl (Rd.lss rfl rfl) ?_
    refine PL.nil ?_
    refine thA_n ?_
    rcases cond_some hh1 with ⟨h_25, hh1⟩ | ⟨h_25, hh1⟩
    rotate_left
    · refine PC.cond_false rfl h_25 ?_
      refine PC.exit ?_
      refine thA_e ?_
      refine thA_e ?_
      refine inA_eq rfl ?_
      refine thA_n ?_
      obtain rfl := some_in hh1
      obtain rfl : (.inl () : Unit ⊕ (I_Heap × I_Rid × Bool)) = o14 := kk1
      exact ⟨(), hh0, [some 0, some 1, some 2, some 3, some 4], ⟨rfl, rfl, ⟨⟨_, rfl, rfl, rfl, .mx ⟨.t _, trivial⟩⟩, ⟨_, rfl, rfl, rfl, .mx ⟨.t _, trivial⟩⟩, ⟨_, rfl, rfl, rfl, .mx ⟨.t _, .t _, trivial⟩⟩, ⟨_, rfl, rfl, rfl, .mx ⟨.os rfl, trivial⟩⟩, ⟨_, rfl, rfl, rfl, .tr _⟩, trivial⟩, ⟨.t _, .op rfl, .op rfl, .op rfl, .op rfl, trivial⟩⟩⟩
    refine PC.cond_true rfl h_25 ?_
    refine PC.skip ?_
    refine thA_n ?_
    refine PC.seq ?_
    refine PC.block ?_
    refine PC.seq ?_
    obtain ⟨x26, h_27, hh1⟩ := bind_some hh1
    obtain ⟨r28, h_29, hh1⟩ := bind_some hh1
    refine PC.region ?_
    refine PL.op rfl (Rd.fieldO rfl rfl) ?_
    refine PL.op rfl (Rd.loadO rfl rfl rfl) ?_
    refine PL.op rfl (Rd.moveT rfl) ?_
    refine PL.op rfl (Rd.ixM rfl rfl h_27) ?_
    refine PL.op rfl (Rd.elMR rfl h_27 rfl rfl) ?_
    refine PL.op rfl (Rd.moveT rfl) ?_
    refine PL.callM false [] (w_S_PutSlot N x26 p_data r28 h_29) rfl Try.call24 rfl ⟨.aggL ⟨.t _, trivial⟩, .t _, trivial⟩ rfl trivial (fun h => by cases h) ?_
    refine PL.nm (.tup [.agg [.os 5 0 r28.1.slots.length], iA r28.2.1, bA r28.2.2]) [some ⟨.mx [sL p_h.pages], 58, 0⟩, some ⟨.mx [.t (.v (.slice none 0 0))], 58, 0⟩, some ⟨.mx [iA (0 : Int), iA (0 : Int)], 62, 0⟩, some ⟨.mx [.os 4 0 r1.pages.length], 58, 0⟩, some ⟨.tr (eL r1.pages), 25, 1⟩, some ⟨.tr (eL r28.1.slots), 35, 2⟩] rfl rfl ?_
    refine PL.op rfl (Rd.moveU rfl) ?_
    refine PL.op rfl (Rd.extract rfl rfl) ?_
    refine PL.op rfl (Rd.extract rfl rfl) ?_
    refine PL.op rfl (Rd.extract rfl rfl) ?_
    refine PL.ef rfl (Ef.alloc rfl rfl) ?_
    refine PL.nm (.op 6 0) [some ⟨.mx [sL p_h.pages], 58, 0⟩, some ⟨.mx [.t (.v (.slice none 0 0))], 58, 0⟩, some ⟨.mx [iA (0 : Int), iA (0 : Int)], 62, 0⟩, some ⟨.mx [.os 4 0 r1.pages.length], 58, 0⟩, some ⟨.tr (eL r1.pages), 25, 1⟩, some ⟨.tr (eL r28.1.slots), 35, 2⟩, some ⟨.mx [.t (.v (.slice none 0 0))], 25, 0⟩] rfl rfl ?_
    refine PL.store rfl rfl rfl rfl rfl rfl rfl ?_
    refine PL.nO [some ⟨.mx [sL p_h.pages], 58, 0⟩, some ⟨.mx [.t (.v (.slice none 0 0))], 58, 0⟩, some ⟨.mx [iA (0 : Int), iA (0 : Int)], 62, 0⟩, some ⟨.mx [.os 4 0 r1.pages.length], 58, 0⟩, some ⟨.tr (eL r1.pages), 25, 1⟩, some ⟨.tr (eL r28.1.slots), 35, 2⟩, some ⟨.mx [.os 5 0 r28.1.slots.length], 25, 0⟩] rfl ?_
    refine PL.op rfl (Rd.asnT rfl) ?_
    refine PL.op rfl (Rd.asnT rfl) ?_
    refine PL.nil ?_
    refine thA_n ?_
    refine PC.seq ?_
    refine PC.region ?_
    refine PL.op rfl (Rd.moveT rfl) ?_
    refine PL.nil ?_
    refine thA_n ?_
    rcases cond_some hh1 with ⟨h_30, hh1⟩ | ⟨h_30, hh1⟩
    rotate_left
    · refine PC.cond_false rfl h_30 ?_
      refine PC.skip ?_
      refine inA_n ?_
      refine thA_n ?_
      obtain ⟨n33, h_34, hh1⟩ := bind_some hh1
      refine PC.region ?_
      refine PL.op rfl (Rd.moveT rfl) ?_
      refine PL.op rfl (Rd.addM rfl rfl h_34) ?_
      refine PL.op rfl (Rd.asnT rfl) ?_
      refine PL.nil ?_
      obtain rfl := some_in hh1
      refine thA_n ?_
      exact ⟨(f16, n33), Nat.lt_succ_self _, kk1, [some 0, some 1, some 2, some 3, some 4], ⟨rfl, rfl, ⟨⟨_, rfl, rfl, rfl, .mx ⟨.t _, trivial⟩⟩, ⟨_, rfl, rfl, rfl, .mx ⟨.t _, trivial⟩⟩, ⟨_, rfl, rfl, rfl, .mx ⟨.t _, .t _, trivial⟩⟩, ⟨_, rfl, rfl, rfl, .mx ⟨.os rfl, trivial⟩⟩, ⟨_, rfl, rfl, rfl, .tr _⟩, trivial⟩, ⟨.t _, .op rfl, .op rfl, .op rfl, .op rfl, .t _, trivial⟩⟩⟩
    refine PC.cond_true rfl h_30 ?_
    refine PC.seq ?_
    obtain ⟨x31, h_32, hh1⟩ := bind_some hh1
    refine PC.region ?_
    refine PL.op rfl (Rd.fieldO rfl rfl) ?_
    refine PL.op rfl (Rd.loadO rfl rfl rfl) ?_
    refine PL.op rfl (Rd.moveT rfl) ?_
    refine PL.op rfl (Rd.loadBox rfl rfl rfl) ?_
    refine PL.op rfl (Rd.ixOM rfl rfl rfl (ixI_lt h_32)) ?_
    refine PL.frz hs 5 7 [(32, .tup [.agg [sL r28.1.slots], iA r28.2.1, bA r28.2.2]), (25, .tup [.agg [sL r28.1.slots], iA r28.2.1, bA r28.2.2]), (33, .agg [sL r28.1.slots]), (40, .agg [sL r28.1.slots])] [some ⟨.mx [sL p_h.pages], 58, 0⟩, some ⟨.mx [.t (.v (.slice none 0 0))], 58, 0⟩, some ⟨.mx [iA (0 : Int), iA (0 : Int)], 62, 0⟩, some ⟨.mx [.os 4 0 r1.pages.length], 58, 0⟩, some ⟨.tr (eL r1.pages), 25, 1⟩, none, some ⟨.mx [sL r28.1.slots], 25, 0⟩] rfl rfl ⟨(.tupL ⟨(.aggL ⟨(.own rfl (by decide) rfl rfl), trivial⟩), (.t _), (.t _), trivial⟩), (.tupL ⟨(.aggL ⟨(.own rfl (by decide) rfl rfl), trivial⟩), (.t _), (.t _), trivial⟩), (.aggL ⟨(.own rfl (by decide) rfl rfl), trivial⟩), (.aggL ⟨(.own rfl (by decide) rfl rfl), trivial⟩), trivial⟩ ⟨⟨rfl, .inl rfl⟩, ⟨rfl, .inl rfl⟩, ⟨rfl, .inl rfl⟩, ⟨rfl, .inl rfl⟩, ⟨rfl, .inl rfl⟩, ⟨rfl, .inr ⟨_, rfl, rfl, rfl, .mx ⟨(.own rfl (by decide) rfl rfl), trivial⟩⟩⟩, trivial⟩ ?_
    refine PL.stRM r28.1 rfl rfl rfl rfl rfl h_32 rfl ?_
    refine PL.nO [some ⟨.mx [sL p_h.pages], 58, 0⟩, some ⟨.mx [.t (.v (.slice none 0 0))], 58, 0⟩, some ⟨.mx [iA (0 : Int), iA (0 : Int)], 62, 0⟩, some ⟨.mx [.os 4 0 r1.pages.length], 58, 0⟩, some ⟨.tr (eL (r1.pages.set at3.toNat r28.1)), 25, 1⟩, none, some ⟨.mx [sL r28.1.slots], 25, 0⟩] rfl ?_
    refine PL.nil ?_
    refine thA_n ?_
    refine PC.seq ?_
    refine PC.region ?_
    refine PL.op rfl (Rd.loadBox rfl rfl rfl) ?_
    refine PL.op rfl (Rd.moveT rfl) ?_
    refine PL.op rfl (Rd.moveT rfl) ?_
    refine PL.op rfl (Rd.build rfl rfl rfl rfl) ?_
    refine PL.store rfl rfl rfl rfl rfl rfl rfl ?_
    refine PL.nO [some ⟨.mx [sL p_h.pages], 58, 0⟩, some ⟨.mx [.os 4 0 r1.pages.length], 58, 0⟩, some ⟨.mx [iA (0 : Int), iA (0 : Int)], 62, 0⟩, some ⟨.mx [.os 4 0 r1.pages.length], 58, 0⟩, some ⟨.tr (eL (r1.pages.set at3.toNat r28.1)), 25, 1⟩, none, some ⟨.mx [sL r28.1.slots], 25, 0⟩] rfl ?_
    refine PL.store rfl rfl rfl rfl rfl rfl rfl ?_
    refine PL.nO [some ⟨.mx [sL p_h.pages], 58, 0⟩, some ⟨.mx [.os 4 0 r1.pages.length], 58, 0⟩, some ⟨.mx [iA at3, iA r28.2.1], 62, 0⟩, some ⟨.mx [.os 4 0 r1.pages.length], 58, 0⟩, some ⟨.tr (eL (r1.pages.set at3.toNat r28.1)), 25, 1⟩, none, some ⟨.mx [sL r28.1.slots], 25, 0⟩] rfl ?_
    refine PL.op rfl (Rd.asnT rfl) ?_
    refine PL.nil ?_
    refine thA_n ?_
    refine PC.ret ?_
    refine inA_r ?_
    refine thA_r ?_
    refine thA_r ?_
    refine inA_r ?_
    refine thA_r ?_
    obtain rfl := some_in hh1
    obtain rfl : (.inr ((I_Heap.mk (r1.pages.set at3.toNat r28.1)), (I_Rid.mk at3 r28.2.1), true) : Unit ⊕ (I_Heap × I_Rid × Bool)) = o14 := kk1
    refine thA_r ?_
    obtain rfl := some_in hh0
    exact FinA.mk (r := .tup [.agg [.os 0 0 ((((I_Heap.mk (r1.pages.set at3.toNat r28.1)), (I_Rid.mk at3 r28.2.1), true).1.pages).length)], .agg [iA (((I_Heap.mk (r1.pages.set at3.toNat r28.1)), (I_Rid.mk at3 r28.2.1), true).2.1.page), iA (((I_Heap.mk (r1.pages.set at3.toNat r28.1)), (I_Rid.mk at3 r28.2.1), true).2.1.slot)], bA (((I_Heap.mk (r1.pages.set at3.toNat r28.1)), (I_Rid.mk at3 r28.2.1), true).2.2)]) (bl := [⟨.tr (eL (((I_Heap.mk (r1.pages.set at3.toNat r28.1)), (I_Rid.mk at3 r28.2.1), true).1.pages)), 25, 1⟩]) [some 4] (.inl rfl) rfl (rl := [.cell 4 58, .cell 5 62, .tmp 6]) (.cellN rfl rfl rfl rfl (.cellN rfl rfl rfl rfl (.tmp .nil))) rfl rfl rfl (.tupL ⟨.aggL ⟨.osE rfl (by simp only [List.length_set]), trivial⟩, .aggL ⟨.t _, .t _, trivial⟩, .t _, trivial⟩) ⟨⟨_, rfl, rfl, rfl, .tr _⟩, trivial⟩ ⟨rfl, rfl⟩
  clear hh0
  rintro ⟨⟩ hh0
  replace hh0 : m_S_insert_k1 N p_h p_data r1  = some r := hh0
  unfold m_S_insert_k1 at hh0
  refine thA_n ?_
  refine PC.seq ?_
  obtain ⟨r19, h_20, hh0⟩ := bind_some hh0
  refine PC.region ?_
  refine PL.op rfl (Rd.build rfl rfl rfl rfl) ?_
  refine PL.op rfl (Rd.moveT rfl) ?_
  refine PL.callM false [] (w_S_PutSlot N (I_Page.mk ([] : List I_Slot)) p_data r19 h_20) rfl Try.call24 rfl ⟨.aggL ⟨Sb.nilE, trivial⟩, .t _, trivial⟩ rfl trivial (fun h => by cases h) ?_
  refine PL.nm (.tup [.agg [.os 5 0 r19.1.slots.length], iA r19.2.1, bA r19.2.2]) [some ⟨.mx [sL p_h.pages], 58, 0⟩, some ⟨.mx [.t (.v (.slice none 0 0))], 58, 0⟩, some ⟨.mx [iA (0 : Int), iA (0 : Int)], 62, 0⟩, some ⟨.mx [.os 4 0 r1.pages.length], 58, 0⟩, some ⟨.tr (eL r1.pages), 25, 1⟩, some ⟨.tr (eL r19.1.slots), 35, 2⟩] rfl rfl ?_
  refine PL.op rfl (Rd.moveU rfl) ?_
  refine PL.op rfl (Rd.extract rfl rfl) ?_
  refine PL.op rfl (Rd.extract rfl rfl) ?_
  refine PL.op rfl (Rd.extract rfl rfl) ?_
  refine PL.ef rfl (Ef.alloc rfl rfl) ?_
  refine PL.nm (.op 6 0) [some ⟨.mx [sL p_h.pages], 58, 0⟩, some ⟨.mx [.t (.v (.slice none 0 0))], 58, 0⟩, some ⟨.mx [iA (0 : Int), iA (0 : Int)], 62, 0⟩, some ⟨.mx [.os 4 0 r1.pages.length], 58, 0⟩, some ⟨.tr (eL r1.pages), 25, 1⟩, some ⟨.tr (eL r19.1.slots), 35, 2⟩, some ⟨.mx [.t (.v (.slice none 0 0))], 25, 0⟩] rfl rfl ?_
  refine PL.store rfl rfl rfl rfl rfl rfl rfl ?_
  refine PL.nO [some ⟨.mx [sL p_h.pages], 58, 0⟩, some ⟨.mx [.t (.v (.slice none 0 0))], 58, 0⟩, some ⟨.mx [iA (0 : Int), iA (0 : Int)], 62, 0⟩, some ⟨.mx [.os 4 0 r1.pages.length], 58, 0⟩, some ⟨.tr (eL r1.pages), 25, 1⟩, some ⟨.tr (eL r19.1.slots), 35, 2⟩, some ⟨.mx [.os 5 0 r19.1.slots.length], 25, 0⟩] rfl ?_
  refine PL.op rfl (Rd.asnT rfl) ?_
  refine PL.op rfl (Rd.asnT rfl) ?_
  refine PL.nil ?_
  refine thA_n ?_
  refine PC.seq ?_
  refine PC.seq ?_
  rcases cond_some hh0 with ⟨h_21, hh0⟩ | ⟨h_21, hh0⟩
  rotate_left
  · refine PC.region ?_
    refine PL.op rfl (Rd.moveT rfl) ?_
    refine PL.op rfl (Rd.unnot rfl) ?_
    refine PL.op rfl (Rd.moveT rfl) ?_
    refine PL.guard_off rfl rfl (not_f h_21) ?_
    refine PL.guard_off rfl rfl (not_f h_21) ?_
    refine PL.guard_off rfl rfl (not_f h_21) ?_
    refine PL.guard_off rfl rfl (not_f h_21) ?_
    refine PL.op rfl (Rd.pick_t rfl (not_f h_21)) ?_
    refine PL.nil ?_
    refine thA_n ?_
    refine PC.cond_true rfl rfl ?_
    refine PC.seq ?_
    refine PC.region ?_
    refine PL.op rfl (Rd.build rfl rfl rfl rfl) ?_
    refine PL.op rfl (Rd.build rfl rfl rfl rfl) ?_
    refine PL.store rfl rfl rfl rfl rfl rfl rfl ?_
    refine PL.store rfl rfl rfl rfl rfl rfl rfl ?_
    refine PL.op rfl (Rd.asnT rfl) ?_
    refine PL.nil ?_
    refine thA_n ?_
    refine PC.ret ?_
    refine thA_r ?_
    obtain rfl := some_in hh0
    exact FinA.mk (r := .tup [.agg [.os 0 0 ((((I_Heap.mk ([] : List I_Page)), (I_Rid.mk (0 : Int) (0 : Int)), false).1.pages).length)], .agg [iA (((I_Heap.mk ([] : List I_Page)), (I_Rid.mk (0 : Int) (0 : Int)), false).2.1.page), iA (((I_Heap.mk ([] : List I_Page)), (I_Rid.mk (0 : Int) (0 : Int)), false).2.1.slot)], bA (((I_Heap.mk ([] : List I_Page)), (I_Rid.mk (0 : Int) (0 : Int)), false).2.2)]) (bl := [⟨.tr (eL (((I_Heap.mk ([] : List I_Page)), (I_Rid.mk (0 : Int) (0 : Int)), false).1.pages)), 25, 1⟩]) [none] (.inl rfl) rfl (rl := [.cell 4 58, .cell 5 62, .tmp 6]) (.cellN rfl rfl rfl rfl (.cellN rfl rfl rfl rfl (.tmp .nil))) rfl rfl rfl (.tupL ⟨.aggL ⟨.osn rfl, trivial⟩, .aggL ⟨.t _, .t _, trivial⟩, .t _, trivial⟩) ⟨ow_nil _, trivial⟩ ⟨rfl, rfl⟩
  refine PC.region ?_
  refine PL.op rfl (Rd.moveT rfl) ?_
  refine PL.op rfl (Rd.unnot rfl) ?_
  refine PL.op rfl (Rd.moveT rfl) ?_
  refine PL.guard_on rfl (not_t h_21) ?_
  refine PL.op rfl (Rd.fieldO rfl rfl) ?_
  refine PL.guard_on rfl (not_t h_21) ?_
  refine PL.op rfl (Rd.loadO rfl rfl rfl) ?_
  refine PL.guard_on rfl (not_t h_21) ?_
  refine PL.op rfl (Rd.lenT rfl) ?_
  refine PL.guard_on rfl (not_t h_21) ?_
  refine PL.op rfl (Rd.eql rfl rfl) ?_
  refine PL.op rfl (Rd.pick_f rfl (not_t h_21)) ?_
  refine PL.nil ?_
  refine thA_n ?_
  rcases cond_some hh0 with ⟨h_22, hh0⟩ | ⟨h_22, hh0⟩
  · refine PC.cond_true rfl h_22 ?_
    refine PC.seq ?_
    refine PC.region ?_
    refine PL.op rfl (Rd.build rfl rfl rfl rfl) ?_
    refine PL.op rfl (Rd.build rfl rfl rfl rfl) ?_
    refine PL.store rfl rfl rfl rfl rfl rfl rfl ?_
    refine PL.store rfl rfl rfl rfl rfl rfl rfl ?_
    refine PL.op rfl (Rd.asnT rfl) ?_
    refine PL.nil ?_
    refine thA_n ?_
    refine PC.ret ?_
    refine thA_r ?_
    obtain rfl := some_in hh0
    exact FinA.mk (r := .tup [.agg [.os 0 0 ((((I_Heap.mk ([] : List I_Page)), (I_Rid.mk (0 : Int) (0 : Int)), false).1.pages).length)], .agg [iA (((I_Heap.mk ([] : List I_Page)), (I_Rid.mk (0 : Int) (0 : Int)), false).2.1.page), iA (((I_Heap.mk ([] : List I_Page)), (I_Rid.mk (0 : Int) (0 : Int)), false).2.1.slot)], bA (((I_Heap.mk ([] : List I_Page)), (I_Rid.mk (0 : Int) (0 : Int)), false).2.2)]) (bl := [⟨.tr (eL (((I_Heap.mk ([] : List I_Page)), (I_Rid.mk (0 : Int) (0 : Int)), false).1.pages)), 25, 1⟩]) [none] (.inl rfl) rfl (rl := [.cell 4 58, .cell 5 62, .tmp 6]) (.cellN rfl rfl rfl rfl (.cellN rfl rfl rfl rfl (.tmp .nil))) rfl rfl rfl (.tupL ⟨.aggL ⟨.osn rfl, trivial⟩, .aggL ⟨.t _, .t _, trivial⟩, .t _, trivial⟩) ⟨ow_nil _, trivial⟩ ⟨rfl, rfl⟩
  refine PC.cond_false rfl h_22 ?_
  refine PC.skip ?_
  refine thA_n ?_
  refine PC.seq ?_
  obtain ⟨xs23, h_24, hh0⟩ := bind_some hh0
  refine PC.region ?_
  refine PL.op rfl (Rd.fieldO rfl rfl) ?_
  refine PL.op rfl (Rd.loadO rfl rfl rfl) ?_
  refine PL.op rfl (Rd.loadBox rfl rfl rfl) ?_
  refine PL.frz hs 5 7 [(49, .tup [.agg [sL r19.1.slots], iA r19.2.1, bA r19.2.2]), (46, .tup [.agg [sL r19.1.slots], iA r19.2.1, bA r19.2.2]), (50, .agg [sL r19.1.slots]), (65, .agg [sL r19.1.slots])] [some ⟨.mx [sL p_h.pages], 58, 0⟩, some ⟨.mx [.t (.v (.slice none 0 0))], 58, 0⟩, some ⟨.mx [iA (0 : Int), iA (0 : Int)], 62, 0⟩, some ⟨.mx [.os 4 0 r1.pages.length], 58, 0⟩, some ⟨.tr (eL r1.pages), 25, 1⟩, none, some ⟨.mx [sL r19.1.slots], 25, 0⟩] rfl rfl ⟨(.tupL ⟨(.aggL ⟨(.own rfl (by decide) rfl rfl), trivial⟩), (.t _), (.t _), trivial⟩), (.tupL ⟨(.aggL ⟨(.own rfl (by decide) rfl rfl), trivial⟩), (.t _), (.t _), trivial⟩), (.aggL ⟨(.own rfl (by decide) rfl rfl), trivial⟩), (.aggL ⟨(.own rfl (by decide) rfl rfl), trivial⟩), trivial⟩ ⟨⟨rfl, .inl rfl⟩, ⟨rfl, .inl rfl⟩, ⟨rfl, .inl rfl⟩, ⟨rfl, .inl rfl⟩, ⟨rfl, .inl rfl⟩, ⟨rfl, .inr ⟨_, rfl, rfl, rfl, .mx ⟨(.own rfl (by decide) rfl rfl), trivial⟩⟩⟩, trivial⟩ ?_
  refine PL.ef rfl (Ef.litM (α := I_Page) [r19.1] [_] rfl rfl (by decide) rfl rfl rfl rfl) ?_
  refine PL.nm (.os 7 0 1) [some ⟨.mx [sL p_h.pages], 58, 0⟩, some ⟨.mx [.t (.v (.slice none 0 0))], 58, 0⟩, some ⟨.mx [iA (0 : Int), iA (0 : Int)], 62, 0⟩, some ⟨.mx [.os 4 0 r1.pages.length], 58, 0⟩, some ⟨.tr (eL r1.pages), 25, 1⟩, none, some ⟨.mx [sL r19.1.slots], 25, 0⟩, some ⟨.tr (eL [r19.1]), 25, 1⟩] rfl rfl ?_
  refine PL.apM hs rfl rfl rfl rfl (SrcA.ownE rfl rfl rfl) rfl rfl rfl rfl h_24 ?_
  refine PL.nm (.os 8 0 xs23.length) [some ⟨.mx [sL p_h.pages], 58, 0⟩, some ⟨.mx [.t (.v (.slice none 0 0))], 58, 0⟩, some ⟨.mx [iA (0 : Int), iA (0 : Int)], 62, 0⟩, some ⟨.mx [.os 4 0 r1.pages.length], 58, 0⟩, none, none, some ⟨.mx [sL r19.1.slots], 25, 0⟩, some ⟨.tr (eL [r19.1]), 25, 1⟩, some ⟨.tr (eL xs23), 25, 1⟩] rfl rfl ?_
  refine PL.op rfl (Rd.asnO rfl) ?_
  refine PL.nil ?_
  refine thA_n ?_
  refine PC.seq ?_
  refine PC.any (id := 13) 10 (.seg [0, 1, 2, 3, 4, 5, 6, 7, 8, 9] .done) [1, 2] rfl (by kernel_rfl) rfl ?_
  refine PT.seg ?_
  refine PR.op rfl (Rd.moveO rfl) ?_
  refine PR.op rfl (Rd.build rfl rfl rfl rfl) ?_
  refine PR.op rfl (Rd.fieldO rfl rfl) ?_
  refine PR.op rfl (Rd.loadO rfl rfl rfl) ?_
  refine PR.op rfl (Rd.lenT rfl) ?_
  refine PR.op rfl (Rd.moveT rfl) ?_
  refine PR.op rfl (Rd.build rfl rfl rfl rfl) ?_
  refine PR.store rfl rfl rfl rfl rfl rfl rfl rfl ?_
  refine PR.nO [some ⟨.mx [sL p_h.pages], 58, 0⟩, some ⟨.mx [.os 8 0 xs23.length], 58, 0⟩, some ⟨.mx [iA (0 : Int), iA (0 : Int)], 62, 0⟩, some ⟨.mx [.os 4 0 r1.pages.length], 58, 0⟩, none, none, some ⟨.mx [sL r19.1.slots], 25, 0⟩, some ⟨.tr (eL [r19.1]), 25, 1⟩, some ⟨.tr (eL xs23), 25, 1⟩] rfl ?_
  refine PR.store rfl rfl rfl rfl rfl rfl rfl rfl ?_
  refine PR.nO [some ⟨.mx [sL p_h.pages], 58, 0⟩, some ⟨.mx [.os 8 0 xs23.length], 58, 0⟩, some ⟨.mx [iA (p_h.pages.length : Int), iA r19.2.1], 62, 0⟩, some ⟨.mx [.os 4 0 r1.pages.length], 58, 0⟩, none, none, some ⟨.mx [sL r19.1.slots], 25, 0⟩, some ⟨.tr (eL [r19.1]), 25, 1⟩, some ⟨.tr (eL xs23), 25, 1⟩] rfl ?_
  refine PR.op rfl (Rd.asnT rfl) ?_
  refine PR.nil ?_
  refine PT.done ?_
  refine PL.nil ?_
  refine thA_n ?_
  refine PC.ret ?_
  obtain rfl := some_in hh0
  exact FinA.mk (r := .tup [.agg [.os 0 0 ((((I_Heap.mk xs23), (I_Rid.mk (p_h.pages.length : Int) r19.2.1), true).1.pages).length)], .agg [iA (((I_Heap.mk xs23), (I_Rid.mk (p_h.pages.length : Int) r19.2.1), true).2.1.page), iA (((I_Heap.mk xs23), (I_Rid.mk (p_h.pages.length : Int) r19.2.1), true).2.1.slot)], bA (((I_Heap.mk xs23), (I_Rid.mk (p_h.pages.length : Int) r19.2.1), true).2.2)]) (bl := [⟨.tr (eL (((I_Heap.mk xs23), (I_Rid.mk (p_h.pages.length : Int) r19.2.1), true).1.pages)), 25, 1⟩]) [some 8] (.inl rfl) rfl (rl := [.cell 4 58, .cell 5 62, .tmp 6]) (.cellN rfl rfl rfl rfl (.cellN rfl rfl rfl rfl (.tmp .nil))) rfl rfl rfl (.tupL ⟨.aggL ⟨.os rfl, trivial⟩, .aggL ⟨.t _, .t _, trivial⟩, .t _, trivial⟩) ⟨⟨_, rfl, rfl, rfl, .tr _⟩, trivial⟩ ⟨rfl, rfl⟩

def m_S_HeapInsert (N : Nat) (p_h : I_Heap) (p_data : ByteArray) : Option (I_Heap × I_Rid × Bool) :=
  (m_S_validHeap N p_h).bind fun r1 =>
  cond r1
    ((m_S_insert N p_h p_data).bind fun r4 =>
    some (r4.1, r4.2.1, r4.2.2))
    (some ((I_Heap.mk ([] : List I_Page)), (I_Rid.mk (0 : Int) (0 : Int)), false))
theorem w_S_HeapInsert (N : Nat) (p_h : I_Heap) (p_data : ByteArray) (r : I_Heap × I_Rid × Bool) (hh0 : m_S_HeapInsert N p_h p_data = some r) : FnX Try.prog 41 [] [.agg [sL p_h.pages], sA p_data] (RE (.tup [.agg [.os 0 0 r.1.pages.length], .agg [iA r.2.1.page, iA r.2.1.slot], bA r.2.2]) [⟨.tr (eL r.1.pages), 25, 1⟩]) := by
  unfold m_S_HeapInsert at hh0
  refine FnX.mk Try.func41 rfl rfl ?_
  intro s hs
  refine PC.seq ?_
  refine PC.region ?_
  refine PL.ef rfl (Ef.box rfl rfl rfl) ?_
  refine PL.nm (.op 0 0) [some ⟨.mx [sL p_h.pages], 58, 0⟩] rfl rfl ?_
  refine PL.ef rfl (Ef.alloc rfl rfl) ?_
  refine PL.nm (.op 1 0) [some ⟨.mx [sL p_h.pages], 58, 0⟩, some ⟨.mx [.t (.v (.slice none 0 0))], 58, 0⟩] rfl rfl ?_
  refine PL.ef rfl (Ef.alloc rfl rfl) ?_
  refine PL.nm (.op 2 0) [some ⟨.mx [sL p_h.pages], 58, 0⟩, some ⟨.mx [.t (.v (.slice none 0 0))], 58, 0⟩, some ⟨.mx [iA (0 : Int), iA (0 : Int)], 62, 0⟩] rfl rfl ?_
  refine PL.op rfl (Rd.asnT rfl) ?_
  refine PL.nil ?_
  refine thA_n ?_
  refine PC.seq ?_
  refine PC.seq ?_
  obtain ⟨r1, h_2, hh0⟩ := bind_some hh0
  refine PC.region ?_
  refine PL.op rfl (Rd.loadBox rfl rfl rfl) ?_
  refine PL.callM false [] (w_S_validHeap N p_h r1 h_2) rfl Try.call80 rfl ⟨.aggL ⟨.t _, trivial⟩, trivial⟩ rfl trivial (fun h => by cases h) ?_
  refine PL.op rfl (Rd.unnot rfl) ?_
  refine PL.nil ?_
  refine thA_n ?_
  rcases cond_some hh0 with ⟨h_3, hh0⟩ | ⟨h_3, hh0⟩
  rotate_left
  · refine PC.cond_true rfl (not_f h_3) ?_
    refine PC.seq ?_
    refine PC.region ?_
    refine PL.op rfl (Rd.build rfl rfl rfl rfl) ?_
    refine PL.op rfl (Rd.build rfl rfl rfl rfl) ?_
    refine PL.store rfl rfl rfl rfl rfl rfl rfl ?_
    refine PL.store rfl rfl rfl rfl rfl rfl rfl ?_
    refine PL.op rfl (Rd.asnT rfl) ?_
    refine PL.nil ?_
    refine thA_n ?_
    refine PC.ret ?_
    refine thA_r ?_
    obtain rfl := some_in hh0
    exact FinA.mk (r := .tup [.agg [.os 0 0 ((((I_Heap.mk ([] : List I_Page)), (I_Rid.mk (0 : Int) (0 : Int)), false).1.pages).length)], .agg [iA (((I_Heap.mk ([] : List I_Page)), (I_Rid.mk (0 : Int) (0 : Int)), false).2.1.page), iA (((I_Heap.mk ([] : List I_Page)), (I_Rid.mk (0 : Int) (0 : Int)), false).2.1.slot)], bA (((I_Heap.mk ([] : List I_Page)), (I_Rid.mk (0 : Int) (0 : Int)), false).2.2)]) (bl := [⟨.tr (eL (((I_Heap.mk ([] : List I_Page)), (I_Rid.mk (0 : Int) (0 : Int)), false).1.pages)), 25, 1⟩]) [none] (.inl rfl) rfl (rl := [.cell 4 58, .cell 5 62, .tmp 6]) (.cellN rfl rfl rfl rfl (.cellN rfl rfl rfl rfl (.tmp .nil))) rfl rfl rfl (.tupL ⟨.aggL ⟨.osn rfl, trivial⟩, .aggL ⟨.t _, .t _, trivial⟩, .t _, trivial⟩) ⟨ow_nil _, trivial⟩ ⟨rfl, rfl⟩
  refine PC.cond_false rfl (not_t h_3) ?_
  refine PC.skip ?_
  refine thA_n ?_
  refine PC.seq ?_
  obtain ⟨r4, h_5, hh0⟩ := bind_some hh0
  refine PC.region ?_
  refine PL.op rfl (Rd.loadBox rfl rfl rfl) ?_
  refine PL.op rfl (Rd.moveT rfl) ?_
  refine PL.callM false [] (w_S_insert N p_h p_data r4 h_5) rfl Try.call81 rfl ⟨.aggL ⟨.t _, trivial⟩, .t _, trivial⟩ rfl trivial (fun h => by cases h) ?_
  refine PL.nm (.tup [.agg [.os 3 0 r4.1.pages.length], .agg [iA r4.2.1.page, iA r4.2.1.slot], bA r4.2.2]) [some ⟨.mx [sL p_h.pages], 58, 0⟩, some ⟨.mx [.t (.v (.slice none 0 0))], 58, 0⟩, some ⟨.mx [iA (0 : Int), iA (0 : Int)], 62, 0⟩, some ⟨.tr (eL r4.1.pages), 25, 1⟩] rfl rfl ?_
  refine PL.op rfl (Rd.extract rfl rfl) ?_
  refine PL.op rfl (Rd.extract rfl rfl) ?_
  refine PL.op rfl (Rd.extract rfl rfl) ?_
  refine PL.store rfl rfl rfl rfl rfl rfl rfl ?_
  refine PL.nO [some ⟨.mx [sL p_h.pages], 58, 0⟩, some ⟨.mx [.os 3 0 r4.1.pages.length], 58, 0⟩, some ⟨.mx [iA (0 : Int), iA (0 : Int)], 62, 0⟩, some ⟨.tr (eL r4.1.pages), 25, 1⟩] rfl ?_
  refine PL.store rfl rfl rfl rfl rfl rfl rfl ?_
  refine PL.nO [some ⟨.mx [sL p_h.pages], 58, 0⟩, some ⟨.mx [.os 3 0 r4.1.pages.length], 58, 0⟩, some ⟨.mx [iA r4.2.1.page, iA r4.2.1.slot], 62, 0⟩, some ⟨.tr (eL r4.1.pages), 25, 1⟩] rfl ?_
  refine PL.op rfl (Rd.asnT rfl) ?_
  refine PL.nil ?_
  refine thA_n ?_
  refine PC.ret ?_
  obtain rfl := some_in hh0
  exact FinA.mk (r := .tup [.agg [.os 0 0 (((r4.1, r4.2.1, r4.2.2).1.pages).length)], .agg [iA ((r4.1, r4.2.1, r4.2.2).2.1.page), iA ((r4.1, r4.2.1, r4.2.2).2.1.slot)], bA ((r4.1, r4.2.1, r4.2.2).2.2)]) (bl := [⟨.tr (eL ((r4.1, r4.2.1, r4.2.2).1.pages)), 25, 1⟩]) [some 3] (.inl rfl) rfl (rl := [.cell 4 58, .cell 5 62, .tmp 6]) (.cellN rfl rfl rfl rfl (.cellN rfl rfl rfl rfl (.tmp .nil))) rfl rfl rfl (.tupL ⟨.aggL ⟨.os rfl, trivial⟩, .aggL ⟨.t _, .t _, trivial⟩, .t _, trivial⟩) ⟨⟨_, rfl, rfl, rfl, .tr _⟩, trivial⟩ ⟨rfl, rfl⟩

def m_S_HeapDelete (N : Nat) (p_h : I_Heap) (p_r : I_Rid) : Option (I_Heap × Bool) :=
  (m_S_validHeap N p_h).bind fun r1 =>
  cond r1
    ((chk ((p_h.pages.length : Int) - (1 : Int))).bind fun n4 =>
    (m_S_inRange N p_r.page (0 : Int) n4).bind fun r6 =>
    cond r6
      ((ixI p_h.pages p_r.page).bind fun x9 =>
      (m_S_ClearSlot N x9 p_r.slot).bind fun r11 =>
      cond r11.2
        ((m_S_copyHeap N p_h).bind fun r14 =>
        (ixI r14.pages p_r.page).bind fun x16 =>
        some ((I_Heap.mk (r14.pages.set p_r.page.toNat r11.1)), true))
        (some ((I_Heap.mk ([] : List I_Page)), false)))
      (some ((I_Heap.mk ([] : List I_Page)), false)))
    (some ((I_Heap.mk ([] : List I_Page)), false))
theorem w_S_HeapDelete (N : Nat) (p_h : I_Heap) (p_r : I_Rid) (r : I_Heap × Bool) (hh0 : m_S_HeapDelete N p_h p_r = some r) : FnX Try.prog 47 [] [.agg [sL p_h.pages], .agg [iA p_r.page, iA p_r.slot]] (RE (.tup [.agg [.os 0 0 r.1.pages.length], bA r.2]) [⟨.tr (eL r.1.pages), 25, 1⟩]) := by
  unfold m_S_HeapDelete at hh0
  refine FnX.mk Try.func47 rfl rfl ?_
  intro s hs
  refine PC.seq ?_
  refine PC.region ?_
  refine PL.ef rfl (Ef.box rfl rfl rfl) ?_
  refine PL.nm (.op 0 0) [some ⟨.mx [sL p_h.pages], 58, 0⟩] rfl rfl ?_
  refine PL.ef rfl (Ef.box rfl rfl rfl) ?_
  refine PL.nm (.op 1 0) [some ⟨.mx [sL p_h.pages], 58, 0⟩, some ⟨.mx [iA p_r.page, iA p_r.slot], 62, 0⟩] rfl rfl ?_
  refine PL.ef rfl (Ef.alloc rfl rfl) ?_
  refine PL.nm (.op 2 0) [some ⟨.mx [sL p_h.pages], 58, 0⟩, some ⟨.mx [iA p_r.page, iA p_r.slot], 62, 0⟩, some ⟨.mx [.t (.v (.slice none 0 0))], 58, 0⟩] rfl rfl ?_
  refine PL.op rfl (Rd.asnT rfl) ?_
  refine PL.nil ?_
  refine thA_n ?_
  refine PC.seq ?_
  refine PC.seq ?_
  obtain ⟨r1, h_2, hh0⟩ := bind_some hh0
  rcases cond_some hh0 with ⟨h_3, hh0⟩ | ⟨h_3, hh0⟩
  rotate_left
  · refine PC.region ?_
    refine PL.op rfl (Rd.loadBox rfl rfl rfl) ?_
    refine PL.callM false [] (w_S_validHeap N p_h r1 h_2) rfl Try.call80 rfl ⟨.aggL ⟨.t _, trivial⟩, trivial⟩ rfl trivial (fun h => by cases h) ?_
    refine PL.op rfl (Rd.unnot rfl) ?_
    refine PL.op rfl (Rd.moveT rfl) ?_
    refine PL.guard_off rfl rfl (not_f h_3) ?_
    refine PL.guard_off rfl rfl (not_f h_3) ?_
    refine PL.guard_off rfl rfl (not_f h_3) ?_
    refine PL.guard_off rfl rfl (not_f h_3) ?_
    refine PL.guard_off rfl rfl (not_f h_3) ?_
    refine PL.guard_off rfl rfl (not_f h_3) ?_
    refine PL.guard_off rfl rfl (not_f h_3) ?_
    refine PL.guard_off rfl rfl (not_f h_3) ?_
    refine PL.op rfl (Rd.pick_t rfl (not_f h_3)) ?_
    refine PL.nil ?_
    refine thA_n ?_
    refine PC.cond_true rfl rfl ?_
    refine PC.seq ?_
    refine PC.region ?_
    refine PL.op rfl (Rd.build rfl rfl rfl rfl) ?_
    refine PL.store rfl rfl rfl rfl rfl rfl rfl ?_
    refine PL.op rfl (Rd.asnT rfl) ?_
    refine PL.nil ?_
    refine thA_n ?_
    refine PC.ret ?_
    refine thA_r ?_
    obtain rfl := some_in hh0
    exact FinA.mk (r := .tup [.agg [.os 0 0 ((((I_Heap.mk ([] : List I_Page)), false).1.pages).length)], bA (((I_Heap.mk ([] : List I_Page)), false).2)]) (bl := [⟨.tr (eL (((I_Heap.mk ([] : List I_Page)), false).1.pages)), 25, 1⟩]) [none] (.inl rfl) rfl (rl := [.cell 4 58, .tmp 5]) (.cellN rfl rfl rfl rfl (.tmp .nil)) rfl rfl rfl (.tupL ⟨.aggL ⟨.osn rfl, trivial⟩, .t _, trivial⟩) ⟨ow_nil _, trivial⟩ ⟨rfl, rfl⟩
  obtain ⟨n4, h_5, hh0⟩ := bind_some hh0
  obtain ⟨r6, h_7, hh0⟩ := bind_some hh0
  refine PC.region ?_
  refine PL.op rfl (Rd.loadBox rfl rfl rfl) ?_
  refine PL.callM false [] (w_S_validHeap N p_h r1 h_2) rfl Try.call80 rfl ⟨.aggL ⟨.t _, trivial⟩, trivial⟩ rfl trivial (fun h => by cases h) ?_
  refine PL.op rfl (Rd.unnot rfl) ?_
  refine PL.op rfl (Rd.moveT rfl) ?_
  refine PL.guard_on rfl (not_t h_3) ?_
  refine PL.op rfl (Rd.fieldO rfl rfl) ?_
  refine PL.guard_on rfl (not_t h_3) ?_
  refine PL.op rfl (Rd.loadO rfl rfl rfl) ?_
  refine PL.guard_on rfl (not_t h_3) ?_
  refine PL.op rfl (Rd.fieldO rfl rfl) ?_
  refine PL.guard_on rfl (not_t h_3) ?_
  refine PL.op rfl (Rd.loadO rfl rfl rfl) ?_
  refine PL.guard_on rfl (not_t h_3) ?_
  refine PL.op rfl (Rd.lenT rfl) ?_
  refine PL.guard_on rfl (not_t h_3) ?_
  refine PL.op rfl (Rd.subM rfl rfl h_5) ?_
  refine PL.guard_on rfl (not_t h_3) ?_
  refine PL.callM false [] (w_S_inRange N p_r.page (0 : Int) n4 r6 h_7) rfl Try.call85 rfl ⟨.t _, .t _, .t _, trivial⟩ rfl trivial (fun h => by cases h) ?_
  refine PL.guard_on rfl (not_t h_3) ?_
  refine PL.op rfl (Rd.unnot rfl) ?_
  refine PL.op rfl (Rd.pick_f rfl (not_t h_3)) ?_
  refine PL.nil ?_
  refine thA_n ?_
  rcases cond_some hh0 with ⟨h_8, hh0⟩ | ⟨h_8, hh0⟩
  rotate_left
  · refine PC.cond_true rfl (not_f h_8) ?_
    refine PC.seq ?_
    refine PC.region ?_
    refine PL.op rfl (Rd.build rfl rfl rfl rfl) ?_
    refine PL.store rfl rfl rfl rfl rfl rfl rfl ?_
    refine PL.op rfl (Rd.asnT rfl) ?_
    refine PL.nil ?_
    refine thA_n ?_
    refine PC.ret ?_
    refine thA_r ?_
    obtain rfl := some_in hh0
    exact FinA.mk (r := .tup [.agg [.os 0 0 ((((I_Heap.mk ([] : List I_Page)), false).1.pages).length)], bA (((I_Heap.mk ([] : List I_Page)), false).2)]) (bl := [⟨.tr (eL (((I_Heap.mk ([] : List I_Page)), false).1.pages)), 25, 1⟩]) [none] (.inl rfl) rfl (rl := [.cell 4 58, .tmp 5]) (.cellN rfl rfl rfl rfl (.tmp .nil)) rfl rfl rfl (.tupL ⟨.aggL ⟨.osn rfl, trivial⟩, .t _, trivial⟩) ⟨ow_nil _, trivial⟩ ⟨rfl, rfl⟩
  refine PC.cond_false rfl (not_t h_8) ?_
  refine PC.skip ?_
  refine thA_n ?_
  obtain ⟨x9, h_10, hh0⟩ := bind_some hh0
  obtain ⟨r11, h_12, hh0⟩ := bind_some hh0
  refine PC.cut hs (fun _ : Unit => [(2, .op 0 0), (3, .op 1 0), (4, .op 2 0), (6, .op 3 0), (7, bA r11.2)]) (fun _ => [⟨.mx [sL p_h.pages], 58, 0⟩, ⟨.mx [iA p_r.page, iA p_r.slot], 62, 0⟩, ⟨.mx [.t (.v (.slice none 0 0))], 58, 0⟩, ⟨.mx [.os 4 0 r11.1.slots.length], 25, 0⟩, ⟨.tr (eL r11.1.slots), 35, 2⟩]) (fun _ => True) ?_ ?_
  · refine PC.any (id := 3) 15 (.seg [0, 1, 2, 3, 4, 5, 6, 7] (.fork (.seg [8, 9, 10, 11, 12, 13, 14] .done) (.seg [12, 8, 9, 10, 11, 13, 14] .done))) [] rfl (by kernel_rfl) rfl ?_
    refine PT.seg ?_
    refine PR.op rfl (Rd.fieldO rfl rfl) ?_
    refine PR.op rfl (Rd.loadO rfl rfl rfl) ?_
    refine PR.op rfl (Rd.fieldO rfl rfl) ?_
    refine PR.op rfl (Rd.loadO rfl rfl rfl) ?_
    refine PR.op rfl (Rd.ixM rfl rfl h_10) ?_
    refine PR.op rfl (Rd.elMR rfl h_10 rfl rfl) ?_
    refine PR.op rfl (Rd.fieldO rfl rfl) ?_
    refine PR.op rfl (Rd.loadO rfl rfl rfl) ?_
    refine PR.nil ?_
    refine PT.fork ?_ ?_
    · refine PT.seg ?_
      refine PR.callM false [] (w_S_ClearSlot N x9 p_r.slot r11 h_12) rfl Try.call33 rfl ⟨.aggL ⟨.t _, trivial⟩, .t _, trivial⟩ rfl trivial (fun h => by cases h) rfl ?_
      refine PR.nm (.tup [.agg [.os 3 0 r11.1.slots.length], bA r11.2]) [some ⟨.mx [sL p_h.pages], 58, 0⟩, some ⟨.mx [iA p_r.page, iA p_r.slot], 62, 0⟩, some ⟨.mx [.t (.v (.slice none 0 0))], 58, 0⟩, some ⟨.tr (eL r11.1.slots), 35, 2⟩] rfl rfl ?_
      refine PR.op rfl (Rd.moveU rfl) ?_
      refine PR.op rfl (Rd.extract rfl rfl) ?_
      refine PR.op rfl (Rd.extract rfl rfl) ?_
      refine PR.efX rfl rfl (Ef.alloc rfl rfl) ?_
      refine PR.nm (.op 4 0) [some ⟨.mx [sL p_h.pages], 58, 0⟩, some ⟨.mx [iA p_r.page, iA p_r.slot], 62, 0⟩, some ⟨.mx [.t (.v (.slice none 0 0))], 58, 0⟩, some ⟨.tr (eL r11.1.slots), 35, 2⟩, some ⟨.mx [.t (.v (.slice none 0 0))], 25, 0⟩] rfl rfl ?_
      refine PR.store rfl rfl rfl rfl rfl rfl rfl rfl ?_
      refine PR.nO [some ⟨.mx [sL p_h.pages], 58, 0⟩, some ⟨.mx [iA p_r.page, iA p_r.slot], 62, 0⟩, some ⟨.mx [.t (.v (.slice none 0 0))], 58, 0⟩, some ⟨.tr (eL r11.1.slots), 35, 2⟩, some ⟨.mx [.os 3 0 r11.1.slots.length], 25, 0⟩] rfl ?_
      refine PR.op rfl (Rd.asnT rfl) ?_
      refine PR.nil ?_
      refine PT.done ?_
      refine PL.nil ?_
      refine thA_n ?_
      exact ⟨(), trivial, [some 0, some 1, some 2, some 4, some 3], ⟨rfl, rfl, ⟨⟨_, rfl, rfl, rfl, .mx ⟨.t _, trivial⟩⟩, ⟨_, rfl, rfl, rfl, .mx ⟨.t _, .t _, trivial⟩⟩, ⟨_, rfl, rfl, rfl, .mx ⟨.t _, trivial⟩⟩, ⟨_, rfl, rfl, rfl, .mx ⟨.os rfl, trivial⟩⟩, ⟨_, rfl, rfl, rfl, .tr _⟩, trivial⟩, ⟨.op rfl, .op rfl, .op rfl, .op rfl, .t _, trivial⟩⟩⟩
    refine PT.seg ?_
    refine PR.efX rfl rfl (Ef.alloc rfl rfl) ?_
    refine PR.nm (.op 3 0) [some ⟨.mx [sL p_h.pages], 58, 0⟩, some ⟨.mx [iA p_r.page, iA p_r.slot], 62, 0⟩, some ⟨.mx [.t (.v (.slice none 0 0))], 58, 0⟩, some ⟨.mx [.t (.v (.slice none 0 0))], 25, 0⟩] rfl rfl ?_
    refine PR.callM false [] (w_S_ClearSlot N x9 p_r.slot r11 h_12) rfl Try.call33 rfl ⟨.aggL ⟨.t _, trivial⟩, .t _, trivial⟩ rfl trivial (fun h => by cases h) rfl ?_
    refine PR.nm (.tup [.agg [.os 4 0 r11.1.slots.length], bA r11.2]) [some ⟨.mx [sL p_h.pages], 58, 0⟩, some ⟨.mx [iA p_r.page, iA p_r.slot], 62, 0⟩, some ⟨.mx [.t (.v (.slice none 0 0))], 58, 0⟩, some ⟨.mx [.t (.v (.slice none 0 0))], 25, 0⟩, some ⟨.tr (eL r11.1.slots), 35, 2⟩] rfl rfl ?_
    refine PR.op rfl (Rd.moveU rfl) ?_
    refine PR.op rfl (Rd.extract rfl rfl) ?_
    refine PR.op rfl (Rd.extract rfl rfl) ?_
    refine PR.store rfl rfl rfl rfl rfl rfl rfl rfl ?_
    refine PR.nO [some ⟨.mx [sL p_h.pages], 58, 0⟩, some ⟨.mx [iA p_r.page, iA p_r.slot], 62, 0⟩, some ⟨.mx [.t (.v (.slice none 0 0))], 58, 0⟩, some ⟨.mx [.os 4 0 r11.1.slots.length], 25, 0⟩, some ⟨.tr (eL r11.1.slots), 35, 2⟩] rfl ?_
    refine PR.op rfl (Rd.asnT rfl) ?_
    refine PR.nil ?_
    refine PT.done ?_
    refine PL.nil ?_
    refine thA_n ?_
    exact ⟨(), trivial, [some 0, some 1, some 2, some 3, some 4], ⟨rfl, rfl, ⟨⟨_, rfl, rfl, rfl, .mx ⟨.t _, trivial⟩⟩, ⟨_, rfl, rfl, rfl, .mx ⟨.t _, .t _, trivial⟩⟩, ⟨_, rfl, rfl, rfl, .mx ⟨.t _, trivial⟩⟩, ⟨_, rfl, rfl, rfl, .mx ⟨.os rfl, trivial⟩⟩, ⟨_, rfl, rfl, rfl, .tr _⟩, trivial⟩, ⟨.op rfl, .op rfl, .op rfl, .op rfl, .t _, trivial⟩⟩⟩
  rintro ⟨⟩ -
  refine PC.seq ?_
  refine PC.seq ?_
  refine PC.region ?_
  refine PL.op rfl (Rd.moveT rfl) ?_
  refine PL.op rfl (Rd.unnot rfl) ?_
  refine PL.nil ?_
  refine thA_n ?_
  rcases cond_some hh0 with ⟨h_13, hh0⟩ | ⟨h_13, hh0⟩
  rotate_left
  · refine PC.cond_true rfl (not_f h_13) ?_
    refine PC.seq ?_
    refine PC.region ?_
    refine PL.op rfl (Rd.build rfl rfl rfl rfl) ?_
    refine PL.store rfl rfl rfl rfl rfl rfl rfl ?_
    refine PL.op rfl (Rd.asnT rfl) ?_
    refine PL.nil ?_
    refine thA_n ?_
    refine PC.ret ?_
    refine thA_r ?_
    obtain rfl := some_in hh0
    exact FinA.mk (r := .tup [.agg [.os 0 0 ((((I_Heap.mk ([] : List I_Page)), false).1.pages).length)], bA (((I_Heap.mk ([] : List I_Page)), false).2)]) (bl := [⟨.tr (eL (((I_Heap.mk ([] : List I_Page)), false).1.pages)), 25, 1⟩]) [none] (.inl rfl) rfl (rl := [.cell 4 58, .tmp 5]) (.cellN rfl rfl rfl rfl (.tmp .nil)) rfl rfl rfl (.tupL ⟨.aggL ⟨.osn rfl, trivial⟩, .t _, trivial⟩) ⟨ow_nil _, trivial⟩ ⟨rfl, rfl⟩
  refine PC.cond_false rfl (not_t h_13) ?_
  refine PC.skip ?_
  refine thA_n ?_
  refine PC.seq ?_
  obtain ⟨r14, h_15, hh0⟩ := bind_some hh0
  refine PC.region ?_
  refine PL.op rfl (Rd.loadBox rfl rfl rfl) ?_
  refine PL.callM false [] (w_S_copyHeap N p_h r14 h_15) rfl Try.call86 rfl ⟨.aggL ⟨.t _, trivial⟩, trivial⟩ rfl trivial (fun h => by cases h) ?_
  refine PL.nm (.agg [.os 5 0 r14.pages.length]) [some ⟨.mx [sL p_h.pages], 58, 0⟩, some ⟨.mx [iA p_r.page, iA p_r.slot], 62, 0⟩, some ⟨.mx [.t (.v (.slice none 0 0))], 58, 0⟩, some ⟨.mx [.os 4 0 r11.1.slots.length], 25, 0⟩, some ⟨.tr (eL r11.1.slots), 35, 2⟩, some ⟨.tr (eL r14.pages), 25, 1⟩] rfl rfl ?_
  refine PL.ef rfl (Ef.alloc rfl rfl) ?_
  refine PL.nm (.op 6 0) [some ⟨.mx [sL p_h.pages], 58, 0⟩, some ⟨.mx [iA p_r.page, iA p_r.slot], 62, 0⟩, some ⟨.mx [.t (.v (.slice none 0 0))], 58, 0⟩, some ⟨.mx [.os 4 0 r11.1.slots.length], 25, 0⟩, some ⟨.tr (eL r11.1.slots), 35, 2⟩, some ⟨.tr (eL r14.pages), 25, 1⟩, some ⟨.mx [.t (.v (.slice none 0 0))], 58, 0⟩] rfl rfl ?_
  refine PL.store rfl rfl rfl rfl rfl rfl rfl ?_
  refine PL.nO [some ⟨.mx [sL p_h.pages], 58, 0⟩, some ⟨.mx [iA p_r.page, iA p_r.slot], 62, 0⟩, some ⟨.mx [.t (.v (.slice none 0 0))], 58, 0⟩, some ⟨.mx [.os 4 0 r11.1.slots.length], 25, 0⟩, some ⟨.tr (eL r11.1.slots), 35, 2⟩, some ⟨.tr (eL r14.pages), 25, 1⟩, some ⟨.mx [.os 5 0 r14.pages.length], 58, 0⟩] rfl ?_
  refine PL.nil ?_
  refine thA_n ?_
  refine PC.seq ?_
  obtain ⟨x16, h_17, hh0⟩ := bind_some hh0
  refine PC.region ?_
  refine PL.op rfl (Rd.fieldO rfl rfl) ?_
  refine PL.op rfl (Rd.loadO rfl rfl rfl) ?_
  refine PL.op rfl (Rd.fieldO rfl rfl) ?_
  refine PL.op rfl (Rd.loadO rfl rfl rfl) ?_
  refine PL.op rfl (Rd.loadBox rfl rfl rfl) ?_
  refine PL.op rfl (Rd.ixOM rfl rfl rfl (ixI_lt h_17)) ?_
  refine PL.frz hs 4 7 [(44, .agg [sL r11.1.slots])] [some ⟨.mx [sL p_h.pages], 58, 0⟩, some ⟨.mx [iA p_r.page, iA p_r.slot], 62, 0⟩, some ⟨.mx [.t (.v (.slice none 0 0))], 58, 0⟩, some ⟨.mx [sL r11.1.slots], 25, 0⟩, none, some ⟨.tr (eL r14.pages), 25, 1⟩, some ⟨.mx [.os 5 0 r14.pages.length], 58, 0⟩] rfl rfl ⟨(.aggL ⟨(.own rfl (by decide) rfl rfl), trivial⟩), trivial⟩ ⟨⟨rfl, .inl rfl⟩, ⟨rfl, .inl rfl⟩, ⟨rfl, .inl rfl⟩, ⟨rfl, .inr ⟨_, rfl, rfl, rfl, .mx ⟨(.own rfl (by decide) rfl rfl), trivial⟩⟩⟩, ⟨rfl, .inl rfl⟩, ⟨rfl, .inl rfl⟩, trivial⟩ ?_
  refine PL.stRM r11.1 rfl rfl rfl rfl rfl h_17 rfl ?_
  refine PL.nO [some ⟨.mx [sL p_h.pages], 58, 0⟩, some ⟨.mx [iA p_r.page, iA p_r.slot], 62, 0⟩, some ⟨.mx [.t (.v (.slice none 0 0))], 58, 0⟩, some ⟨.mx [sL r11.1.slots], 25, 0⟩, none, some ⟨.tr (eL (r14.pages.set p_r.page.toNat r11.1)), 25, 1⟩, some ⟨.mx [.os 5 0 r14.pages.length], 58, 0⟩] rfl ?_
  refine PL.nil ?_
  refine thA_n ?_
  refine PC.seq ?_
  refine PC.region ?_
  refine PL.op rfl (Rd.loadBox rfl rfl rfl) ?_
  refine PL.store rfl rfl rfl rfl rfl rfl rfl ?_
  refine PL.nO [some ⟨.mx [sL p_h.pages], 58, 0⟩, some ⟨.mx [iA p_r.page, iA p_r.slot], 62, 0⟩, some ⟨.mx [.os 5 0 r14.pages.length], 58, 0⟩, some ⟨.mx [sL r11.1.slots], 25, 0⟩, none, some ⟨.tr (eL (r14.pages.set p_r.page.toNat r11.1)), 25, 1⟩, some ⟨.mx [.os 5 0 r14.pages.length], 58, 0⟩] rfl ?_
  refine PL.op rfl (Rd.asnT rfl) ?_
  refine PL.nil ?_
  refine thA_n ?_
  refine PC.ret ?_
  obtain rfl := some_in hh0
  exact FinA.mk (r := .tup [.agg [.os 0 0 ((((I_Heap.mk (r14.pages.set p_r.page.toNat r11.1)), true).1.pages).length)], bA (((I_Heap.mk (r14.pages.set p_r.page.toNat r11.1)), true).2)]) (bl := [⟨.tr (eL (((I_Heap.mk (r14.pages.set p_r.page.toNat r11.1)), true).1.pages)), 25, 1⟩]) [some 5] (.inl rfl) rfl (rl := [.cell 4 58, .tmp 5]) (.cellN rfl rfl rfl rfl (.tmp .nil)) rfl rfl rfl (.tupL ⟨.aggL ⟨.osE rfl (by simp only [List.length_set]), trivial⟩, .t _, trivial⟩) ⟨⟨_, rfl, rfl, rfl, .tr _⟩, trivial⟩ ⟨rfl, rfl⟩

def m_S_HeapUpdate (N : Nat) (p_h : I_Heap) (p_r : I_Rid) (p_data : ByteArray) : Option (I_Heap × I_Rid × Bool) :=
  (m_S_HeapDelete N p_h p_r).bind fun r1 =>
  cond r1.2
    ((ixI p_h.pages p_r.page).bind fun x4 =>
    (m_S_SetSlot N x4 p_r.slot p_data).bind fun r6 =>
    cond r6.2
      ((m_S_copyHeap N p_h).bind fun r9 =>
      (ixI r9.pages p_r.page).bind fun x11 =>
      some ((I_Heap.mk (r9.pages.set p_r.page.toNat r6.1)), p_r, true))
      ((m_S_insert N r1.1 p_data).bind fun r13 =>
      some (r13.1, r13.2.1, r13.2.2)))
    (some ((I_Heap.mk ([] : List I_Page)), (I_Rid.mk (0 : Int) (0 : Int)), false))
theorem w_S_HeapUpdate (N : Nat) (p_h : I_Heap) (p_r : I_Rid) (p_data : ByteArray) (r : I_Heap × I_Rid × Bool) (hh0 : m_S_HeapUpdate N p_h p_r p_data = some r) : FnX Try.prog 57 [] [.agg [sL p_h.pages], .agg [iA p_r.page, iA p_r.slot], sA p_data] (RE (.tup [.agg [.os 0 0 r.1.pages.length], .agg [iA r.2.1.page, iA r.2.1.slot], bA r.2.2]) [⟨.tr (eL r.1.pages), 25, 1⟩]) := by
  unfold m_S_HeapUpdate at hh0
  refine FnX.mk Try.func57 rfl rfl ?_
  intro s hs
  refine PC.seq ?_
  refine PC.region ?_
  refine PL.ef rfl (Ef.box rfl rfl rfl) ?_
  refine PL.nm (.op 0 0) [some ⟨.mx [sL p_h.pages], 58, 0⟩] rfl rfl ?_
  refine PL.ef rfl (Ef.box rfl rfl rfl) ?_
  refine PL.nm (.op 1 0) [some ⟨.mx [sL p_h.pages], 58, 0⟩, some ⟨.mx [iA p_r.page, iA p_r.slot], 62, 0⟩] rfl rfl ?_
  refine PL.ef rfl (Ef.alloc rfl rfl) ?_
  refine PL.nm (.op 2 0) [some ⟨.mx [sL p_h.pages], 58, 0⟩, some ⟨.mx [iA p_r.page, iA p_r.slot], 62, 0⟩, some ⟨.mx [.t (.v (.slice none 0 0))], 58, 0⟩] rfl rfl ?_
  refine PL.ef rfl (Ef.alloc rfl rfl) ?_
  refine PL.nm (.op 3 0) [some ⟨.mx [sL p_h.pages], 58, 0⟩, some ⟨.mx [iA p_r.page, iA p_r.slot], 62, 0⟩, some ⟨.mx [.t (.v (.slice none 0 0))], 58, 0⟩, some ⟨.mx [iA (0 : Int), iA (0 : Int)], 62, 0⟩] rfl rfl ?_
  refine PL.op rfl (Rd.asnT rfl) ?_
  refine PL.nil ?_
  refine thA_n ?_
  refine PC.seq ?_
  obtain ⟨r1, h_2, hh0⟩ := bind_some hh0
  refine PC.region ?_
  refine PL.op rfl (Rd.loadBox rfl rfl rfl) ?_
  refine PL.op rfl (Rd.loadBox rfl rfl rfl) ?_
  refine PL.callM false [] (w_S_HeapDelete N p_h p_r r1 h_2) rfl Try.call47 rfl ⟨.aggL ⟨.t _, trivial⟩, .aggL ⟨.t _, .t _, trivial⟩, trivial⟩ rfl trivial (fun h => by cases h) ?_
  refine PL.nm (.tup [.agg [.os 4 0 r1.1.pages.length], bA r1.2]) [some ⟨.mx [sL p_h.pages], 58, 0⟩, some ⟨.mx [iA p_r.page, iA p_r.slot], 62, 0⟩, some ⟨.mx [.t (.v (.slice none 0 0))], 58, 0⟩, some ⟨.mx [iA (0 : Int), iA (0 : Int)], 62, 0⟩, some ⟨.tr (eL r1.1.pages), 25, 1⟩] rfl rfl ?_
  refine PL.op rfl (Rd.moveU rfl) ?_
  refine PL.op rfl (Rd.extract rfl rfl) ?_
  refine PL.op rfl (Rd.extract rfl rfl) ?_
  refine PL.ef rfl (Ef.alloc rfl rfl) ?_
  refine PL.nm (.op 5 0) [some ⟨.mx [sL p_h.pages], 58, 0⟩, some ⟨.mx [iA p_r.page, iA p_r.slot], 62, 0⟩, some ⟨.mx [.t (.v (.slice none 0 0))], 58, 0⟩, some ⟨.mx [iA (0 : Int), iA (0 : Int)], 62, 0⟩, some ⟨.tr (eL r1.1.pages), 25, 1⟩, some ⟨.mx [.t (.v (.slice none 0 0))], 58, 0⟩] rfl rfl ?_
  refine PL.store rfl rfl rfl rfl rfl rfl rfl ?_
  refine PL.nO [some ⟨.mx [sL p_h.pages], 58, 0⟩, some ⟨.mx [iA p_r.page, iA p_r.slot], 62, 0⟩, some ⟨.mx [.t (.v (.slice none 0 0))], 58, 0⟩, some ⟨.mx [iA (0 : Int), iA (0 : Int)], 62, 0⟩, some ⟨.tr (eL r1.1.pages), 25, 1⟩, some ⟨.mx [.os 4 0 r1.1.pages.length], 58, 0⟩] rfl ?_
  refine PL.op rfl (Rd.asnT rfl) ?_
  refine PL.nil ?_
  refine thA_n ?_
  refine PC.seq ?_
  refine PC.seq ?_
  refine PC.region ?_
  refine PL.op rfl (Rd.moveT rfl) ?_
  refine PL.op rfl (Rd.unnot rfl) ?_
  refine PL.nil ?_
  refine thA_n ?_
  rcases cond_some hh0 with ⟨h_3, hh0⟩ | ⟨h_3, hh0⟩
  rotate_left
  · refine PC.cond_true rfl (not_f h_3) ?_
    refine PC.seq ?_
    refine PC.region ?_
    refine PL.op rfl (Rd.build rfl rfl rfl rfl) ?_
    refine PL.op rfl (Rd.build rfl rfl rfl rfl) ?_
    refine PL.store rfl rfl rfl rfl rfl rfl rfl ?_
    refine PL.store rfl rfl rfl rfl rfl rfl rfl ?_
    refine PL.op rfl (Rd.asnT rfl) ?_
    refine PL.nil ?_
    refine thA_n ?_
    refine PC.ret ?_
    refine thA_r ?_
    obtain rfl := some_in hh0
    exact FinA.mk (r := .tup [.agg [.os 0 0 ((((I_Heap.mk ([] : List I_Page)), (I_Rid.mk (0 : Int) (0 : Int)), false).1.pages).length)], .agg [iA (((I_Heap.mk ([] : List I_Page)), (I_Rid.mk (0 : Int) (0 : Int)), false).2.1.page), iA (((I_Heap.mk ([] : List I_Page)), (I_Rid.mk (0 : Int) (0 : Int)), false).2.1.slot)], bA (((I_Heap.mk ([] : List I_Page)), (I_Rid.mk (0 : Int) (0 : Int)), false).2.2)]) (bl := [⟨.tr (eL (((I_Heap.mk ([] : List I_Page)), (I_Rid.mk (0 : Int) (0 : Int)), false).1.pages)), 25, 1⟩]) [none] (.inl rfl) rfl (rl := [.cell 6 58, .cell 7 62, .tmp 8]) (.cellN rfl rfl rfl rfl (.cellN rfl rfl rfl rfl (.tmp .nil))) rfl rfl rfl (.tupL ⟨.aggL ⟨.osn rfl, trivial⟩, .aggL ⟨.t _, .t _, trivial⟩, .t _, trivial⟩) ⟨ow_nil _, trivial⟩ ⟨rfl, rfl⟩
  refine PC.cond_false rfl (not_t h_3) ?_
  refine PC.skip ?_
  refine thA_n ?_
  obtain ⟨x4, h_5, hh0⟩ := bind_some hh0
  obtain ⟨r6, h_7, hh0⟩ := bind_some hh0
  refine PC.cut hs (fun _ : Unit => [(2, sA p_data), (3, .op 0 0), (4, .op 1 0), (6, .op 2 0), (7, .op 3 0), (9, .op 4 0), (11, .op 6 0), (12, bA r6.2)]) (fun _ => [⟨.mx [sL p_h.pages], 58, 0⟩, ⟨.mx [iA p_r.page, iA p_r.slot], 62, 0⟩, ⟨.mx [.t (.v (.slice none 0 0))], 58, 0⟩, ⟨.mx [iA (0 : Int), iA (0 : Int)], 62, 0⟩, ⟨.mx [.os 5 0 r1.1.pages.length], 58, 0⟩, ⟨.tr (eL r1.1.pages), 25, 1⟩, ⟨.mx [.os 7 0 r6.1.slots.length], 25, 0⟩, ⟨.tr (eL r6.1.slots), 35, 2⟩]) (fun _ => True) ?_ ?_
  · refine PC.any (id := 4) 16 (.seg [0, 1, 2, 3, 4, 5, 6, 7, 8] (.fork (.seg [9, 10, 11, 12, 13, 14, 15] .done) (.seg [13, 9, 10, 11, 12, 14, 15] .done))) [] rfl (by kernel_rfl) rfl ?_
    refine PT.seg ?_
    refine PR.op rfl (Rd.fieldO rfl rfl) ?_
    refine PR.op rfl (Rd.loadO rfl rfl rfl) ?_
    refine PR.op rfl (Rd.fieldO rfl rfl) ?_
    refine PR.op rfl (Rd.loadO rfl rfl rfl) ?_
    refine PR.op rfl (Rd.ixM rfl rfl h_5) ?_
    refine PR.op rfl (Rd.elMR rfl h_5 rfl rfl) ?_
    refine PR.op rfl (Rd.fieldO rfl rfl) ?_
    refine PR.op rfl (Rd.loadO rfl rfl rfl) ?_
    refine PR.op rfl (Rd.moveT rfl) ?_
    refine PR.nil ?_
    refine PT.fork ?_ ?_
    · refine PT.seg ?_
      refine PR.callM false [] (w_S_SetSlot N x4 p_r.slot p_data r6 h_7) rfl Try.call30 rfl ⟨.aggL ⟨.t _, trivial⟩, .t _, .t _, trivial⟩ rfl trivial (fun h => by cases h) rfl ?_
      refine PR.nm (.tup [.agg [.os 6 0 r6.1.slots.length], bA r6.2]) [some ⟨.mx [sL p_h.pages], 58, 0⟩, some ⟨.mx [iA p_r.page, iA p_r.slot], 62, 0⟩, some ⟨.mx [.t (.v (.slice none 0 0))], 58, 0⟩, some ⟨.mx [iA (0 : Int), iA (0 : Int)], 62, 0⟩, some ⟨.tr (eL r1.1.pages), 25, 1⟩, some ⟨.mx [.os 4 0 r1.1.pages.length], 58, 0⟩, some ⟨.tr (eL r6.1.slots), 35, 2⟩] rfl rfl ?_
      refine PR.op rfl (Rd.moveU rfl) ?_
      refine PR.op rfl (Rd.extract rfl rfl) ?_
      refine PR.op rfl (Rd.extract rfl rfl) ?_
      refine PR.efX rfl rfl (Ef.alloc rfl rfl) ?_
      refine PR.nm (.op 7 0) [some ⟨.mx [sL p_h.pages], 58, 0⟩, some ⟨.mx [iA p_r.page, iA p_r.slot], 62, 0⟩, some ⟨.mx [.t (.v (.slice none 0 0))], 58, 0⟩, some ⟨.mx [iA (0 : Int), iA (0 : Int)], 62, 0⟩, some ⟨.tr (eL r1.1.pages), 25, 1⟩, some ⟨.mx [.os 4 0 r1.1.pages.length], 58, 0⟩, some ⟨.tr (eL r6.1.slots), 35, 2⟩, some ⟨.mx [.t (.v (.slice none 0 0))], 25, 0⟩] rfl rfl ?_
      refine PR.store rfl rfl rfl rfl rfl rfl rfl rfl ?_
      refine PR.nO [some ⟨.mx [sL p_h.pages], 58, 0⟩, some ⟨.mx [iA p_r.page, iA p_r.slot], 62, 0⟩, some ⟨.mx [.t (.v (.slice none 0 0))], 58, 0⟩, some ⟨.mx [iA (0 : Int), iA (0 : Int)], 62, 0⟩, some ⟨.tr (eL r1.1.pages), 25, 1⟩, some ⟨.mx [.os 4 0 r1.1.pages.length], 58, 0⟩, some ⟨.tr (eL r6.1.slots), 35, 2⟩, some ⟨.mx [.os 6 0 r6.1.slots.length], 25, 0⟩] rfl ?_
      refine PR.op rfl (Rd.asnT rfl) ?_
      refine PR.nil ?_
      refine PT.done ?_
      refine PL.nil ?_
      refine thA_n ?_
      exact ⟨(), trivial, [some 0, some 1, some 2, some 3, some 5, some 4, some 7, some 6], ⟨rfl, rfl, ⟨⟨_, rfl, rfl, rfl, .mx ⟨.t _, trivial⟩⟩, ⟨_, rfl, rfl, rfl, .mx ⟨.t _, .t _, trivial⟩⟩, ⟨_, rfl, rfl, rfl, .mx ⟨.t _, trivial⟩⟩, ⟨_, rfl, rfl, rfl, .mx ⟨.t _, .t _, trivial⟩⟩, ⟨_, rfl, rfl, rfl, .mx ⟨.os rfl, trivial⟩⟩, ⟨_, rfl, rfl, rfl, .tr _⟩, ⟨_, rfl, rfl, rfl, .mx ⟨.os rfl, trivial⟩⟩, ⟨_, rfl, rfl, rfl, .tr _⟩, trivial⟩, ⟨.t _, .op rfl, .op rfl, .op rfl, .op rfl, .op rfl, .op rfl, .t _, trivial⟩⟩⟩
    refine PT.seg ?_
    refine PR.efX rfl rfl (Ef.alloc rfl rfl) ?_
    refine PR.nm (.op 6 0) [some ⟨.mx [sL p_h.pages], 58, 0⟩, some ⟨.mx [iA p_r.page, iA p_r.slot], 62, 0⟩, some ⟨.mx [.t (.v (.slice none 0 0))], 58, 0⟩, some ⟨.mx [iA (0 : Int), iA (0 : Int)], 62, 0⟩, some ⟨.tr (eL r1.1.pages), 25, 1⟩, some ⟨.mx [.os 4 0 r1.1.pages.length], 58, 0⟩, some ⟨.mx [.t (.v (.slice none 0 0))], 25, 0⟩] rfl rfl ?_
    refine PR.callM false [] (w_S_SetSlot N x4 p_r.slot p_data r6 h_7) rfl Try.call30 rfl ⟨.aggL ⟨.t _, trivial⟩, .t _, .t _, trivial⟩ rfl trivial (fun h => by cases h) rfl ?_
    refine PR.nm (.tup [.agg [.os 7 0 r6.1.slots.length], bA r6.2]) [some ⟨.mx [sL p_h.pages], 58, 0⟩, some ⟨.mx [iA p_r.page, iA p_r.slot], 62, 0⟩, some ⟨.mx [.t (.v (.slice none 0 0))], 58, 0⟩, some ⟨.mx [iA (0 : Int), iA (0 : Int)], 62, 0⟩, some ⟨.tr (eL r1.1.pages), 25, 1⟩, some ⟨.mx [.os 4 0 r1.1.pages.length], 58, 0⟩, some ⟨.mx [.t (.v (.slice none 0 0))], 25, 0⟩, some ⟨.tr (eL r6.1.slots), 35, 2⟩] rfl rfl ?_
    refine PR.op rfl (Rd.moveU rfl) ?_
    refine PR.op rfl (Rd.extract rfl rfl) ?_
    refine PR.op rfl (Rd.extract rfl rfl) ?_
    refine PR.store rfl rfl rfl rfl rfl rfl rfl rfl ?_
    refine PR.nO [some ⟨.mx [sL p_h.pages], 58, 0⟩, some ⟨.mx [iA p_r.page, iA p_r.slot], 62, 0⟩, some ⟨.mx [.t (.v (.slice none 0 0))], 58, 0⟩, some ⟨.mx [iA (0 : Int), iA (0 : Int)], 62, 0⟩, some ⟨.tr (eL r1.1.pages), 25, 1⟩, some ⟨.mx [.os 4 0 r1.1.pages.length], 58, 0⟩, some ⟨.mx [.os 7 0 r6.1.slots.length], 25, 0⟩, some ⟨.tr (eL r6.1.slots), 35, 2⟩] rfl ?_
    refine PR.op rfl (Rd.asnT rfl) ?_
    refine PR.nil ?_
    refine PT.done ?_
    refine PL.nil ?_
    refine thA_n ?_
    exact ⟨(), trivial, [some 0, some 1, some 2, some 3, some 5, some 4, some 6, some 7], ⟨rfl, rfl, ⟨⟨_, rfl, rfl, rfl, .mx ⟨.t _, trivial⟩⟩, ⟨_, rfl, rfl, rfl, .mx ⟨.t _, .t _, trivial⟩⟩, ⟨_, rfl, rfl, rfl, .mx ⟨.t _, trivial⟩⟩, ⟨_, rfl, rfl, rfl, .mx ⟨.t _, .t _, trivial⟩⟩, ⟨_, rfl, rfl, rfl, .mx ⟨.os rfl, trivial⟩⟩, ⟨_, rfl, rfl, rfl, .tr _⟩, ⟨_, rfl, rfl, rfl, .mx ⟨.os rfl, trivial⟩⟩, ⟨_, rfl, rfl, rfl, .tr _⟩, trivial⟩, ⟨.t _, .op rfl, .op rfl, .op rfl, .op rfl, .op rfl, .op rfl, .t _, trivial⟩⟩⟩
  rintro ⟨⟩ -
  refine PC.seq ?_
  refine PC.seq ?_
  refine PC.region ?_
  refine PL.op rfl (Rd.moveT rfl) ?_
  refine PL.op rfl (Rd.unnot rfl) ?_
  refine PL.nil ?_
  refine thA_n ?_
  rcases cond_some hh0 with ⟨h_8, hh0⟩ | ⟨h_8, hh0⟩
  rotate_left
  · refine PC.cond_true rfl (not_f h_8) ?_
    refine PC.seq ?_
    obtain ⟨r13, h_14, hh0⟩ := bind_some hh0
    refine PC.region ?_
    refine PL.op rfl (Rd.loadBox rfl rfl rfl) ?_
    refine PL.op rfl (Rd.moveT rfl) ?_
    refine PL.frz hs 5 8 [(39, .agg [sL r1.1.pages])] [some ⟨.mx [sL p_h.pages], 58, 0⟩, some ⟨.mx [iA p_r.page, iA p_r.slot], 62, 0⟩, some ⟨.mx [.t (.v (.slice none 0 0))], 58, 0⟩, some ⟨.mx [iA (0 : Int), iA (0 : Int)], 62, 0⟩, some ⟨.mx [sL r1.1.pages], 58, 0⟩, none, some ⟨.mx [.os 7 0 r6.1.slots.length], 25, 0⟩, some ⟨.tr (eL r6.1.slots), 35, 2⟩] rfl rfl ⟨(.aggL ⟨(.own rfl (by decide) rfl rfl), trivial⟩), trivial⟩ ⟨⟨rfl, .inl rfl⟩, ⟨rfl, .inl rfl⟩, ⟨rfl, .inl rfl⟩, ⟨rfl, .inl rfl⟩, ⟨rfl, .inr ⟨_, rfl, rfl, rfl, .mx ⟨(.own rfl (by decide) rfl rfl), trivial⟩⟩⟩, ⟨rfl, .inl rfl⟩, ⟨rfl, .inl rfl⟩, trivial⟩ ?_
    refine PL.callM false [] (w_S_insert N r1.1 p_data r13 h_14) rfl Try.call81 rfl ⟨.aggL ⟨.t _, trivial⟩, .t _, trivial⟩ rfl trivial (fun h => by cases h) ?_
    refine PL.nm (.tup [.agg [.os 8 0 r13.1.pages.length], .agg [iA r13.2.1.page, iA r13.2.1.slot], bA r13.2.2]) [some ⟨.mx [sL p_h.pages], 58, 0⟩, some ⟨.mx [iA p_r.page, iA p_r.slot], 62, 0⟩, some ⟨.mx [.t (.v (.slice none 0 0))], 58, 0⟩, some ⟨.mx [iA (0 : Int), iA (0 : Int)], 62, 0⟩, some ⟨.mx [sL r1.1.pages], 58, 0⟩, none, some ⟨.mx [.os 7 0 r6.1.slots.length], 25, 0⟩, some ⟨.tr (eL r6.1.slots), 35, 2⟩, some ⟨.tr (eL r13.1.pages), 25, 1⟩] rfl rfl ?_
    refine PL.op rfl (Rd.extract rfl rfl) ?_
    refine PL.op rfl (Rd.extract rfl rfl) ?_
    refine PL.op rfl (Rd.extract rfl rfl) ?_
    refine PL.store rfl rfl rfl rfl rfl rfl rfl ?_
    refine PL.nO [some ⟨.mx [sL p_h.pages], 58, 0⟩, some ⟨.mx [iA p_r.page, iA p_r.slot], 62, 0⟩, some ⟨.mx [.os 8 0 r13.1.pages.length], 58, 0⟩, some ⟨.mx [iA (0 : Int), iA (0 : Int)], 62, 0⟩, some ⟨.mx [sL r1.1.pages], 58, 0⟩, none, some ⟨.mx [.os 7 0 r6.1.slots.length], 25, 0⟩, some ⟨.tr (eL r6.1.slots), 35, 2⟩, some ⟨.tr (eL r13.1.pages), 25, 1⟩] rfl ?_
    refine PL.store rfl rfl rfl rfl rfl rfl rfl ?_
    refine PL.nO [some ⟨.mx [sL p_h.pages], 58, 0⟩, some ⟨.mx [iA p_r.page, iA p_r.slot], 62, 0⟩, some ⟨.mx [.os 8 0 r13.1.pages.length], 58, 0⟩, some ⟨.mx [iA r13.2.1.page, iA r13.2.1.slot], 62, 0⟩, some ⟨.mx [sL r1.1.pages], 58, 0⟩, none, some ⟨.mx [.os 7 0 r6.1.slots.length], 25, 0⟩, some ⟨.tr (eL r6.1.slots), 35, 2⟩, some ⟨.tr (eL r13.1.pages), 25, 1⟩] rfl ?_
    refine PL.op rfl (Rd.asnT rfl) ?_
    refine PL.nil ?_
    refine thA_n ?_
    refine PC.ret ?_
    refine thA_r ?_
    obtain rfl := some_in hh0
    exact FinA.mk (r := .tup [.agg [.os 0 0 (((r13.1, r13.2.1, r13.2.2).1.pages).length)], .agg [iA ((r13.1, r13.2.1, r13.2.2).2.1.page), iA ((r13.1, r13.2.1, r13.2.2).2.1.slot)], bA ((r13.1, r13.2.1, r13.2.2).2.2)]) (bl := [⟨.tr (eL ((r13.1, r13.2.1, r13.2.2).1.pages)), 25, 1⟩]) [some 8] (.inl rfl) rfl (rl := [.cell 6 58, .cell 7 62, .tmp 8]) (.cellN rfl rfl rfl rfl (.cellN rfl rfl rfl rfl (.tmp .nil))) rfl rfl rfl (.tupL ⟨.aggL ⟨.os rfl, trivial⟩, .aggL ⟨.t _, .t _, trivial⟩, .t _, trivial⟩) ⟨⟨_, rfl, rfl, rfl, .tr _⟩, trivial⟩ ⟨rfl, rfl⟩
  refine PC.cond_false rfl (not_t h_8) ?_
  refine PC.skip ?_
  refine thA_n ?_
  refine PC.seq ?_
  obtain ⟨r9, h_10, hh0⟩ := bind_some hh0
  refine PC.region ?_
  refine PL.op rfl (Rd.loadBox rfl rfl rfl) ?_
  refine PL.callM false [] (w_S_copyHeap N p_h r9 h_10) rfl Try.call86 rfl ⟨.aggL ⟨.t _, trivial⟩, trivial⟩ rfl trivial (fun h => by cases h) ?_
  refine PL.nm (.agg [.os 8 0 r9.pages.length]) [some ⟨.mx [sL p_h.pages], 58, 0⟩, some ⟨.mx [iA p_r.page, iA p_r.slot], 62, 0⟩, some ⟨.mx [.t (.v (.slice none 0 0))], 58, 0⟩, some ⟨.mx [iA (0 : Int), iA (0 : Int)], 62, 0⟩, some ⟨.mx [.os 5 0 r1.1.pages.length], 58, 0⟩, some ⟨.tr (eL r1.1.pages), 25, 1⟩, some ⟨.mx [.os 7 0 r6.1.slots.length], 25, 0⟩, some ⟨.tr (eL r6.1.slots), 35, 2⟩, some ⟨.tr (eL r9.pages), 25, 1⟩] rfl rfl ?_
  refine PL.ef rfl (Ef.alloc rfl rfl) ?_
  refine PL.nm (.op 9 0) [some ⟨.mx [sL p_h.pages], 58, 0⟩, some ⟨.mx [iA p_r.page, iA p_r.slot], 62, 0⟩, some ⟨.mx [.t (.v (.slice none 0 0))], 58, 0⟩, some ⟨.mx [iA (0 : Int), iA (0 : Int)], 62, 0⟩, some ⟨.mx [.os 5 0 r1.1.pages.length], 58, 0⟩, some ⟨.tr (eL r1.1.pages), 25, 1⟩, some ⟨.mx [.os 7 0 r6.1.slots.length], 25, 0⟩, some ⟨.tr (eL r6.1.slots), 35, 2⟩, some ⟨.tr (eL r9.pages), 25, 1⟩, some ⟨.mx [.t (.v (.slice none 0 0))], 58, 0⟩] rfl rfl ?_
  refine PL.store rfl rfl rfl rfl rfl rfl rfl ?_
  refine PL.nO [some ⟨.mx [sL p_h.pages], 58, 0⟩, some ⟨.mx [iA p_r.page, iA p_r.slot], 62, 0⟩, some ⟨.mx [.t (.v (.slice none 0 0))], 58, 0⟩, some ⟨.mx [iA (0 : Int), iA (0 : Int)], 62, 0⟩, some ⟨.mx [.os 5 0 r1.1.pages.length], 58, 0⟩, some ⟨.tr (eL r1.1.pages), 25, 1⟩, some ⟨.mx [.os 7 0 r6.1.slots.length], 25, 0⟩, some ⟨.tr (eL r6.1.slots), 35, 2⟩, some ⟨.tr (eL r9.pages), 25, 1⟩, some ⟨.mx [.os 8 0 r9.pages.length], 58, 0⟩] rfl ?_
  refine PL.nil ?_
  refine thA_n ?_
  refine PC.seq ?_
  obtain ⟨x11, h_12, hh0⟩ := bind_some hh0
  refine PC.region ?_
  refine PL.op rfl (Rd.fieldO rfl rfl) ?_
  refine PL.op rfl (Rd.loadO rfl rfl rfl) ?_
  refine PL.op rfl (Rd.fieldO rfl rfl) ?_
  refine PL.op rfl (Rd.loadO rfl rfl rfl) ?_
  refine PL.op rfl (Rd.loadBox rfl rfl rfl) ?_
  refine PL.op rfl (Rd.ixOM rfl rfl rfl (ixI_lt h_12)) ?_
  refine PL.frz hs 7 10 [(51, .agg [sL r6.1.slots])] [some ⟨.mx [sL p_h.pages], 58, 0⟩, some ⟨.mx [iA p_r.page, iA p_r.slot], 62, 0⟩, some ⟨.mx [.t (.v (.slice none 0 0))], 58, 0⟩, some ⟨.mx [iA (0 : Int), iA (0 : Int)], 62, 0⟩, some ⟨.mx [.os 5 0 r1.1.pages.length], 58, 0⟩, some ⟨.tr (eL r1.1.pages), 25, 1⟩, some ⟨.mx [sL r6.1.slots], 25, 0⟩, none, some ⟨.tr (eL r9.pages), 25, 1⟩, some ⟨.mx [.os 8 0 r9.pages.length], 58, 0⟩] rfl rfl ⟨(.aggL ⟨(.own rfl (by decide) rfl rfl), trivial⟩), trivial⟩ ⟨⟨rfl, .inl rfl⟩, ⟨rfl, .inl rfl⟩, ⟨rfl, .inl rfl⟩, ⟨rfl, .inl rfl⟩, ⟨rfl, .inl rfl⟩, ⟨rfl, .inl rfl⟩, ⟨rfl, .inr ⟨_, rfl, rfl, rfl, .mx ⟨(.own rfl (by decide) rfl rfl), trivial⟩⟩⟩, ⟨rfl, .inl rfl⟩, ⟨rfl, .inl rfl⟩, trivial⟩ ?_
  refine PL.stRM r6.1 rfl rfl rfl rfl rfl h_12 rfl ?_
  refine PL.nO [some ⟨.mx [sL p_h.pages], 58, 0⟩, some ⟨.mx [iA p_r.page, iA p_r.slot], 62, 0⟩, some ⟨.mx [.t (.v (.slice none 0 0))], 58, 0⟩, some ⟨.mx [iA (0 : Int), iA (0 : Int)], 62, 0⟩, some ⟨.mx [.os 5 0 r1.1.pages.length], 58, 0⟩, some ⟨.tr (eL r1.1.pages), 25, 1⟩, some ⟨.mx [sL r6.1.slots], 25, 0⟩, none, some ⟨.tr (eL (r9.pages.set p_r.page.toNat r6.1)), 25, 1⟩, some ⟨.mx [.os 8 0 r9.pages.length], 58, 0⟩] rfl ?_
  refine PL.nil ?_
  refine thA_n ?_
  refine PC.seq ?_
  refine PC.any (id := 9) 5 (.seg [0, 1, 2, 3, 4] .done) [2, 3] rfl (by kernel_rfl) rfl ?_
  refine PT.seg ?_
  refine PR.op rfl (Rd.loadBox rfl rfl rfl) ?_
  refine PR.op rfl (Rd.loadBox rfl rfl rfl) ?_
  refine PR.store rfl rfl rfl rfl rfl rfl rfl rfl ?_
  refine PR.nO [some ⟨.mx [sL p_h.pages], 58, 0⟩, some ⟨.mx [iA p_r.page, iA p_r.slot], 62, 0⟩, some ⟨.mx [.os 8 0 r9.pages.length], 58, 0⟩, some ⟨.mx [iA (0 : Int), iA (0 : Int)], 62, 0⟩, some ⟨.mx [.os 5 0 r1.1.pages.length], 58, 0⟩, some ⟨.tr (eL r1.1.pages), 25, 1⟩, some ⟨.mx [sL r6.1.slots], 25, 0⟩, none, some ⟨.tr (eL (r9.pages.set p_r.page.toNat r6.1)), 25, 1⟩, some ⟨.mx [.os 8 0 r9.pages.length], 58, 0⟩] rfl ?_
  refine PR.store rfl rfl rfl rfl rfl rfl rfl rfl ?_
  refine PR.nO [some ⟨.mx [sL p_h.pages], 58, 0⟩, some ⟨.mx [iA p_r.page, iA p_r.slot], 62, 0⟩, some ⟨.mx [.os 8 0 r9.pages.length], 58, 0⟩, some ⟨.mx [iA p_r.page, iA p_r.slot], 62, 0⟩, some ⟨.mx [.os 5 0 r1.1.pages.length], 58, 0⟩, some ⟨.tr (eL r1.1.pages), 25, 1⟩, some ⟨.mx [sL r6.1.slots], 25, 0⟩, none, some ⟨.tr (eL (r9.pages.set p_r.page.toNat r6.1)), 25, 1⟩, some ⟨.mx [.os 8 0 r9.pages.length], 58, 0⟩] rfl ?_
  refine PR.op rfl (Rd.asnT rfl) ?_
  refine PR.nil ?_
  refine PT.done ?_
  refine PL.nil ?_
  refine thA_n ?_
  refine PC.ret ?_
  obtain rfl := some_in hh0
  exact FinA.mk (r := .tup [.agg [.os 0 0 ((((I_Heap.mk (r9.pages.set p_r.page.toNat r6.1)), p_r, true).1.pages).length)], .agg [iA (((I_Heap.mk (r9.pages.set p_r.page.toNat r6.1)), p_r, true).2.1.page), iA (((I_Heap.mk (r9.pages.set p_r.page.toNat r6.1)), p_r, true).2.1.slot)], bA (((I_Heap.mk (r9.pages.set p_r.page.toNat r6.1)), p_r, true).2.2)]) (bl := [⟨.tr (eL (((I_Heap.mk (r9.pages.set p_r.page.toNat r6.1)), p_r, true).1.pages)), 25, 1⟩]) [some 8] (.inl rfl) rfl (rl := [.cell 6 58, .cell 7 62, .tmp 8]) (.cellN rfl rfl rfl rfl (.cellN rfl rfl rfl rfl (.tmp .nil))) rfl rfl rfl (.tupL ⟨.aggL ⟨.osE rfl (by simp only [List.length_set]), trivial⟩, .aggL ⟨.t _, .t _, trivial⟩, .t _, trivial⟩) ⟨⟨_, rfl, rfl, rfl, .tr _⟩, trivial⟩ ⟨rfl, rfl⟩

end V
end Go.Proofs.Ytoljdhdfijnjiaa
